/- The texts W01b, W01c, Q7, W03, W03b, W03c, M0, M1, Q8, Q9, Q10, Q11, Q12, W24, M2, L24b, L24k, one behind the other: what the walks and plain laws need; conditions stand with each theorem. -/
import Derived.Laws.MakeOwn
import Derived.MapKept
import Derived.Test.YtaemmklgofddmaaCat2
/- Walks of layer 1, the program's, second part. -/
set_option linter.unusedVariables false
set_option linter.unusedSimpArgs false
namespace Go.Proofs.Ytaemmklgofddmaa.Fw
open Go.RowKit


/-- The order of two texts, and of two lists of texts. -/
def cmpS (x y : List UInt8) : Int := if Op.bytesLess x y then -1 else if !(Op.bytesLess x y || x == y) then 1 else 0
def cmpL : List (List UInt8) → List (List UInt8) → Int
  | [], [] => 0
  | [], _ :: _ => -1
  | _ :: _, [] => 1
  | x :: a, y :: b => if cmpS x y = 0 then cmpL a b else cmpS x y
def cmpN (a b : List UInt8) : Int := if canN a && canN b then cmpL (labN (lowN a)).reverse (labN (lowN b)).reverse else 0
theorem cmpS_le (x y : List UInt8) : -1 ≤ cmpS x y ∧ cmpS x y ≤ 1 := by unfold cmpS; split <;> (try split) <;> omega
theorem cmpL_le : ∀ a b : List (List UInt8), -1 ≤ cmpL a b ∧ cmpL a b ≤ 1
  | [], [] => by simp [cmpL]
  | [], _ :: _ => by simp [cmpL]
  | _ :: _, [] => by simp [cmpL]
  | x :: a, y :: b => by
    have := cmpS_le x y
    have := cmpL_le a b
    unfold cmpL
    split <;> omega
theorem cmpN_le (a b : List UInt8) : -1 ≤ cmpN a b ∧ cmpN a b ≤ 1 := by
  have := cmpL_le (labN (lowN a)).reverse (labN (lowN b)).reverse
  unfold cmpN
  split <;> omega
theorem cmpL_at {a b : List (List UInt8)} {i : Nat} (ha : i < a.length) (hb : i < b.length) : cmpL (a.drop i) (b.drop i) = if cmpS (a.getD i default) (b.getD i default) = 0 then cmpL (a.drop (i + 1)) (b.drop (i + 1)) else cmpS (a.getD i default) (b.getD i default) := by
  rw [List.drop_eq_getElem_cons ha, List.drop_eq_getElem_cons hb, cmpL]
  simp only [List.getD_eq_getElem?_getD, List.getElem?_eq_getElem ha, List.getElem?_eq_getElem hb, Option.getD_some]
theorem cmpL_a {a b : List (List UInt8)} {i : Nat} (ha : i < a.length) (hb : b.length = i) : cmpL (a.drop i) (b.drop i) = 1 := by
  rw [List.drop_eq_getElem_cons ha, List.drop_of_length_le (l := b) (by omega), cmpL]
theorem cmpL_b {a b : List (List UInt8)} {i : Nat} (ha : a.length = i) (hb : i < b.length) : cmpL (a.drop i) (b.drop i) = -1 := by
  rw [List.drop_eq_getElem_cons hb, List.drop_of_length_le (l := a) (by omega), cmpL]
theorem cmpL_0 {a b : List (List UInt8)} {i : Nat} (ha : a.length = i) (hb : b.length = i) : cmpL (a.drop i) (b.drop i) = 0 := by
  rw [List.drop_of_length_le (l := a) (by omega), List.drop_of_length_le (l := b) (by omega), cmpL]
/-- Half-way through turning a list round: the i outermost at each side have changed places. -/
def Half {α : Type} (l m : List α) (i : Nat) : Prop := m.length = l.length ∧ ∀ k, k < l.length → m[k]? = if k < i ∨ l.length ≤ k + i then l[l.length - 1 - k]? else l[k]?
theorem Half.start {α : Type} (l : List α) : Half l l 0 := ⟨rfl, fun k h => by rw [if_neg (by omega)]⟩
theorem Half.done {α : Type} {l m : List α} {i : Nat} (h : Half l m i) (hi : l.length ≤ 2 * i + 1) : m = l.reverse := by
  obtain ⟨h1, h2⟩ := h
  apply List.ext_getElem?
  intro k
  by_cases hk : k < l.length
  · rw [h2 k hk, List.getElem?_reverse hk]
    split
    · rfl
    · rw [show l.length - 1 - k = k by omega]
  · rw [List.getElem?_eq_none (by omega), List.getElem?_eq_none (by simp; omega)]
theorem Half.step {α : Type} [Inhabited α] {l m : List α} {i j : Nat} (h : Half l m i) (hi : i < j) (hj : j + i + 1 = l.length) : Half l ((m.set i (m.getD j default)).set j (m.getD i default)) (i + 1) := by
  obtain ⟨h1, h2⟩ := h
  refine ⟨by simp [h1], fun k hk => ?_⟩
  have hm : ∀ k, k < l.length → m[k]? = some (m.getD k default) := fun k hk => by rw [List.getD_eq_getElem?_getD, List.getElem?_eq_getElem (by omega)]; rfl
  rw [List.getElem?_set]
  by_cases e : j = k
  · subst e
    rw [if_pos rfl, if_pos (by simp; omega), if_pos (by omega), ← hm i (by omega), h2 i (by omega), if_neg (by omega), show l.length - 1 - j = i by omega]
  · rw [if_neg e, List.getElem?_set]
    by_cases e2 : i = k
    · subst e2
      rw [if_pos rfl, if_pos (by omega), if_pos (by omega), ← hm j (by omega), h2 j (by omega), if_neg (by omega), show l.length - 1 - i = j by omega]
    · rw [if_neg e2, h2 k hk]
      by_cases e3 : k < i ∨ l.length ≤ k + i
      · rw [if_pos e3, if_pos (by omega)]
      · rw [if_neg e3, if_neg (by omega)]
theorem next_of {n : List UInt8} (hc : canN n = true) (h0 : ¬ n = [0]) : nextB n = false := by
  cases hb : nextB n with
  | false => rfl
  | true => exact absurd (labN_end hc hb).2 h0
theorem lowN_len (n : List UInt8) : (lowN n).length ≤ 255 := by
  unfold lowN
  split
  · rename_i h; rw [List.length_map]; exact canN_len h
  · simp
theorem tailN_len (n : List UInt8) (k : Int) : (tailN n k).length ≤ 255 := by
  unfold tailN
  split
  · rename_i h
    by_cases e : (labN n).length - min (max k 0).toNat (labN n).length < (labN n).length
    · exact (tail_step h e).2
    · rw [List.drop_of_length_le (by omega)]; simp [joinN]
  · simp
theorem cntN_le (n : List UInt8) : 0 ≤ cntN n ∧ cntN n ≤ 254 := by have := labN_len n; unfold cntN; omega

set_option maxRecDepth 20000 in
theorem c_name_Same (a b : List UInt8) (ha : a.length ≤ 140737488355328) (hb : b.length ≤ 140737488355328) : AC Try.prog 52 [str a, str b] emp (Ret (tf (sameN a b))) := by
  have h1 := lowN_len a
  have h2 := lowN_len b
  refine AC.intro te_ok (fn := Try.f52) ⟨Try.func52, rfl, rfl⟩ (Nat.le_of_ble_eq_true rfl) ?_
  refine AWp.seq ?_
  refine AWp.region ?_
  refine AOps.cons rfl rfl (q_assign) ?_
  refine AOps.nil ?_
  refine AWp.seq ?_
  refine AWp.region ?_
  refine AOps.cons rfl rfl (q_move) ?_
  refine AOps.bool rfl rfl (q_call (0) (hc := c_name_Can _ (by first | assumption | omega | decide | (simp; omega) | (simp [*]; done)))) (fun h1_1 => ?_) (fun h1_1 => ?_)
  · skip
    refine AOps.cons rfl rfl (q_move) ?_
    refine AOps.gcons rfl rfl rfl rfl rfl (q_move) ?_
    refine AOps.gbool rfl rfl rfl rfl rfl (q_call (0) (hc := c_name_Can _ (by first | assumption | omega | decide | (simp; omega) | (simp [*]; done)))) (fun h1_4 => ?_) (fun h1_4 => ?_)
    · skip
      refine AOps.cons rfl rfl (q_pick) ?_
      refine AOps.cons rfl rfl (q_move) ?_
      refine AOps.gcons rfl rfl rfl rfl rfl (q_move) ?_
      refine AOps.gcons rfl rfl rfl rfl rfl (q_call (0) (hc := c_name_Lower _ (by first | assumption | omega | decide | (simp; omega) | (simp [*]; done)))) ?_
      refine AOps.gcons rfl rfl rfl rfl rfl (q_move) ?_
      refine AOps.gcons rfl rfl rfl rfl rfl (q_call (0) (hc := c_name_Lower _ (by first | assumption | omega | decide | (simp; omega) | (simp [*]; done)))) ?_
      refine AOps.gcons rfl rfl rfl rfl rfl (q_seql) ?_
      refine AOps.cons rfl rfl (q_pick) ?_
      refine AOps.cons rfl rfl (q_assign) ?_
      refine AOps.nil ?_
      refine AWp.ret ?_
      show Fin te Try.f52 _ _
      refine q_ret (0) [_] [_] ?_
      simp only [sameN, h1_1, h1_4]; rfl
    · skip
      refine AOps.cons rfl rfl (q_pick) ?_
      refine AOps.cons rfl rfl (q_move) ?_
      refine AOps.gskip rfl rfl rfl rfl rfl rfl rfl rfl ?_
      refine AOps.gskip rfl rfl rfl rfl rfl rfl rfl rfl ?_
      refine AOps.gskip rfl rfl rfl rfl rfl rfl rfl rfl ?_
      refine AOps.gskip rfl rfl rfl rfl rfl rfl rfl rfl ?_
      refine AOps.gskip rfl rfl rfl rfl rfl rfl rfl rfl ?_
      refine AOps.cons rfl rfl (q_pick) ?_
      refine AOps.cons rfl rfl (q_assign) ?_
      refine AOps.nil ?_
      refine AWp.ret ?_
      show Fin te Try.f52 _ _
      refine q_ret (0) [_] [_] ?_
      simp only [sameN, h1_1, h1_4]; rfl
  · skip
    refine AOps.cons rfl rfl (q_move) ?_
    refine AOps.gskip rfl rfl rfl rfl rfl rfl rfl rfl ?_
    refine AOps.gskip rfl rfl rfl rfl rfl rfl rfl rfl ?_
    refine AOps.cons rfl rfl (q_pick) ?_
    refine AOps.cons rfl rfl (q_move) ?_
    refine AOps.gskip rfl rfl rfl rfl rfl rfl rfl rfl ?_
    refine AOps.gskip rfl rfl rfl rfl rfl rfl rfl rfl ?_
    refine AOps.gskip rfl rfl rfl rfl rfl rfl rfl rfl ?_
    refine AOps.gskip rfl rfl rfl rfl rfl rfl rfl rfl ?_
    refine AOps.gskip rfl rfl rfl rfl rfl rfl rfl rfl ?_
    refine AOps.cons rfl rfl (q_pick) ?_
    refine AOps.cons rfl rfl (q_assign) ?_
    refine AOps.nil ?_
    refine AWp.ret ?_
    show Fin te Try.f52 _ _
    refine q_ret (0) [_] [_] ?_
    simp only [sameN, h1_1]; rfl

set_option maxRecDepth 20000 in
theorem c_name_Count (n : List UInt8) (h : n.length ≤ 140737488355328) : AC Try.prog 69 [str n] emp (Ret (i64 (cntN n))) := by
  refine AC.intro te_ok (fn := Try.f69) ⟨Try.func69, rfl, rfl⟩ (Nat.le_of_ble_eq_true rfl) ?_
  refine AWp.seq ?_
  refine AWp.region ?_
  refine AOps.cons rfl rfl (q_assign) ?_
  refine AOps.nil ?_
  refine AWp.seq ?_
  refine AWp.region ?_
  refine AOps.cons rfl rfl (q_move) ?_
  refine AOps.cons rfl rfl (q_callB (0) [] [(8, 2018)] [(_, _)] (hc := co_labels _ (by first | assumption | omega | decide | (simp; omega) | (simp [*]; done)))) ?_
  refine AOps.cons rfl rfl (q_len) ?_
  refine AOps.cons rfl rfl (q_assign) ?_
  refine AOps.nil ?_
  refine AWp.ret ?_
  show Fin te Try.f69 _ _
  refine q_ret (0) [_] [_] ?_
  rfl

set_option maxRecDepth 20000 in
theorem c_name_Tail (n : List UInt8) (h : n.length ≤ 140737488355328) (k : Int) (hk : -9223372036854775808 ≤ k ∧ k ≤ 9223372036854775807) : AC Try.prog 70 [str n, i64 k] emp (Ret (str (tailN n k))) := by
  have hll := labN_len n
  have hm : max k 0 = ((max k 0).toNat : Int) := by omega
  refine AC.intro te_ok (fn := Try.f70) ⟨Try.func70, rfl, rfl⟩ (Nat.le_of_ble_eq_true rfl) ?_
  refine AWp.seq ?_
  refine AWp.region ?_
  refine AOps.cons rfl rfl (q_assign) ?_
  refine AOps.nil ?_
  refine AWp.seq ?_
  refine AWp.seq ?_
  refine AWp.region ?_
  refine AOps.cons rfl rfl (q_move) ?_
  refine AOps.bool rfl rfl (q_call (0) (hc := c_name_Can _ (by first | assumption | omega | decide | (simp; omega) | (simp [*]; done)))) (fun h1_1 => ?_) (fun h1_1 => ?_)
  · skip
    refine AOps.cons rfl rfl (q_not) ?_
    refine AOps.nil ?_
    refine AWp.cond_f rfl ?_
    refine AWp.skip ?_
    refine AWp.seq ?_
    refine AWp.seq ?_
    refine AWp.region ?_
    refine AOps.cons rfl rfl (q_move) ?_
    refine AOps.cons rfl rfl (q_call (0) (hc := c_name_Count _ (by first | assumption | omega | decide | (simp; omega) | (simp [*]; done)))) ?_
    refine AOps.cons rfl rfl (q_assign) ?_
    refine AOps.nil ?_
    refine AWp.block ?_
    refine AWp.loopR (α := Nat) [0, 5, 11, 12, 13, 14, 15, 16, 17, 18, 19, 20, 21, 22] (fun j => [(0, str (joinN ((labN n).drop j))), (5, i64 ((labN n).length - j))]) (fun j => []) (fun j => j ≤ (labN n).length - min (max k 0).toNat (labN n).length) (fun j => (labN n).length - j) 0 ?_ (Back.mk' (HasT.cons (HasT.cons HasT.nil (h1 := by exact i64_eq (by unfold cntN; omega)) ) (h1 := by rw [← tail_start h1_1]; rfl) ) HasH.nil) ?_
    · exact Nat.zero_le _
    · rintro j hI4
      refine AWp.seq ?_
      refine AWp.seq ?_
      refine AWp.region ?_
      refine AOps.cons rfl rfl (q_move) ?_
      refine AOps.cons rfl rfl (q_move) ?_
      refine AOps.cons rfl rfl (q_max) ?_
      refine AOps.dec rfl rfl (q_gtr) (fun h4_3 => ?_) (fun h4_3 => ?_)
      · skip
        refine AOps.nil ?_
        refine AWp.cond_t rfl ?_
        refine AWp.skip ?_
        refine AWp.seq ?_
        refine AWp.block ?_
        refine AWp.region ?_
        have hj2 := (tail_step h1_1 (j := j) (by omega)).2
        refine AOps.cons rfl rfl (q_move) ?_
        refine AOps.cons rfl rfl (q_call (0) (hc := c_name_next _ (by first | assumption | omega | decide | (simp; omega) | (simp [*]; done)))) ?_
        refine AOps.cons rfl rfl (q_move) ?_
        refine AOps.cons rfl rfl (q_extract) ?_
        refine AOps.cons rfl rfl (q_extract) ?_
        refine AOps.cons rfl rfl (q_extract) ?_
        refine AOps.cons rfl rfl (q_assign) ?_
        refine AOps.nil ?_
        refine AWp.region ?_
        refine AOps.cons rfl rfl (q_move) ?_
        refine AOps.cons rfl rfl (q_sub) ?_
        refine AOps.cons rfl rfl (q_assign) ?_
        refine AOps.nil ?_
        have hj : j < (labN n).length := by omega
        refine ⟨j + 1, ?_, Back.mk' (HasT.cons (HasT.cons HasT.nil (h1 := by exact i64_eq (by omega)) ) (h1 := by rw [← (tail_step h1_1 hj).1]; rfl) ) HasH.nil, ?_⟩
        · omega
        · omega
      · skip
        refine AOps.nil ?_
        refine AWp.cond_f rfl ?_
        refine AWp.exit ?_
        refine AWp.seq ?_
        refine AWp.region ?_
        refine AOps.cons rfl rfl (q_move) ?_
        refine AOps.cons rfl rfl (q_assign) ?_
        refine AOps.nil ?_
        refine AWp.ret ?_
        show Fin te Try.f70 _ _
        refine q_ret (0) [_] [_] ?_
        rw [tailN, if_pos h1_1, show j = (labN n).length - min (max k 0).toNat (labN n).length by omega]; rfl
  · skip
    refine AOps.cons rfl rfl (q_not) ?_
    refine AOps.nil ?_
    refine AWp.cond_t rfl ?_
    refine AWp.seq ?_
    refine AWp.region ?_
    refine AOps.cons rfl rfl (q_assign) ?_
    refine AOps.nil ?_
    refine AWp.ret ?_
    show Fin te Try.f70 _ _
    refine q_ret (0) [_] [_] ?_
    rw [tailN, if_neg (by simp [h1_1])]; rfl

set_option maxRecDepth 20000 in
theorem c_name_Within (a b : List UInt8) (ha : a.length ≤ 140737488355328) (hb : b.length ≤ 140737488355328) : AC Try.prog 53 [str a, str b] emp (Ret (tf (withN a b))) := by
  have h1 := cntN_le a
  have h2 := cntN_le b
  have h3 := tailN_len a (cntN b)
  refine AC.intro te_ok (fn := Try.f53) ⟨Try.func53, rfl, rfl⟩ (Nat.le_of_ble_eq_true rfl) ?_
  refine AWp.seq ?_
  refine AWp.region ?_
  refine AOps.cons rfl rfl (q_assign) ?_
  refine AOps.nil ?_
  refine AWp.seq ?_
  refine AWp.region ?_
  refine AOps.cons rfl rfl (q_move) ?_
  refine AOps.bool rfl rfl (q_call (0) (hc := c_name_Can _ (by first | assumption | omega | decide | (simp; omega) | (simp [*]; done)))) (fun h1_1 => ?_) (fun h1_1 => ?_)
  · skip
    refine AOps.cons rfl rfl (q_move) ?_
    refine AOps.gcons rfl rfl rfl rfl rfl (q_move) ?_
    refine AOps.gbool rfl rfl rfl rfl rfl (q_call (0) (hc := c_name_Can _ (by first | assumption | omega | decide | (simp; omega) | (simp [*]; done)))) (fun h1_4 => ?_) (fun h1_4 => ?_)
    · skip
      refine AOps.cons rfl rfl (q_pick) ?_
      refine AOps.cons rfl rfl (q_move) ?_
      refine AOps.gcons rfl rfl rfl rfl rfl (q_move) ?_
      refine AOps.gcons rfl rfl rfl rfl rfl (q_call (0) (hc := c_name_Count _ (by first | assumption | omega | decide | (simp; omega) | (simp [*]; done)))) ?_
      refine AOps.gcons rfl rfl rfl rfl rfl (q_move) ?_
      refine AOps.gcons rfl rfl rfl rfl rfl (q_call (0) (hc := c_name_Count _ (by first | assumption | omega | decide | (simp; omega) | (simp [*]; done)))) ?_
      refine AOps.gdec rfl rfl rfl rfl rfl (q_geq) (fun h1_11 => ?_) (fun h1_11 => ?_)
      · skip
        refine AOps.cons rfl rfl (q_pick) ?_
        refine AOps.cons rfl rfl (q_move) ?_
        refine AOps.gcons rfl rfl rfl rfl rfl (q_move) ?_
        refine AOps.gcons rfl rfl rfl rfl rfl (q_move) ?_
        refine AOps.gcons rfl rfl rfl rfl rfl (q_call (0) (hc := c_name_Count _ (by first | assumption | omega | decide | (simp; omega) | (simp [*]; done)))) ?_
        refine AOps.gcons rfl rfl rfl rfl rfl (q_call (0) (hc := c_name_Tail _ (by first | assumption | omega | decide | (simp; omega) | (simp [*]; done)) _ (by first | assumption | omega | decide | (simp; omega) | (simp [*]; done)))) ?_
        refine AOps.gcons rfl rfl rfl rfl rfl (q_move) ?_
        refine AOps.gcons rfl rfl rfl rfl rfl (q_call (0) (hc := c_name_Same _ _ (by first | assumption | omega | decide | (simp; omega) | (simp [*]; done)) (by first | assumption | omega | decide | (simp; omega) | (simp [*]; done)))) ?_
        refine AOps.cons rfl rfl (q_pick) ?_
        refine AOps.cons rfl rfl (q_assign) ?_
        refine AOps.nil ?_
        refine AWp.ret ?_
        show Fin te Try.f53 _ _
        refine q_ret (0) [_] [_] ?_
        simp only [withN, h1_1, h1_4, decide_eq_true (show cntN b ≤ cntN a by omega)]; rfl
      · skip
        refine AOps.cons rfl rfl (q_pick) ?_
        refine AOps.cons rfl rfl (q_move) ?_
        refine AOps.gskip rfl rfl rfl rfl rfl rfl rfl rfl ?_
        refine AOps.gskip rfl rfl rfl rfl rfl rfl rfl rfl ?_
        refine AOps.gskip rfl rfl rfl rfl rfl rfl rfl rfl ?_
        refine AOps.gskip rfl rfl rfl rfl rfl rfl rfl rfl ?_
        refine AOps.gskip rfl rfl rfl rfl rfl rfl rfl rfl ?_
        refine AOps.gskip rfl rfl rfl rfl rfl rfl rfl rfl ?_
        refine AOps.cons rfl rfl (q_pick) ?_
        refine AOps.cons rfl rfl (q_assign) ?_
        refine AOps.nil ?_
        refine AWp.ret ?_
        show Fin te Try.f53 _ _
        refine q_ret (0) [_] [_] ?_
        simp only [withN, h1_1, h1_4, decide_eq_false (show ¬ cntN b ≤ cntN a by omega)]; rfl
    · skip
      refine AOps.cons rfl rfl (q_pick) ?_
      refine AOps.cons rfl rfl (q_move) ?_
      refine AOps.gskip rfl rfl rfl rfl rfl rfl rfl rfl ?_
      refine AOps.gskip rfl rfl rfl rfl rfl rfl rfl rfl ?_
      refine AOps.gskip rfl rfl rfl rfl rfl rfl rfl rfl ?_
      refine AOps.gskip rfl rfl rfl rfl rfl rfl rfl rfl ?_
      refine AOps.gskip rfl rfl rfl rfl rfl rfl rfl rfl ?_
      refine AOps.cons rfl rfl (q_pick) ?_
      refine AOps.cons rfl rfl (q_move) ?_
      refine AOps.gskip rfl rfl rfl rfl rfl rfl rfl rfl ?_
      refine AOps.gskip rfl rfl rfl rfl rfl rfl rfl rfl ?_
      refine AOps.gskip rfl rfl rfl rfl rfl rfl rfl rfl ?_
      refine AOps.gskip rfl rfl rfl rfl rfl rfl rfl rfl ?_
      refine AOps.gskip rfl rfl rfl rfl rfl rfl rfl rfl ?_
      refine AOps.gskip rfl rfl rfl rfl rfl rfl rfl rfl ?_
      refine AOps.cons rfl rfl (q_pick) ?_
      refine AOps.cons rfl rfl (q_assign) ?_
      refine AOps.nil ?_
      refine AWp.ret ?_
      show Fin te Try.f53 _ _
      refine q_ret (0) [_] [_] ?_
      simp only [withN, h1_1, h1_4]; rfl
  · skip
    refine AOps.cons rfl rfl (q_move) ?_
    refine AOps.gskip rfl rfl rfl rfl rfl rfl rfl rfl ?_
    refine AOps.gskip rfl rfl rfl rfl rfl rfl rfl rfl ?_
    refine AOps.cons rfl rfl (q_pick) ?_
    refine AOps.cons rfl rfl (q_move) ?_
    refine AOps.gskip rfl rfl rfl rfl rfl rfl rfl rfl ?_
    refine AOps.gskip rfl rfl rfl rfl rfl rfl rfl rfl ?_
    refine AOps.gskip rfl rfl rfl rfl rfl rfl rfl rfl ?_
    refine AOps.gskip rfl rfl rfl rfl rfl rfl rfl rfl ?_
    refine AOps.gskip rfl rfl rfl rfl rfl rfl rfl rfl ?_
    refine AOps.cons rfl rfl (q_pick) ?_
    refine AOps.cons rfl rfl (q_move) ?_
    refine AOps.gskip rfl rfl rfl rfl rfl rfl rfl rfl ?_
    refine AOps.gskip rfl rfl rfl rfl rfl rfl rfl rfl ?_
    refine AOps.gskip rfl rfl rfl rfl rfl rfl rfl rfl ?_
    refine AOps.gskip rfl rfl rfl rfl rfl rfl rfl rfl ?_
    refine AOps.gskip rfl rfl rfl rfl rfl rfl rfl rfl ?_
    refine AOps.gskip rfl rfl rfl rfl rfl rfl rfl rfl ?_
    refine AOps.cons rfl rfl (q_pick) ?_
    refine AOps.cons rfl rfl (q_assign) ?_
    refine AOps.nil ?_
    refine AWp.ret ?_
    show Fin te Try.f53 _ _
    refine q_ret (0) [_] [_] ?_
    simp only [withN, h1_1]; rfl

end Go.Proofs.Ytaemmklgofddmaa.Fw

/- Walks of layer 1: the orders and the reference's. -/
set_option linter.unusedVariables false
set_option linter.unusedSimpArgs false
namespace Go.Proofs.Ytaemmklgofddmaa.Fw
open Go.RowKit


theorem can_labs {n : List UInt8} (h : canN n = true) : GoodN (labN n) ∧ n = joinN (labN n) ∧ n.length ≤ 255 := by
  obtain ⟨ls, g, rfl, hl⟩ := canN_iff.1 h
  rw [labN_join g hl]
  exact ⟨g, rfl, hl⟩
theorem labs_end (n : List UInt8) {i : Nat} (h : n.length ≤ i) : (labs (n.drop i)).isSome = false := by
  rw [List.drop_of_length_le h, labs]; rfl
theorem labs_at {n : List UInt8} {i : Nat} (hi : i < n.length) : (labs (n.drop i)).isSome = if (n.getD i 0).toNat = 0 then decide (i + 1 = n.length) else if 63 < (n.getD i 0).toNat then false else (labs (n.drop (i + 1 + (n.getD i 0).toNat))).isSome := by
  have hg : n.getD i 0 = n[i] := by rw [List.getD_eq_getElem?_getD, List.getElem?_eq_getElem hi]; rfl
  rw [List.drop_eq_getElem_cons hi, labs, ← hg]
  generalize n.getD i 0 = k
  have hz : k = 0 ↔ k.toNat = 0 := ⟨fun e => by rw [e]; rfl, fun e => UInt8.toNat_inj.1 (by simpa using e)⟩
  by_cases h0 : k.toNat = 0
  · rw [if_pos (hz.2 h0), if_pos h0]
    by_cases he : i + 1 = n.length
    · rw [if_pos (List.drop_of_length_le (by omega)), decide_eq_true he]; rfl
    · rw [if_neg (fun e => by have := congrArg List.length e; simp at this; omega), decide_eq_false he]; rfl
  · rw [if_neg (fun e => h0 (hz.1 e)), if_neg h0]
    by_cases h6 : 63 < k.toNat
    · rw [if_pos (Or.inl h6), if_pos h6]; rfl
    · rw [if_neg h6]
      by_cases hr : (n.drop (i + 1)).length < k.toNat
      · rw [if_pos (Or.inr hr), labs_end n (by simp at hr; omega)]; rfl
      · rw [if_neg (by omega), Option.isSome_map, List.drop_drop]
theorem at_root {n : List UInt8} {i : Nat} (h : n.drop i = joinN []) : i < n.length ∧ (n.getD i 0).toNat = 0 := by
  have hl := congrArg List.length h
  rw [joinN_nil, List.length_drop] at hl
  simp at hl
  have hi : i < n.length := by omega
  refine ⟨hi, ?_⟩
  rw [List.drop_eq_getElem_cons hi, joinN_nil] at h
  rw [List.getD_eq_getElem?_getD, List.getElem?_eq_getElem hi, Option.getD_some, (List.cons.inj h).1]
  rfl
theorem at_lab {n l : List UInt8} {ls : List (List UInt8)} {i : Nat} (g : GoodN (l :: ls)) (h : n.drop i = joinN (l :: ls)) : i < n.length ∧ (n.getD i 0).toNat = l.length ∧ i + 1 + l.length < n.length ∧ (n.take (i + 1 + l.length)).drop (i + 1) = l ∧ n.drop (i + 1 + l.length) = joinN ls ∧ 1 ≤ l.length ∧ l.length ≤ 63 := by
  have hl := congrArg List.length h
  have hp := joinN_length ls
  rw [joinN_cons, List.length_drop, List.length_cons, List.length_append] at hl
  have hi : i < n.length := by omega
  have h2 := h
  rw [List.drop_eq_getElem_cons hi, joinN_cons] at h2
  obtain ⟨e1, e2⟩ := List.cons.inj h2
  refine ⟨hi, ?_, by omega, ?_, ?_, g.head.1, g.head.2⟩
  · rw [List.getD_eq_getElem?_getD, List.getElem?_eq_getElem hi, Option.getD_some, e1]
    exact byte_len g.head.2
  · rw [List.drop_take, e2, show i + 1 + l.length - (i + 1) = l.length by omega, List.take_left]
  · rw [← List.drop_drop, e2, List.drop_left]
theorem low_len {n : List UInt8} (h : canN n = true) : lowN n = joinN (lowL (labN n)) ∧ (joinN (lowL (labN n))).length ≤ 255 := by
  obtain ⟨ls, g, rfl, hl⟩ := canN_iff.1 h
  rw [labN_join g hl, lowN_join g hl]
  exact ⟨rfl, by rw [low_length g]; exact hl⟩
theorem joinN_drop_le : ∀ (ls : List (List UInt8)) (j : Nat), (joinN (ls.drop j)).length ≤ (joinN ls).length
  | [], j => by simp
  | l :: ls, 0 => Nat.le_refl _
  | l :: ls, j + 1 => by
    have := joinN_drop_le ls j
    have := joinN_le (l := l) (ls := ls)
    simp only [List.drop_succ_cons]
    omega
theorem join_at {ls : List (List UInt8)} {i : Nat} (hi : i < ls.length) : joinN (ls.drop i) = byte ((ls.getD i default).length : Int) :: (ls.getD i default ++ joinN (ls.drop (i + 1))) := by
  have e : ls.getD i default = ls[i] := by rw [List.getD_eq_getElem?_getD, List.getElem?_eq_getElem hi]; rfl
  rw [List.drop_eq_getElem_cons hi, joinN_cons, e]
theorem take_map_step {α β : Type} [Inhabited α] (f : α → β) {l : List α} {i : Nat} (hi : i < l.length) : (l.take (i + 1)).map f = (l.take i).map f ++ [f (l.getD i default)] := by
  have e : l.getD i default = l[i] := by rw [List.getD_eq_getElem?_getD, List.getElem?_eq_getElem hi]; rfl
  rw [List.take_succ_eq_append_getElem hi, List.map_append, e]
  rfl
theorem getD_mem' {α : Type} [Inhabited α] {l : List α} {i : Nat} (hi : i < l.length) : l.getD i default ∈ l := by
  rw [List.getD_eq_getElem?_getD, List.getElem?_eq_getElem hi]; exact List.getElem_mem hi
theorem rev_at {α : Type} [Inhabited α] {l : List α} {k : Nat} (h : k < l.length) : l.getD ((l.length : Int) - ((k : Int) + 1)).toNat default = l.reverse.getD k default := by
  rw [List.getD_eq_getElem?_getD, List.getD_eq_getElem?_getD, List.getElem?_reverse h, show ((l.length : Int) - ((k : Int) + 1)).toNat = l.length - 1 - k by omega]
/-- The names of a law's draws. -/
def tblN : List (List UInt8) := [[97], [98], [119, 119, 119], [110, 115], [65], [120, 45, 49]]
def pickN (c : UInt8) : List UInt8 := tblN.getD (c % 6).toNat default
def plainN (b : List UInt8) : List UInt8 := joinN ((b.take 4).map pickN)
set_option maxRecDepth 10000 in
theorem pickN_good : ∀ c : UInt8, 1 ≤ (pickN c).length ∧ (pickN c).length ≤ 3 := by
  have h : ∀ k : _root_.Fin 256, 1 ≤ (pickN (UInt8.ofNat k.val)).length ∧ (pickN (UInt8.ofNat k.val)).length ≤ 3 := by decide
  intro c
  have := h ⟨c.toNat, c.toNat_lt⟩
  simpa using this
theorem joinN_small : ∀ {ls : List (List UInt8)}, (∀ l ∈ ls, l.length ≤ 3) → (joinN ls).length ≤ 4 * ls.length + 1
  | [], _ => by simp [joinN]
  | l :: ls, h => by
    have := joinN_small (ls := ls) fun x hx => h x (by simp [hx])
    have := h l (by simp)
    rw [joinN_cons]
    simp
    omega
theorem plain_good (b : List UInt8) : GoodN ((b.take 4).map pickN) ∧ (plainN b).length ≤ 17 := by
  refine ⟨fun l hl => ?_, ?_⟩
  · obtain ⟨c, _, rfl⟩ := List.mem_map.1 hl
    have := pickN_good c
    omega
  · have := joinN_small (ls := (b.take 4).map pickN) fun l hl => by
      obtain ⟨c, _, rfl⟩ := List.mem_map.1 hl
      exact (pickN_good c).2
    have h4 : ((b.take 4).map pickN).length ≤ 4 := by rw [List.length_map, List.length_take]; omega
    show (joinN _).length ≤ 17
    omega

set_option maxRecDepth 20000 in
theorem c_ciceroneref01_Can (n : List UInt8) (h : n.length ≤ 140737488355328) : AC Try.prog 40 [str n] emp (Ret (tf (canN n))) := by
  refine AC.intro te_ok (fn := Try.f40) ⟨Try.func40, rfl, rfl⟩ (Nat.le_of_ble_eq_true rfl) ?_
  refine AWp.seq ?_
  refine AWp.region ?_
  refine AOps.cons rfl rfl (q_assign) ?_
  refine AOps.nil ?_
  refine AWp.seq ?_
  refine AWp.seq ?_
  refine AWp.region ?_
  refine AOps.cons rfl rfl (q_move) ?_
  refine AOps.cons rfl rfl (q_len_str) ?_
  refine AOps.dec rfl rfl (q_gtr) (fun h1_2 => ?_) (fun h1_2 => ?_)
  · skip
    refine AOps.nil ?_
    refine AWp.cond_t rfl ?_
    refine AWp.seq ?_
    refine AWp.region ?_
    refine AOps.cons rfl rfl (q_assign) ?_
    refine AOps.nil ?_
    refine AWp.ret ?_
    show Fin te Try.f40 _ _
    refine q_ret (0) [_] [_] ?_
    have e : canN n = false := by rw [canN, decide_eq_false (by omega), Bool.and_false]
    rw [e]; rfl
  · skip
    refine AOps.nil ?_
    refine AWp.cond_f rfl ?_
    refine AWp.skip ?_
    refine AWp.seq ?_
    refine AWp.region ?_
    refine AOps.cons rfl rfl (q_assign) ?_
    refine AOps.nil ?_
    refine AWp.seq ?_
    refine AWp.block ?_
    refine AWp.loopR (α := Nat) [2, 3, 4, 8, 9, 10, 11, 12, 13, 14, 15, 16, 17, 18, 19, 20, 21, 22, 23, 24, 25, 26, 27, 28] (fun i => [(3, i64 i)]) (fun i => []) (fun i => (labs n).isSome = (labs (n.drop i)).isSome ∧ i ≤ 319) (fun i => n.length - i) 0 ?_ (Back.mk' (HasT.cons HasT.nil) HasH.nil) ?_
    · exact ⟨rfl, by omega⟩
    · rintro i ⟨hc, hi⟩
      refine AWp.seq ?_
      refine AWp.seq ?_
      refine AWp.region ?_
      refine AOps.cons rfl rfl (q_move) ?_
      refine AOps.cons rfl rfl (q_move) ?_
      refine AOps.cons rfl rfl (q_len_str) ?_
      refine AOps.dec rfl rfl (q_lss) (fun h4_3 => ?_) (fun h4_3 => ?_)
      · skip
        refine AOps.nil ?_
        refine AWp.cond_t rfl ?_
        refine AWp.skip ?_
        refine AWp.block ?_
        refine AWp.seq ?_
        refine AWp.region ?_
        have hk := (n.getD i 0).toNat_lt
        refine AOps.cons rfl rfl (q_move) ?_
        refine AOps.cons rfl rfl (q_move) ?_
        refine AOps.cons rfl rfl (q_ixs) ?_
        refine AOps.cons rfl rfl (q_conv_8i) ?_
        refine AOps.cons rfl rfl (q_assign) ?_
        refine AOps.nil ?_
        refine AWp.seq ?_
        refine AWp.seq ?_
        refine AWp.region ?_
        have hla := labs_at (n := n) (i := i) (by omega)
        refine AOps.cons rfl rfl (q_move) ?_
        refine AOps.dec rfl rfl (q_eql) (fun h6_1 => ?_) (fun h6_1 => ?_)
        · skip
          refine AOps.nil ?_
          refine AWp.cond_t rfl ?_
          refine AWp.seq ?_
          refine AWp.region ?_
          refine AOps.cons rfl rfl (q_move) ?_
          refine AOps.cons rfl rfl (q_move) ?_
          refine AOps.cons rfl rfl (q_len_str) ?_
          refine AOps.cons rfl rfl (q_sub) ?_
          refine AOps.cons rfl rfl (q_eql) ?_
          refine AOps.cons rfl rfl (q_assign) ?_
          refine AOps.nil ?_
          refine AWp.ret ?_
          show Fin te Try.f40 _ _
          refine q_ret (0) [_] [_] ?_
          have k1 : ((n.getD i 0).toNat : Int) = 0 := h6_1
          rw [if_pos (by omega)] at hla
          rw [canN, hc, hla, decide_eq_true (show n.length ≤ 255 by omega), Bool.and_true]
          exact congrArg tf (decide_eq_decide.2 (by omega))
        · skip
          refine AOps.nil ?_
          refine AWp.cond_f rfl ?_
          refine AWp.skip ?_
          refine AWp.seq ?_
          refine AWp.seq ?_
          refine AWp.region ?_
          refine AOps.cons rfl rfl (q_move) ?_
          refine AOps.dec rfl rfl (q_gtr) (fun h8_1 => ?_) (fun h8_1 => ?_)
          · skip
            refine AOps.nil ?_
            refine AWp.cond_t rfl ?_
            refine AWp.seq ?_
            refine AWp.region ?_
            refine AOps.cons rfl rfl (q_assign) ?_
            refine AOps.nil ?_
            refine AWp.ret ?_
            show Fin te Try.f40 _ _
            refine q_ret (0) [_] [_] ?_
            have k1 : ¬ ((n.getD i 0).toNat : Int) = 0 := h6_1
            have k2 : 63 < ((n.getD i 0).toNat : Int) := h8_1
            rw [if_neg (by omega), if_pos (by omega)] at hla
            rw [canN, hc, hla]; rfl
          · skip
            refine AOps.nil ?_
            refine AWp.cond_f rfl ?_
            refine AWp.skip ?_
            refine AWp.region ?_
            have k2 : ¬ 63 < ((n.getD i 0).toNat : Int) := h8_1
            have hk3 : ((n.getD (i : Int).toNat 0).toNat : Int) = ((n.getD i 0).toNat : Int) := rfl
            refine AOps.cons rfl rfl (q_move) ?_
            refine AOps.cons rfl rfl (q_move) ?_
            refine AOps.cons rfl rfl (q_add) ?_
            refine AOps.cons rfl rfl (q_add) ?_
            refine AOps.cons rfl rfl (q_assign) ?_
            refine AOps.nil ?_
            have k1 : ¬ ((n.getD i 0).toNat : Int) = 0 := h6_1
            have k2 : ¬ 63 < ((n.getD i 0).toNat : Int) := h8_1
            refine ⟨i + 1 + (n.getD i 0).toNat, ?_, Back.mk' (HasT.cons HasT.nil (h1 := by exact i64_eq (by show (i : Int) + (1 + ((n.getD i 0).toNat : Int)) = ((i + 1 + (n.getD i 0).toNat : Nat) : Int); omega)) ) HasH.nil, ?_⟩
            · exact ⟨by rw [hc, labs_at (by omega), if_neg (by omega), if_neg (by omega)], by omega⟩
            · omega
      · skip
        refine AOps.nil ?_
        refine AWp.cond_f rfl ?_
        refine AWp.exit ?_
        refine AWp.seq ?_
        refine AWp.region ?_
        refine AOps.cons rfl rfl (q_assign) ?_
        refine AOps.nil ?_
        refine AWp.ret ?_
        show Fin te Try.f40 _ _
        refine q_ret (0) [_] [_] ?_
        have e : canN n = false := by rw [canN, hc, labs_end n (by omega)]; rfl
        rw [e]; rfl

end Go.Proofs.Ytaemmklgofddmaa.Fw

/- Q7: operations whose guard was passed by. -/
set_option linter.unusedVariables false
set_option linter.unusedSimpArgs false
namespace Go.Proofs.Ytaemmklgofddmaa.Fw
open Go.RowKit
theorem Sim.yielded_no {n : Nat} {ops : Array Oper} {s : AS} {w : World} {φ : PMap} {Λ : Lent} {a : Act} (hs : Sim n w φ Λ s a) {j : Nat} {oj : Oper} {d : Nat} (hj : ops[j]? = some oj) (hd : oj.dst = some d)
    (hb : s.t d = .v undef) : Go.yielded ops a.tmps j = none := by
  have h := hs.tmps d
  rw [hb] at h
  generalize hv : a.tmps.getD d undef = v at h
  cases h
  simp only [Go.yielded, hj, Option.bind_some, hd]
  cases hx : a.tmps[d]? with
  | none => rfl
  | some y =>
    rw [Array.getD_eq_getD_getElem?, hx] at hv
    simp only [Option.getD_some] at hv
    rw [hv]
    rfl
/-- The operation is passed by, as its guard was. -/
theorem AOps.gskipu {P : Program} {n : Nat} {ops : Array Oper} {Q : APost} {s : AS} {i : Nat} {rest : List Nat} {o : Oper} {j : Nat} {want : Bool} {oj : Oper} {d : Nat} {dd : Option Tmp} (ho : ops[i]? = some o) (hg : o.guard = some (j, want)) (hj : ops[j]? = some oj)
    (hd : oj.dst = some d) (hb : s.t d = .v undef) (hdd : o.dst = dd) (hn : dd.all (Nat.blt · n) = true) (hr : AOps P n ops Q rest (s.put dd (.v undef))) :
    AOps P n ops Q (i :: rest) s := by
  intro Λ w φ a hs QQ hQ
  have hy := hs.yielded_no hj hd hb
  have hw : ((none : Option Bool) == some want) = false := rfl
  simp only [wpOps, ho, Region.wanted, hg, hy, hw, Bool.false_eq_true, if_false]
  subst hdd
  exact hr Λ w φ _ (hs.put o.dst hn .v) QQ hQ
theorem OpAt.gskipu {P : Program} {n : Nat} {ops : Array Oper} {i : Nat} {o : Oper} {s : AS} {j : Nat} {want : Bool} {oj : Oper} {d : Nat} {dd : Option Tmp} (ho : ops[i]? = some o) (hg : o.guard = some (j, want)) (hj : ops[j]? = some oj)
    (hd : oj.dst = some d) (hb : s.t d = .v undef) (hdd : o.dst = dd) (hn : dd.all (Nat.blt · n) = true) : OpAt P n ops i s (s.put dd (.v undef)) := by
  intro Λ w φ a hs K QQ hK
  have hy := hs.yielded_no hj hd hb
  have hw : ((none : Option Bool) == some want) = false := rfl
  simp only [wpOp, ho, Region.wanted, hg, hy, hw, Bool.false_eq_true, if_false]
  subst hdd
  exact hK w φ _ (hs.put o.dst hn .v) (Goes.refl _ _)
theorem or256 {a b : Int} (ha : 0 ≤ a) (hb : 0 ≤ b ∧ b < 256) : (((a * 2 ^ 8).toNat ||| b.toNat : Nat) : Int) = a * 256 + b := by
  have e : (a * 2 ^ 8).toNat = 2 ^ 8 * a.toNat := by omega
  rw [e, ← Nat.two_pow_add_eq_or_of_lt (by omega : b.toNat < 2 ^ 8) a.toNat]
  omega
/-- A number with a byte behind. -/
theorem q_orb {n : Nat} {s : AS} {o : Oper} {d : Option Tmp} {t u : TypeId} {x y : Operand} {a b : Int} (ho : o.op = .binOp .or t x y u := by exact rfl) (hx : s.ev x = i64 (a * 2 ^ 8) := by exact rfl) (hy : s.ev y = i64 b := by exact rfl)
    (ha : 0 ≤ a ∧ a ≤ 36028797018963967 := by first | omega | decide | (simp; omega)) (hb : 0 ≤ b ∧ b < 256 := by first | omega | decide | (simp; omega))
    (hdd : o.dst = d := by conv => lhs; whnf) (hd : d.all (Nat.blt · n) = true := by exact rfl) : OpOk Try.prog n o s (s.put d (i64 (a * 256 + b))) := by
  rw [← or256 ha.1 hb]
  exact q_or ho hx hy (by omega) (by omega) hdd hd
end Go.Proofs.Ytaemmklgofddmaa.Fw

/- Walks of layer 3, the program's. -/
set_option linter.unusedVariables false
set_option linter.unusedSimpArgs false
namespace Go.Proofs.Ytaemmklgofddmaa.Fw
open Go.RowKit


/-- Texts, one behind the other; options, one behind the other. -/
def txtW (b : List UInt8) : Bool := if h : 0 < b.length then (if 1 + (b.getD 0 default).toNat ≤ b.length then txtW (b.drop (1 + (b.getD 0 default).toNat)) else false) else true
termination_by b.length
decreasing_by simp; omega
def txtR (b : List UInt8) : Bool := decide (0 < b.length) && txtW b
def optK (b : List UInt8) : Nat := 4 + ((b.getD 2 default).toNat * 256 + (b.getD 3 default).toNat)
def optR (b : List UInt8) : Bool := if h : 0 < b.length then (if 4 ≤ b.length ∧ optK b ≤ b.length then optR (b.drop (optK b)) else false) else true
termination_by b.length
decreasing_by simp [optK]; omega
theorem txtW_end {b : List UInt8} (h : b.length = 0) : txtW b = true := by rw [txtW, dif_neg (by omega)]
theorem txtW_step {b : List UInt8} (h : 0 < b.length) (h2 : 1 + (b.getD 0 default).toNat ≤ b.length) : txtW b = txtW (b.drop (1 + (b.getD 0 default).toNat)) := by rw [txtW, dif_pos h, if_pos h2]
theorem txtW_no {b : List UInt8} (h : 0 < b.length) (h2 : b.length < 1 + (b.getD 0 default).toNat) : txtW b = false := by rw [txtW, dif_pos h, if_neg (by omega)]
theorem optR_end {b : List UInt8} (h : b.length = 0) : optR b = true := by rw [optR, dif_neg (by omega)]
theorem optR_step {b : List UInt8} (h : 0 < b.length) (h4 : 4 ≤ b.length) (h2 : optK b ≤ b.length) : optR b = optR (b.drop (optK b)) := by rw [optR, dif_pos h, if_pos ⟨h4, h2⟩]
theorem optR_no {b : List UInt8} (h : 0 < b.length) (h2 : b.length < 4 ∨ b.length < optK b) : optR b = false := by rw [optR, dif_pos h, if_neg (by omega)]
theorem canN_big {b : List UInt8} (h : 255 < b.length) : canN b = false := by rw [canN, decide_eq_false (by omega), Bool.and_false]
/-- Data of a type, but for type 6. -/
def canR (t : Int) (d : List UInt8) : Bool :=
  if t < 0 ∨ 65535 < t ∨ 65535 < d.length then false else if t = 1 then decide (d.length = 4) else if t = 28 then decide (d.length = 16) else if t = 2 ∨ t = 5 ∨ t = 12 then canN d
  else if t = 15 then decide (2 < d.length) && canN (d.drop 2) else if t = 16 then txtR d else if t = 41 then optR d else true
theorem eq_step {a b : List (List UInt8)} {i : Nat} (ha : i < a.length) (hb : i < b.length) (h : a.take i = b.take i) (e : a.getD i default = b.getD i default) : a.take (i + 1) = b.take (i + 1) := by
  rw [List.take_succ_eq_append_getElem ha, List.take_succ_eq_append_getElem hb, h]
  rw [List.getD_eq_getElem?_getD, List.getD_eq_getElem?_getD, List.getElem?_eq_getElem ha, List.getElem?_eq_getElem hb, Option.getD_some, Option.getD_some] at e
  rw [e]
theorem canR_15 {t : Int} {b : List UInt8} (e : t = 15) (h : canR t b = true) : 2 < b.length := by
  subst e
  simp [canR] at h
  omega
def namR (t : Int) (d : List UInt8) : List (List UInt8) := if canR t d then (if t = 2 ∨ t = 5 ∨ t = 12 then [d] else if t = 15 then [d.drop 2] else []) else []

set_option maxRecDepth 20000 in
theorem c_rdata_whole (b : List UInt8) (lv : Nat) (h : b.length ≤ 140737488351232) : AC Try.prog 59 [.fz lv b.length (cl bc b)] emp (Ret (tf (canN b))) := by
  refine AC.intro te_ok (fn := Try.f59) ⟨Try.func59, rfl, rfl⟩ (Nat.le_of_ble_eq_true rfl) ?_
  refine AWp.seq ?_
  refine AWp.region ?_
  refine AOps.cons rfl rfl (q_assign) ?_
  refine AOps.nil ?_
  refine AWp.seq ?_
  refine AWp.region ?_
  refine AOps.cons rfl rfl (q_move) ?_
  refine AOps.cons rfl rfl (by first | exact q_conv_zs | exact q_conv_ls) ?_
  refine AOps.cons rfl rfl (q_call (0) (hc := c_name_Can _ (by first | assumption | omega | decide | (simp; omega) | (simp [*]; done)))) ?_
  refine AOps.cons rfl rfl (q_assign) ?_
  refine AOps.nil ?_
  refine AWp.ret ?_
  show Fin te Try.f59 _ _
  refine q_ret (0) [_] [_] ?_
  first | rfl | (simp; done)

set_option maxRecDepth 20000 in
theorem c_rdata_mail (b : List UInt8) (lv : Nat) (h : b.length ≤ 140737488351232) : AC Try.prog 60 [.fz lv b.length (cl bc b)] emp (Ret (tf (decide (2 < b.length) && canN (b.drop 2)))) := by
  refine AC.intro te_ok (fn := Try.f60) ⟨Try.func60, rfl, rfl⟩ (Nat.le_of_ble_eq_true rfl) ?_
  refine AWp.seq ?_
  refine AWp.region ?_
  refine AOps.cons rfl rfl (q_assign) ?_
  refine AOps.nil ?_
  refine AWp.seq ?_
  refine AWp.region ?_
  refine AOps.cons rfl rfl (q_move) ?_
  refine AOps.cons rfl rfl (q_len) ?_
  refine AOps.dec rfl rfl (q_gtr) (fun h1_2 => ?_) (fun h1_2 => ?_)
  · skip
    refine AOps.cons rfl rfl (q_move) ?_
    refine AOps.gcons rfl rfl rfl rfl rfl (q_move) ?_
    refine AOps.gcons rfl rfl rfl rfl rfl (q_sl) ?_
    refine AOps.gcons rfl rfl rfl rfl rfl (q_call (lv) (hc := c_rdata_whole _ _ (by first | assumption | omega | decide | (simp; omega) | (simp [*]; done)))) ?_
    refine AOps.cons rfl rfl (q_pick) ?_
    refine AOps.cons rfl rfl (q_assign) ?_
    refine AOps.nil ?_
    refine AWp.ret ?_
    show Fin te Try.f60 _ _
    refine q_ret (0) [_] [_] ?_
    rw [decide_eq_true (show 2 < b.length by omega)]; rfl
  · skip
    refine AOps.cons rfl rfl (q_move) ?_
    refine AOps.gskip rfl rfl rfl rfl rfl rfl rfl rfl ?_
    refine AOps.gskip rfl rfl rfl rfl rfl rfl rfl rfl ?_
    refine AOps.gskip rfl rfl rfl rfl rfl rfl rfl rfl ?_
    refine AOps.cons rfl rfl (q_pick) ?_
    refine AOps.cons rfl rfl (q_assign) ?_
    refine AOps.nil ?_
    refine AWp.ret ?_
    show Fin te Try.f60 _ _
    refine q_ret (0) [_] [_] ?_
    rw [decide_eq_false (show ¬ 2 < b.length by omega)]; rfl

set_option maxRecDepth 20000 in
theorem c_rdata_texts (b : List UInt8) (lv : Nat) (h : b.length ≤ 140737488351232) : AC Try.prog 61 [.fz lv b.length (cl bc b)] emp (Ret (tf (txtR b))) := by
  refine AC.intro te_ok (fn := Try.f61) ⟨Try.func61, rfl, rfl⟩ (Nat.le_of_ble_eq_true rfl) ?_
  refine AWp.seq ?_
  refine AWp.region ?_
  refine AOps.cons rfl rfl (q_assign) ?_
  refine AOps.nil ?_
  refine AWp.seq ?_
  refine AWp.region ?_
  refine AOps.cons rfl rfl (q_move) ?_
  refine AOps.cons rfl rfl (q_len) ?_
  refine AOps.cons rfl rfl (q_gtr) ?_
  refine AOps.cons rfl rfl (q_assign) ?_
  refine AOps.nil ?_
  refine AWp.seq ?_
  refine AWp.block ?_
  refine AWp.loopR (α := List UInt8) [0, 2, 4, 8, 9, 10, 11, 12, 13, 14, 15, 16, 17, 18, 19, 20, 21, 22] (fun c => [(0, .fz lv c.length (cl bc c))]) (fun c => []) (fun c => txtW c = txtW b ∧ c.length ≤ b.length) (fun c => c.length) b ?_ (Back.mk' (HasT.cons HasT.nil) HasH.nil) ?_
  · exact ⟨rfl, Nat.le_refl _⟩
  · rintro c ⟨hc, hl⟩
    refine AWp.seq ?_
    refine AWp.seq ?_
    refine AWp.region ?_
    refine AOps.cons rfl rfl (q_move) ?_
    refine AOps.cons rfl rfl (q_len) ?_
    refine AOps.dec rfl rfl (q_gtr) (fun h2_2 => ?_) (fun h2_2 => ?_)
    · skip
      refine AOps.nil ?_
      refine AWp.cond_t rfl ?_
      refine AWp.skip ?_
      refine AWp.block ?_
      refine AWp.seq ?_
      refine AWp.region ?_
      have hk := (c.getD 0 default).toNat_lt
      have he : (c.getD (Int.toNat 0) default).toNat = (c.getD 0 default).toNat := rfl
      have hs : (c[0]?.getD default).toNat = (c.getD 0 default).toNat := congrArg UInt8.toNat (List.getD_eq_getElem?_getD).symm
      refine AOps.cons rfl rfl (q_move) ?_
      refine AOps.cons rfl rfl (q_ix) ?_
      refine AOps.cons rfl rfl (q_load) ?_
      refine AOps.cons rfl rfl (q_conv_8i) ?_
      refine AOps.cons rfl rfl (q_add) ?_
      refine AOps.cons rfl rfl (q_assign) ?_
      refine AOps.nil ?_
      refine AWp.seq ?_
      refine AWp.seq ?_
      refine AWp.region ?_
      refine AOps.cons rfl rfl (q_move) ?_
      refine AOps.cons rfl rfl (q_move) ?_
      refine AOps.cons rfl rfl (q_len) ?_
      refine AOps.dec rfl rfl (q_gtr) (fun h4_3 => ?_) (fun h4_3 => ?_)
      · skip
        refine AOps.nil ?_
        refine AWp.cond_t rfl ?_
        refine AWp.seq ?_
        refine AWp.region ?_
        refine AOps.cons rfl rfl (q_assign) ?_
        refine AOps.nil ?_
        refine AWp.ret ?_
        show Fin te Try.f61 _ _
        refine q_ret (0) [_] [_] ?_
        rw [txtR, ← hc, txtW_no (by omega) (by omega), Bool.and_false]; rfl
      · skip
        refine AOps.nil ?_
        refine AWp.cond_f rfl ?_
        refine AWp.skip ?_
        refine AWp.region ?_
        refine AOps.cons rfl rfl (q_move) ?_
        refine AOps.cons rfl rfl (q_move) ?_
        refine AOps.cons rfl rfl (q_sl) ?_
        refine AOps.cons rfl rfl (q_assign) ?_
        refine AOps.nil ?_
        have e1 : ((1 : Int) + ((c.getD (Int.toNat 0) default).toNat : Int)).toNat = 1 + (c.getD 0 default).toNat := by omega
        refine ⟨_, ?_, Back.mk' (HasT.cons HasT.nil) HasH.nil, ?_⟩
        · rw [e1]; exact ⟨(txtW_step (by omega) (by omega)).symm.trans hc, by rw [List.length_drop]; omega⟩
        · rw [e1, List.length_drop]; omega
    · skip
      refine AOps.nil ?_
      refine AWp.cond_f rfl ?_
      refine AWp.exit ?_
      refine AWp.seq ?_
      refine AWp.region ?_
      refine AOps.cons rfl rfl (q_move) ?_
      refine AOps.cons rfl rfl (q_assign) ?_
      refine AOps.nil ?_
      refine AWp.ret ?_
      show Fin te Try.f61 _ _
      refine q_ret (0) [_] [_] ?_
      rw [txtR, ← hc, txtW_end (by omega), Bool.and_true]; exact congrArg tf (decide_eq_decide.2 (by omega))

set_option maxRecDepth 20000 in
theorem c_rdata_options (b : List UInt8) (lv : Nat) (h : b.length ≤ 140737488351232) : AC Try.prog 62 [.fz lv b.length (cl bc b)] emp (Ret (tf (optR b))) := by
  refine AC.intro te_ok (fn := Try.f62) ⟨Try.func62, rfl, rfl⟩ (Nat.le_of_ble_eq_true rfl) ?_
  refine AWp.seq ?_
  refine AWp.region ?_
  refine AOps.cons rfl rfl (q_assign) ?_
  refine AOps.nil ?_
  refine AWp.seq ?_
  refine AWp.block ?_
  refine AWp.loopR (α := List UInt8) [0, 2, 3, 4, 5, 6, 7, 8, 9, 10, 11, 12, 13, 14, 15, 16, 17, 18, 19, 20, 21, 22, 23, 24, 25, 26, 27] (fun c => [(0, .fz lv c.length (cl bc c))]) (fun c => []) (fun c => optR c = optR b ∧ c.length ≤ b.length) (fun c => c.length) b ?_ (Back.mk' (HasT.cons HasT.nil) HasH.nil) ?_
  · exact ⟨rfl, Nat.le_refl _⟩
  · rintro c ⟨hc, hl⟩
    refine AWp.seq ?_
    refine AWp.seq ?_
    refine AWp.region ?_
    refine AOps.cons rfl rfl (q_move) ?_
    refine AOps.cons rfl rfl (q_len) ?_
    refine AOps.dec rfl rfl (q_gtr) (fun h1_2 => ?_) (fun h1_2 => ?_)
    · skip
      refine AOps.nil ?_
      refine AWp.cond_t rfl ?_
      refine AWp.skip ?_
      refine AWp.block ?_
      refine AWp.seq ?_
      refine AWp.seq ?_
      refine AWp.region ?_
      refine AOps.cons rfl rfl (q_move) ?_
      refine AOps.cons rfl rfl (q_len) ?_
      refine AOps.dec rfl rfl (q_lss) (fun h2_2 => ?_) (fun h2_2 => ?_)
      · skip
        refine AOps.nil ?_
        refine AWp.cond_t rfl ?_
        refine AWp.seq ?_
        refine AWp.region ?_
        refine AOps.cons rfl rfl (q_assign) ?_
        refine AOps.nil ?_
        refine AWp.ret ?_
        show Fin te Try.f62 _ _
        refine q_ret (0) [_] [_] ?_
        rw [← hc, optR_no (by omega) (by omega)]; rfl
      · skip
        refine AOps.nil ?_
        refine AWp.cond_f rfl ?_
        refine AWp.skip ?_
        refine AWp.seq ?_
        have hk2 := (c.getD 2 default).toNat_lt
        have hk3 := (c.getD 3 default).toNat_lt
        have he2 : (c.getD (Int.toNat 2) default).toNat = (c.getD 2 default).toNat := rfl
        have he3 : (c.getD (Int.toNat 3) default).toNat = (c.getD 3 default).toNat := rfl
        have hs2 : (c[2]?.getD default).toNat = (c.getD 2 default).toNat := congrArg UInt8.toNat (List.getD_eq_getElem?_getD).symm
        have hs3 : (c[3]?.getD default).toNat = (c.getD 3 default).toNat := congrArg UInt8.toNat (List.getD_eq_getElem?_getD).symm
        refine AWp.draws [⟨0, [0], [], some 10, _, none⟩,
            ⟨1, [10], [], some 11, _, none⟩,
            ⟨2, [11], [], some 12, _, none⟩,
            ⟨3, [12], [], some 13, _, none⟩,
            ⟨4, [13], [], some 14, _, none⟩,
            ⟨5, [0], [], some 15, _, none⟩,
            ⟨6, [15], [], some 16, _, none⟩,
            ⟨7, [16], [], some 17, _, none⟩,
            ⟨8, [17], [], some 18, _, none⟩,
            ⟨9, [14, 18], [], some 19, _, none⟩,
            ⟨10, [19], [], some 20, _, none⟩,
            ⟨11, [20], [], some 3, _, none⟩]
          [⟨0, [0], [], some 10, .any, none⟩,
              ⟨1, [10], [], some 11, .any, none⟩,
              ⟨2, [11], [], some 12, .any, none⟩,
              ⟨3, [12], [], some 13, .any, none⟩,
              ⟨4, [13], [], some 14, .any, none⟩,
              ⟨5, [0], [], some 15, .any, none⟩,
              ⟨6, [15], [], some 16, .any, none⟩,
              ⟨7, [16], [], some 17, .any, none⟩,
              ⟨8, [17], [], some 18, .any, none⟩,
              ⟨9, [14, 18], [], some 19, .any, none⟩,
              ⟨10, [19], [], some 20, .any, none⟩,
              ⟨11, [20], [], some 3, .any, none⟩]
          mixed_ok rfl (by kernel_rfl) ⟨DS.ok_over fun s0 => OpAt.go rfl rfl (q_move),
              DS.ok_over fun s0 => OpAt.go rfl rfl (q_ix),
              DS.ok_over fun s0 => OpAt.go rfl rfl (q_load),
              DS.ok_over fun s0 => OpAt.go rfl rfl (q_conv_8i),
              DS.ok_over fun s0 => OpAt.go rfl rfl (q_shl 8),
              DS.ok_over fun s0 => OpAt.go rfl rfl (q_move),
              DS.ok_over fun s0 => OpAt.go rfl rfl (q_ix),
              DS.ok_over fun s0 => OpAt.go rfl rfl (q_load),
              DS.ok_over fun s0 => OpAt.go rfl rfl (q_conv_8i),
              DS.ok_over fun s0 => OpAt.go rfl rfl (q_orb),
              DS.ok_over fun s0 => OpAt.go rfl rfl (q_add),
              DS.ok_over fun s0 => OpAt.go rfl rfl (q_assign), trivial⟩ ?_
        dsimp only [final, DS.upd, AS.seto]
        refine AWp.seq ?_
        refine AWp.seq ?_
        refine AWp.region ?_
        refine AOps.cons rfl rfl (q_move) ?_
        refine AOps.cons rfl rfl (q_move) ?_
        refine AOps.cons rfl rfl (q_len) ?_
        refine AOps.dec rfl rfl (q_gtr) (fun h5_3 => ?_) (fun h5_3 => ?_)
        · skip
          refine AOps.nil ?_
          refine AWp.cond_t rfl ?_
          refine AWp.seq ?_
          refine AWp.region ?_
          refine AOps.cons rfl rfl (q_assign) ?_
          refine AOps.nil ?_
          refine AWp.ret ?_
          show Fin te Try.f62 _ _
          refine q_ret (0) [_] [_] ?_
          rw [← hc, optR_no (by omega) (Or.inr (by unfold optK; omega))]; rfl
        · skip
          refine AOps.nil ?_
          refine AWp.cond_f rfl ?_
          refine AWp.skip ?_
          refine AWp.region ?_
          refine AOps.cons rfl rfl (q_move) ?_
          refine AOps.cons rfl rfl (q_move) ?_
          refine AOps.cons rfl rfl (q_sl) ?_
          refine AOps.cons rfl rfl (q_assign) ?_
          refine AOps.nil ?_
          have e1 : (4 + (((c.getD (Int.toNat 2) default).toNat : Int) * 256 + ((c.getD (Int.toNat 3) default).toNat : Int))).toNat = optK c := by unfold optK; omega
          refine ⟨_, ?_, Back.mk' (HasT.cons HasT.nil) HasH.nil, ?_⟩
          · rw [e1]; exact ⟨(optR_step (by omega) (by omega) (by unfold optK; omega)).symm.trans hc, by rw [List.length_drop]; omega⟩
          · rw [e1, List.length_drop]; unfold optK; omega
    · skip
      refine AOps.nil ?_
      refine AWp.cond_f rfl ?_
      refine AWp.exit ?_
      refine AWp.seq ?_
      refine AWp.region ?_
      refine AOps.cons rfl rfl (q_assign) ?_
      refine AOps.nil ?_
      refine AWp.ret ?_
      show Fin te Try.f62 _ _
      refine q_ret (0) [_] [_] ?_
      rw [← hc, optR_end (by omega)]; rfl

set_option maxRecDepth 20000 in
theorem c_rdata_Can (t : Int) (b : List UInt8) (lv : Nat) (h : b.length ≤ 140737488351232) (ht : t ≠ 6) : AC Try.prog 38 [i64 t, .fz lv b.length (cl bc b)] emp (Ret (tf (canR t b))) := by
  refine AC.intro te_ok (fn := Try.f38) ⟨Try.func38, rfl, rfl⟩ (Nat.le_of_ble_eq_true rfl) ?_
  refine AWp.seq ?_
  refine AWp.region ?_
  refine AOps.cons rfl rfl (q_assign) ?_
  refine AOps.nil ?_
  refine AWp.seq ?_
  refine AWp.seq ?_
  refine AWp.region ?_
  refine AOps.cons rfl rfl (q_move) ?_
  refine AOps.dec rfl rfl (q_lss) (fun h1_1 => ?_) (fun h1_1 => ?_)
  · skip
    refine AOps.cons rfl rfl (q_move) ?_
    refine AOps.gskip rfl rfl rfl rfl rfl rfl rfl rfl ?_
    refine AOps.gskip rfl rfl rfl rfl rfl rfl rfl rfl ?_
    refine AOps.cons rfl rfl (q_pick) ?_
    refine AOps.cons rfl rfl (q_move) ?_
    refine AOps.gskip rfl rfl rfl rfl rfl rfl rfl rfl ?_
    refine AOps.gskip rfl rfl rfl rfl rfl rfl rfl rfl ?_
    refine AOps.gskip rfl rfl rfl rfl rfl rfl rfl rfl ?_
    refine AOps.cons rfl rfl (q_pick) ?_
    refine AOps.nil ?_
    refine AWp.cond_t rfl ?_
    refine AWp.seq ?_
    refine AWp.region ?_
    refine AOps.cons rfl rfl (q_assign) ?_
    refine AOps.nil ?_
    refine AWp.ret ?_
    show Fin te Try.f38 _ _
    refine q_ret (0) [_] [_] ?_
    rw [canR, if_pos (by omega)]; rfl
  · skip
    refine AOps.cons rfl rfl (q_move) ?_
    refine AOps.gcons rfl rfl rfl rfl rfl (q_move) ?_
    refine AOps.gdec rfl rfl rfl rfl rfl (q_gtr) (fun h1_4 => ?_) (fun h1_4 => ?_)
    · skip
      refine AOps.cons rfl rfl (q_pick) ?_
      refine AOps.cons rfl rfl (q_move) ?_
      refine AOps.gskip rfl rfl rfl rfl rfl rfl rfl rfl ?_
      refine AOps.gskip rfl rfl rfl rfl rfl rfl rfl rfl ?_
      refine AOps.gskip rfl rfl rfl rfl rfl rfl rfl rfl ?_
      refine AOps.cons rfl rfl (q_pick) ?_
      refine AOps.nil ?_
      refine AWp.cond_t rfl ?_
      refine AWp.seq ?_
      refine AWp.region ?_
      refine AOps.cons rfl rfl (q_assign) ?_
      refine AOps.nil ?_
      refine AWp.ret ?_
      show Fin te Try.f38 _ _
      refine q_ret (0) [_] [_] ?_
      rw [canR, if_pos (by omega)]; rfl
    · skip
      refine AOps.cons rfl rfl (q_pick) ?_
      refine AOps.cons rfl rfl (q_move) ?_
      refine AOps.gcons rfl rfl rfl rfl rfl (q_move) ?_
      refine AOps.gcons rfl rfl rfl rfl rfl (q_len) ?_
      refine AOps.gdec rfl rfl rfl rfl rfl (q_gtr) (fun h1_9 => ?_) (fun h1_9 => ?_)
      · skip
        refine AOps.cons rfl rfl (q_pick) ?_
        refine AOps.nil ?_
        refine AWp.cond_t rfl ?_
        refine AWp.seq ?_
        refine AWp.region ?_
        refine AOps.cons rfl rfl (q_assign) ?_
        refine AOps.nil ?_
        refine AWp.ret ?_
        show Fin te Try.f38 _ _
        refine q_ret (0) [_] [_] ?_
        rw [canR, if_pos (by omega)]; rfl
      · skip
        refine AOps.cons rfl rfl (q_pick) ?_
        refine AOps.nil ?_
        refine AWp.cond_f rfl ?_
        refine AWp.skip ?_
        refine AWp.seq ?_
        refine AWp.seq ?_
        refine AWp.region ?_
        refine AOps.cons rfl rfl (q_move) ?_
        refine AOps.nil ?_
        refine AWp.block ?_
        refine AWp.seq ?_
        refine AWp.region ?_
        refine AOps.dec rfl rfl (q_eql) (fun h4_0 => ?_) (fun h4_0 => ?_)
        · skip
          refine AOps.cons rfl rfl (q_assign) ?_
          refine AOps.nil ?_
          refine AWp.cond_t rfl ?_
          refine AWp.seq ?_
          refine AWp.region ?_
          refine AOps.cons rfl rfl (q_move) ?_
          refine AOps.cons rfl rfl (q_len) ?_
          refine AOps.cons rfl rfl (q_eql) ?_
          refine AOps.cons rfl rfl (q_assign) ?_
          refine AOps.nil ?_
          refine AWp.ret ?_
          show Fin te Try.f38 _ _
          refine q_ret (0) [_] [_] ?_
          rw [canR, if_neg (by omega), if_pos h4_0]; exact congrArg tf (decide_eq_decide.2 (by omega))
        · skip
          refine AOps.cons rfl rfl (q_assign) ?_
          refine AOps.nil ?_
          refine AWp.cond_f rfl ?_
          refine AWp.seq ?_
          refine AWp.region ?_
          refine AOps.dec rfl rfl (q_eql) (fun h6_0 => ?_) (fun h6_0 => ?_)
          · skip
            refine AOps.cons rfl rfl (q_assign) ?_
            refine AOps.nil ?_
            refine AWp.cond_t rfl ?_
            refine AWp.seq ?_
            refine AWp.region ?_
            refine AOps.cons rfl rfl (q_move) ?_
            refine AOps.cons rfl rfl (q_len) ?_
            refine AOps.cons rfl rfl (q_eql) ?_
            refine AOps.cons rfl rfl (q_assign) ?_
            refine AOps.nil ?_
            refine AWp.ret ?_
            show Fin te Try.f38 _ _
            refine q_ret (0) [_] [_] ?_
            rw [canR, if_neg (by omega), if_neg h4_0, if_pos h6_0]; exact congrArg tf (decide_eq_decide.2 (by omega))
          · skip
            refine AOps.cons rfl rfl (q_assign) ?_
            refine AOps.nil ?_
            refine AWp.cond_f rfl ?_
            refine AWp.seq ?_
            refine AWp.seq ?_
            refine AWp.region ?_
            refine AOps.dec rfl rfl (q_eql) (fun h8_0 => ?_) (fun h8_0 => ?_)
            · skip
              refine AOps.cons rfl rfl (q_assign) ?_
              refine AOps.nil ?_
              refine AWp.cond_t rfl ?_
              refine AWp.skip ?_
              refine AWp.cond_t rfl ?_
              refine AWp.seq ?_
              refine AWp.region ?_
              refine AOps.cons rfl rfl (q_move) ?_
              refine AOps.cons rfl rfl (q_call (lv) (hc := c_rdata_whole _ _ (by first | assumption | omega | decide | (simp; omega) | (simp [*]; done)))) ?_
              refine AOps.cons rfl rfl (q_assign) ?_
              refine AOps.nil ?_
              refine AWp.ret ?_
              show Fin te Try.f38 _ _
              refine q_ret (0) [_] [_] ?_
              rw [canR, if_neg (by omega), if_neg h4_0, if_neg h6_0, if_pos (by omega)]; rfl
            · skip
              refine AOps.cons rfl rfl (q_assign) ?_
              refine AOps.nil ?_
              refine AWp.cond_f rfl ?_
              refine AWp.seq ?_
              refine AWp.region ?_
              refine AOps.dec rfl rfl (q_eql) (fun h9_0 => ?_) (fun h9_0 => ?_)
              · skip
                refine AOps.cons rfl rfl (q_assign) ?_
                refine AOps.nil ?_
                refine AWp.cond_t rfl ?_
                refine AWp.skip ?_
                refine AWp.cond_t rfl ?_
                refine AWp.seq ?_
                refine AWp.region ?_
                refine AOps.cons rfl rfl (q_move) ?_
                refine AOps.cons rfl rfl (q_call (lv) (hc := c_rdata_whole _ _ (by first | assumption | omega | decide | (simp; omega) | (simp [*]; done)))) ?_
                refine AOps.cons rfl rfl (q_assign) ?_
                refine AOps.nil ?_
                refine AWp.ret ?_
                show Fin te Try.f38 _ _
                refine q_ret (0) [_] [_] ?_
                rw [canR, if_neg (by omega), if_neg h4_0, if_neg h6_0, if_pos (by omega)]; rfl
              · skip
                refine AOps.cons rfl rfl (q_assign) ?_
                refine AOps.nil ?_
                refine AWp.cond_f rfl ?_
                refine AWp.region ?_
                refine AOps.dec rfl rfl (q_eql) (fun h10_0 => ?_) (fun h10_0 => ?_)
                · skip
                  refine AOps.cons rfl rfl (q_assign) ?_
                  refine AOps.nil ?_
                  refine AWp.cond_t rfl ?_
                  refine AWp.seq ?_
                  refine AWp.region ?_
                  refine AOps.cons rfl rfl (q_move) ?_
                  refine AOps.cons rfl rfl (q_call (lv) (hc := c_rdata_whole _ _ (by first | assumption | omega | decide | (simp; omega) | (simp [*]; done)))) ?_
                  refine AOps.cons rfl rfl (q_assign) ?_
                  refine AOps.nil ?_
                  refine AWp.ret ?_
                  show Fin te Try.f38 _ _
                  refine q_ret (0) [_] [_] ?_
                  rw [canR, if_neg (by omega), if_neg h4_0, if_neg h6_0, if_pos (by omega)]; rfl
                · skip
                  refine AOps.cons rfl rfl (q_assign) ?_
                  refine AOps.nil ?_
                  refine AWp.cond_f rfl ?_
                  refine AWp.seq ?_
                  refine AWp.region ?_
                  refine AOps.dec rfl rfl (q_eql) (fun h12_0 => ?_) (fun h12_0 => ?_)
                  · skip
                    refine AOps.cons rfl rfl (q_assign) ?_
                    refine AOps.nil ?_
                    refine AWp.cond_t rfl ?_
                    refine AWp.seq ?_
                    refine AWp.region ?_
                    refine AOps.cons rfl rfl (q_move) ?_
                    refine AOps.cons rfl rfl (q_call (lv) (hc := c_rdata_mail _ _ (by first | assumption | omega | decide | (simp; omega) | (simp [*]; done)))) ?_
                    refine AOps.cons rfl rfl (q_assign) ?_
                    refine AOps.nil ?_
                    refine AWp.ret ?_
                    show Fin te Try.f38 _ _
                    refine q_ret (0) [_] [_] ?_
                    rw [canR, if_neg (by omega), if_neg h4_0, if_neg h6_0, if_neg (by omega), if_pos h12_0]; rfl
                  · skip
                    refine AOps.cons rfl rfl (q_assign) ?_
                    refine AOps.nil ?_
                    refine AWp.cond_f rfl ?_
                    refine AWp.seq ?_
                    refine AWp.region ?_
                    refine AOps.dec rfl rfl (q_eql) (fun h14_0 => ?_) (fun h14_0 => ?_)
                    · skip
                      refine AOps.cons rfl rfl (q_assign) ?_
                      refine AOps.nil ?_
                      refine AWp.cond_t rfl ?_
                      refine AWp.seq ?_
                      refine AWp.region ?_
                      refine AOps.cons rfl rfl (q_move) ?_
                      refine AOps.cons rfl rfl (q_call (lv) (hc := c_rdata_texts _ _ (by first | assumption | omega | decide | (simp; omega) | (simp [*]; done)))) ?_
                      refine AOps.cons rfl rfl (q_assign) ?_
                      refine AOps.nil ?_
                      refine AWp.ret ?_
                      show Fin te Try.f38 _ _
                      refine q_ret (0) [_] [_] ?_
                      rw [canR, if_neg (by omega), if_neg h4_0, if_neg h6_0, if_neg (by omega), if_neg h12_0, if_pos h14_0]; rfl
                    · skip
                      refine AOps.cons rfl rfl (q_assign) ?_
                      refine AOps.nil ?_
                      refine AWp.cond_f rfl ?_
                      refine AWp.seq ?_
                      refine AWp.region ?_
                      refine AOps.dec rfl rfl (q_eql) (fun h16_0 => ?_) (fun h16_0 => ?_)
                      · skip
                        refine AOps.cons rfl rfl (q_assign) ?_
                        refine AOps.nil ?_
                        refine AWp.cond_t rfl ?_
                        refine AWp.seq ?_
                        refine AWp.region ?_
                        refine AOps.cons rfl rfl (q_move) ?_
                        refine AOps.cons rfl rfl (q_call (lv) (hc := c_rdata_options _ _ (by first | assumption | omega | decide | (simp; omega) | (simp [*]; done)))) ?_
                        refine AOps.cons rfl rfl (q_assign) ?_
                        refine AOps.nil ?_
                        refine AWp.ret ?_
                        show Fin te Try.f38 _ _
                        refine q_ret (0) [_] [_] ?_
                        rw [canR, if_neg (by omega), if_neg h4_0, if_neg h6_0, if_neg (by omega), if_neg h12_0, if_neg h14_0, if_pos h16_0]; rfl
                      · skip
                        refine AOps.cons rfl rfl (q_assign) ?_
                        refine AOps.nil ?_
                        refine AWp.cond_f rfl ?_
                        refine AWp.seq ?_
                        refine AWp.region ?_
                        refine AOps.dec rfl rfl (q_eql) (fun h18_0 => ?_) (fun h18_0 => ?_)
                        · exfalso; omega
                        · skip
                          refine AOps.cons rfl rfl (q_assign) ?_
                          refine AOps.nil ?_
                          refine AWp.cond_f rfl ?_
                          refine AWp.skip ?_
                          refine AWp.seq ?_
                          refine AWp.region ?_
                          refine AOps.cons rfl rfl (q_assign) ?_
                          refine AOps.nil ?_
                          refine AWp.ret ?_
                          show Fin te Try.f38 _ _
                          refine q_ret (0) [_] [_] ?_
                          rw [canR, if_neg (by omega), if_neg h4_0, if_neg h6_0, if_neg (by omega), if_neg h12_0, if_neg h14_0, if_neg h16_0]; rfl

end Go.Proofs.Ytaemmklgofddmaa.Fw

/- Walks of layer 3: the data of an SOA, the program's. -/
set_option linter.unusedVariables false
set_option linter.unusedSimpArgs false
namespace Go.Proofs.Ytaemmklgofddmaa.Fw
open Go.RowKit


/-- Where a walk from label to label ends. -/
def zer (b : List UInt8) (i : Nat) : Nat := if h : i < b.length ∧ ¬ (b.getD i default).toNat = 0 then zer b (i + 1 + (b.getD i default).toNat) else i
termination_by b.length - i
decreasing_by omega
theorem zer_step {b : List UInt8} {i : Nat} (h : i < b.length) (h2 : ¬ (b.getD i default).toNat = 0) : zer b i = zer b (i + 1 + (b.getD i default).toNat) := by rw [zer, dif_pos ⟨h, h2⟩]
theorem zer_end {b : List UInt8} {i : Nat} (h : ¬ (i < b.length ∧ ¬ (b.getD i default).toNat = 0)) : zer b i = i := by rw [zer, dif_neg h]
def cutO (b : List UInt8) : Bool := decide (zer b 0 < b.length) && canN (b.take (zer b 0 + 1))
def cutM (b : List UInt8) : List UInt8 := if cutO b then b.take (zer b 0 + 1) else []
def cutR (b : List UInt8) : List UInt8 := if cutO b then b.drop (zer b 0 + 1) else []
theorem cut_no {b : List UInt8} (h : cutO b = false) : cutM b = [] ∧ cutR b = [] := by simp [cutM, cutR, h]
theorem cut_len (b : List UInt8) : (cutM b).length ≤ 255 ∧ (cutR b).length ≤ b.length := by
  cases h : cutO b with
  | false => simp [cut_no h]
  | true =>
    have h2 := h
    simp only [cutO, Bool.and_eq_true] at h2
    rw [cutM, cutR, if_pos h, if_pos h]
    exact ⟨canN_len h2.2, by simp⟩
theorem zer_join : ∀ {ls : List (List UInt8)} {b r : List UInt8} {i : Nat}, GoodN ls → b.drop i = joinN ls ++ r → zer b i + 1 = i + (joinN ls).length
  | [], b, r, i, _, h => by
    have hl := congrArg List.length h
    simp [joinN_nil] at hl
    have hi : i < b.length := by omega
    rw [List.drop_eq_getElem_cons hi, joinN_nil, List.singleton_append] at h
    have e : (b.getD i default).toNat = 0 := by
      rw [List.getD_eq_getElem?_getD, List.getElem?_eq_getElem hi, Option.getD_some, (List.cons.inj h).1]; rfl
    rw [zer_end (by omega)]
    rfl
  | l :: ls, b, r, i, g, h => by
    have hl := congrArg List.length h
    have hb := byte_len g.head.2
    have hh := g.head
    simp [joinN_cons] at hl
    have hi : i < b.length := by omega
    have h2 := h
    rw [List.drop_eq_getElem_cons hi, joinN_cons, List.cons_append, List.append_assoc] at h2
    obtain ⟨e1, e2⟩ := List.cons.inj h2
    have e : (b.getD i default).toNat = l.length := by
      rw [List.getD_eq_getElem?_getD, List.getElem?_eq_getElem hi, Option.getD_some, e1]; exact hb
    have e3 : b.drop (i + 1 + l.length) = joinN ls ++ r := by rw [← List.drop_drop, e2, List.drop_left]
    rw [zer_step hi (by omega), e, zer_join g.tail e3, joinN_cons]
    simp
    omega
theorem cut_at {b : List UInt8} {k : Nat} (hk : k ≤ b.length) (h : canN (b.take k) = true) : cutO b = true ∧ cutM b = b.take k ∧ cutR b = b.drop k := by
  obtain ⟨ls, g, e, hl⟩ := canN_iff.1 h
  have hz : zer b 0 + 1 = k := by
    have hd : b.drop 0 = joinN ls ++ b.drop k := by rw [← e, List.take_append_drop, List.drop_zero]
    have := zer_join g hd
    have hlen := congrArg List.length e
    rw [List.length_take] at hlen
    omega
  have ho : cutO b = true := by rw [cutO, hz, h, decide_eq_true (by omega)]; rfl
  rw [cutM, cutR, if_pos ho, if_pos ho, hz]
  exact ⟨ho, rfl, rfl⟩
theorem cut_none {b : List UInt8} (h : ∀ j, 1 ≤ j → j ≤ b.length → j ≤ 255 → canN (b.take j) = false) : cutO b = false := by
  cases ho : cutO b with
  | false => rfl
  | true =>
    have h2 := ho
    simp only [cutO, Bool.and_eq_true, decide_eq_true_eq] at h2
    have h3 := canN_len h2.2
    rw [List.length_take] at h3
    rw [h (zer b 0 + 1) (by omega) (by omega) (by omega)] at h2
    cases h2.2
/-- A number of bytes. -/
def num (l : List UInt8) : Int := l.foldl (fun a x => a * 256 + (x.toNat : Int)) 0
theorem num_snoc (l : List UInt8) (x : UInt8) : num (l ++ [x]) = num l * 256 + x.toNat := by simp [num, List.foldl_append]
theorem num_step {l : List UInt8} {k : Nat} (h : k < l.length) : num (l.take (k + 1)) = num (l.take k) * 256 + (l.getD k default).toNat := by
  rw [List.take_succ_eq_append_getElem h, num_snoc, List.getD_eq_getElem?_getD, List.getElem?_eq_getElem h]
  rfl
theorem num_le : ∀ (k : Nat) (l : List UInt8), l.length = k → 0 ≤ num l ∧ num l < 256 ^ k
  | 0, l, h => by
    obtain rfl := List.eq_nil_of_length_eq_zero h
    simp [num]
  | k + 1, l, h => by
    have hs : l = l.take k ++ [l.getD k default] := by
      rw [List.getD_eq_getElem?_getD, List.getElem?_eq_getElem (by omega), Option.getD_some, ← List.take_succ_eq_append_getElem (by omega), List.take_of_length_le (by omega)]
    have := num_le k (l.take k) (by rw [List.length_take]; omega)
    have hx := (l.getD k default).toNat_lt
    rw [hs, num_snoc, Int.pow_succ]
    omega
theorem num_24 {l : List UInt8} {k : Nat} (h : k < 4) (hl : l.length = k) : 0 ≤ num l ∧ num l ≤ 16777215 := by
  have := num_le k l hl
  have e : k = 0 ∨ k = 1 ∨ k = 2 ∨ k = 3 := by omega
  rcases e with rfl | rfl | rfl | rfl <;> simp at this <;> omega
def dg (c : List UInt8) (j : Nat) : List UInt8 := (c.take (4 * (j : Int) + 4).toNat).drop (4 * (j : Int)).toNat
theorem dg_len {c : List UInt8} {j : Nat} (hc : c.length = 20) (hj : j < 5) : (dg c j).length = 4 := by rw [dg, List.length_drop, List.length_take]; omega
def wd (c : List UInt8) (j i : Nat) : Int := if j < i then num ((dg c j).take 4) else 0
structure Soa where
  m : List UInt8
  r : List UInt8
  n1 : Int
  n2 : Int
  n3 : Int
  n4 : Int
  n5 : Int
def soaA (x : Soa) : AV := .agg [str x.m, str x.r, i64 x.n1, i64 x.n2, i64 x.n3, i64 x.n4, i64 x.n5]
def soaO (b : List UInt8) : Bool := cutO b && (cutO (cutR b) && decide ((cutR (cutR b)).length = 20))
def soaV (b : List UInt8) : Soa := if soaO b then ⟨cutM b, cutM (cutR b), wd (cutR (cutR b)) 0 5, wd (cutR (cutR b)) 1 5, wd (cutR (cutR b)) 2 5, wd (cutR (cutR b)) 3 5, wd (cutR (cutR b)) 4 5⟩ else ⟨[], [], 0, 0, 0, 0, 0⟩
theorem soaV_no {b : List UInt8} (h : soaO b = false) : soaV b = ⟨[], [], 0, 0, 0, 0, 0⟩ := by rw [soaV, if_neg (by simp [h])]
theorem four_num {c : List UInt8} {j : Nat} (hc : c.length = 20) (hj : j < 5) : (((((c.getD (4 * j) default).toNat : Int) * 256 + ((c.getD (4 * j + 1) default).toNat : Int)) * 256 + ((c.getD (4 * j + 2) default).toNat : Int)) * 256 + ((c.getD (4 * j + 3) default).toNat : Int)) = wd c j 5 := by
  have hl := dg_len hc hj
  have hg : ∀ k, k < 4 → (dg c j).getD k default = c.getD (4 * j + k) default := by
    intro k hk
    rw [dg, List.getD_eq_getElem?_getD, List.getD_eq_getElem?_getD, List.getElem?_drop, List.getElem?_take, if_pos (by omega)]
    congr 2 <;> omega
  rw [wd, if_pos hj, num_step (by omega), num_step (by omega), num_step (by omega), num_step (by omega), hg 0 (by omega), hg 1 (by omega), hg 2 (by omega), hg 3 (by omega)]
  simp [num]

set_option maxRecDepth 20000 in
theorem c_rdata_cut (b : List UInt8) (lv : Nat) (h : b.length ≤ 140737488351232) : AC Try.prog 71 [.fz lv b.length (cl bc b)] emp (Ret (.tup [str (cutM b), .fz lv (cutR b).length (cl bc (cutR b)), tf (cutO b)])) := by
  refine AC.intro te_ok (fn := Try.f71) ⟨Try.func71, rfl, rfl⟩ (Nat.le_of_ble_eq_true rfl) ?_
  refine AWp.seq ?_
  refine AWp.region ?_
  refine AOps.cons rfl rfl (q_assign) ?_
  refine AOps.cons rfl rfl (q_nilz (lv) bc) ?_
  refine AOps.cons rfl rfl (q_assign) ?_
  refine AOps.nil ?_
  refine AWp.seq ?_
  refine AWp.region ?_
  refine AOps.cons rfl rfl (q_assign) ?_
  refine AOps.nil ?_
  refine AWp.seq ?_
  refine AWp.block ?_
  refine AWp.loopR (α := Nat) [5, 6, 7, 8, 9, 10, 11, 12, 13, 14, 15, 16, 17, 18, 19, 20, 21, 22, 23, 24] (fun i => [(5, i64 i)]) (fun i => []) (fun i => zer b i = zer b 0 ∧ i ≤ b.length + 255) (fun i => b.length - i) 0 ?_ (Back.mk' (HasT.cons HasT.nil) HasH.nil) ?_
  · exact ⟨rfl, Nat.zero_le _⟩
  · rintro i ⟨hz, hi⟩
    refine AWp.seq ?_
    refine AWp.seq ?_
    refine AWp.region ?_
    refine AOps.cons rfl rfl (q_move) ?_
    refine AOps.cons rfl rfl (q_move) ?_
    refine AOps.cons rfl rfl (q_len) ?_
    refine AOps.dec rfl rfl (q_lss) (fun h2_3 => ?_) (fun h2_3 => ?_)
    · skip
      refine AOps.cons rfl rfl (q_move) ?_
      refine AOps.gcons rfl rfl rfl rfl rfl (q_move) ?_
      refine AOps.gcons rfl rfl rfl rfl rfl (q_move) ?_
      refine AOps.gcons rfl rfl rfl rfl rfl (q_ix) ?_
      refine AOps.gcons rfl rfl rfl rfl rfl (q_load) ?_
      refine AOps.gdec rfl rfl rfl rfl rfl (q_neq) (fun h2_9 => ?_) (fun h2_9 => ?_)
      · skip
        refine AOps.cons rfl rfl (q_pick) ?_
        refine AOps.nil ?_
        refine AWp.cond_t rfl ?_
        refine AWp.skip ?_
        refine AWp.block ?_
        refine AWp.region ?_
        have hk := (b.getD i default).toNat_lt
        have he : (b.getD (i : Int).toNat default).toNat = (b.getD i default).toNat := rfl
        have k9 : ¬ (b.getD i default).toNat = 0 := fun e => h2_9 (by show ((b.getD i default).toNat : Int) = 0; omega)
        refine AOps.cons rfl rfl (q_move) ?_
        refine AOps.cons rfl rfl (q_move) ?_
        refine AOps.cons rfl rfl (q_move) ?_
        refine AOps.cons rfl rfl (q_ix) ?_
        refine AOps.cons rfl rfl (q_load) ?_
        refine AOps.cons rfl rfl (q_conv_8i) ?_
        refine AOps.cons rfl rfl (q_add) ?_
        refine AOps.cons rfl rfl (q_add) ?_
        refine AOps.cons rfl rfl (q_assign) ?_
        refine AOps.nil ?_
        refine ⟨i + 1 + (b.getD i default).toNat, ?_, Back.mk' (HasT.cons HasT.nil (h1 := by exact i64_eq (by show (i : Int) + (1 + ((b.getD i default).toNat : Int)) = ((i + 1 + (b.getD i default).toNat : Nat) : Int); omega)) ) HasH.nil, ?_⟩
        · exact ⟨(zer_step (by omega) k9).symm.trans hz, by omega⟩
        · omega
      · skip
        refine AOps.cons rfl rfl (q_pick) ?_
        refine AOps.nil ?_
        refine AWp.cond_f rfl ?_
        refine AWp.exit ?_
        refine AWp.seq ?_
        refine AWp.seq ?_
        refine AWp.region ?_
        have k9 : ((b.getD i default).toNat : Int) = 0 := Classical.not_not.1 h2_9
        have hz0 : zer b 0 = i := by rw [← hz]; exact zer_end (by omega)
        refine AOps.cons rfl rfl (q_move) ?_
        refine AOps.cons rfl rfl (q_move) ?_
        refine AOps.cons rfl rfl (q_len) ?_
        refine AOps.dec rfl rfl (q_geq) (fun h4_3 => ?_) (fun h4_3 => ?_)
        · exfalso; omega
        · skip
          refine AOps.cons rfl rfl (q_move) ?_
          have ei : ((i : Int) + 1).toNat = i + 1 := by omega
          refine AOps.gcons rfl rfl rfl rfl rfl (q_move) ?_
          refine AOps.gcons rfl rfl rfl rfl rfl (q_move) ?_
          refine AOps.gcons rfl rfl rfl rfl rfl (q_add) ?_
          refine AOps.gcons rfl rfl rfl rfl rfl (q_sl) ?_
          refine AOps.gcons rfl rfl rfl rfl rfl (by first | exact q_conv_zs | exact q_conv_ls) ?_
          refine AOps.gbool rfl rfl rfl rfl rfl (q_call (lv) (hc := c_name_Can _ (by first | assumption | omega | decide | (simp; omega) | (simp [*]; done)))) (fun h4_10 => ?_) (fun h4_10 => ?_)
          · skip
            refine AOps.gcons rfl rfl rfl rfl rfl (q_not) ?_
            refine AOps.cons rfl rfl (q_pick) ?_
            refine AOps.nil ?_
            refine AWp.cond_f rfl ?_
            refine AWp.skip ?_
            refine AWp.seq ?_
            refine AWp.draws [⟨0, [0], [], some 38, _, none⟩,
                ⟨1, [5], [], some 39, _, none⟩,
                ⟨2, [39], [], some 40, _, none⟩,
                ⟨3, [38, 40], [], some 41, _, none⟩,
                ⟨4, [41], [], some 42, _, none⟩,
                ⟨5, [0], [], some 43, _, none⟩,
                ⟨6, [5], [], some 44, _, none⟩,
                ⟨7, [44], [], some 45, _, none⟩,
                ⟨8, [43, 45], [], some 46, _, none⟩,
                ⟨9, [42], [], some 2, _, none⟩,
                ⟨10, [46], [], some 3, _, none⟩,
                ⟨11, [], [], some 4, _, none⟩]
              [⟨0, [0], [], some 38, .any, none⟩,
                  ⟨1, [5], [], some 39, .any, none⟩,
                  ⟨2, [39], [], some 40, .any, none⟩,
                  ⟨3, [38, 40], [], some 41, .any, none⟩,
                  ⟨4, [41], [], some 42, .any, none⟩,
                  ⟨5, [0], [], some 43, .any, none⟩,
                  ⟨6, [5], [], some 44, .any, none⟩,
                  ⟨7, [44], [], some 45, .any, none⟩,
                  ⟨8, [43, 45], [], some 46, .any, none⟩,
                  ⟨9, [42], [], some 2, .any, none⟩,
                  ⟨10, [46], [], some 3, .any, none⟩,
                  ⟨11, [], [], some 4, .any, none⟩]
              mixed_ok rfl (by kernel_rfl) ⟨DS.ok_over fun s0 => OpAt.go rfl rfl (q_move),
                  DS.ok_over fun s0 => OpAt.go rfl rfl (q_move),
                  DS.ok_over fun s0 => OpAt.go rfl rfl (q_add),
                  DS.ok_over fun s0 => OpAt.go rfl rfl (q_sl),
                  DS.ok_over fun s0 => OpAt.go rfl rfl (by first | exact q_conv_zs | exact q_conv_ls),
                  DS.ok_over fun s0 => OpAt.go rfl rfl (q_move),
                  DS.ok_over fun s0 => OpAt.go rfl rfl (q_move),
                  DS.ok_over fun s0 => OpAt.go rfl rfl (q_add),
                  DS.ok_over fun s0 => OpAt.go rfl rfl (q_sl),
                  DS.ok_over fun s0 => OpAt.go rfl rfl (q_assign),
                  DS.ok_over fun s0 => OpAt.go rfl rfl (q_assign),
                  DS.ok_over fun s0 => OpAt.go rfl rfl (q_assign), trivial⟩ ?_
            dsimp only [final, DS.upd, AS.seto]
            refine AWp.ret ?_
            show Fin te Try.f71 _ _
            refine q_ret (lv) [_, _, _] [_, _, _] ?_
            rw [ei] at h4_10
            obtain ⟨q1, q2, q3⟩ := cut_at (b := b) (k := i + 1) (by omega) h4_10
            rw [q1, q2, q3, ei]; rfl
          · skip
            refine AOps.gcons rfl rfl rfl rfl rfl (q_not) ?_
            refine AOps.cons rfl rfl (q_pick) ?_
            refine AOps.nil ?_
            refine AWp.cond_t rfl ?_
            refine AWp.seq ?_
            refine AWp.region ?_
            refine AOps.cons rfl rfl (q_assign) ?_
            refine AOps.cons rfl rfl (q_nilz (lv) bc) ?_
            refine AOps.cons rfl rfl (q_assign) ?_
            refine AOps.nil ?_
            refine AWp.ret ?_
            show Fin te Try.f71 _ _
            refine q_ret (lv) [_, _, _] [_, _, _] ?_
            have ho : cutO b = false := by rw [ei] at h4_10; rw [cutO, hz0, h4_10, Bool.and_false]
            rw [(cut_no ho).1, (cut_no ho).2, ho]; rfl
    · skip
      refine AOps.cons rfl rfl (q_move) ?_
      refine AOps.gskip rfl rfl rfl rfl rfl rfl rfl rfl ?_
      refine AOps.gskip rfl rfl rfl rfl rfl rfl rfl rfl ?_
      refine AOps.gskip rfl rfl rfl rfl rfl rfl rfl rfl ?_
      refine AOps.gskip rfl rfl rfl rfl rfl rfl rfl rfl ?_
      refine AOps.gskip rfl rfl rfl rfl rfl rfl rfl rfl ?_
      refine AOps.cons rfl rfl (q_pick) ?_
      refine AOps.nil ?_
      refine AWp.cond_f rfl ?_
      refine AWp.exit ?_
      refine AWp.seq ?_
      refine AWp.seq ?_
      refine AWp.region ?_
      have hz0 : zer b 0 = i := by rw [← hz]; exact zer_end (by omega)
      refine AOps.cons rfl rfl (q_move) ?_
      refine AOps.cons rfl rfl (q_move) ?_
      refine AOps.cons rfl rfl (q_len) ?_
      refine AOps.dec rfl rfl (q_geq) (fun h4_3 => ?_) (fun h4_3 => ?_)
      · skip
        refine AOps.cons rfl rfl (q_move) ?_
        have ei : ((i : Int) + 1).toNat = i + 1 := by omega
        refine AOps.gskip rfl rfl rfl rfl rfl rfl rfl rfl ?_
        refine AOps.gskip rfl rfl rfl rfl rfl rfl rfl rfl ?_
        refine AOps.gskip rfl rfl rfl rfl rfl rfl rfl rfl ?_
        refine AOps.gskip rfl rfl rfl rfl rfl rfl rfl rfl ?_
        refine AOps.gskip rfl rfl rfl rfl rfl rfl rfl rfl ?_
        refine AOps.gskip rfl rfl rfl rfl rfl rfl rfl rfl ?_
        refine AOps.gskip rfl rfl rfl rfl rfl rfl rfl rfl ?_
        refine AOps.cons rfl rfl (q_pick) ?_
        refine AOps.nil ?_
        refine AWp.cond_t rfl ?_
        refine AWp.seq ?_
        refine AWp.region ?_
        refine AOps.cons rfl rfl (q_assign) ?_
        refine AOps.cons rfl rfl (q_nilz (lv) bc) ?_
        refine AOps.cons rfl rfl (q_assign) ?_
        refine AOps.nil ?_
        refine AWp.ret ?_
        show Fin te Try.f71 _ _
        refine q_ret (lv) [_, _, _] [_, _, _] ?_
        have ho : cutO b = false := by rw [cutO, hz0, decide_eq_false (by omega)]; rfl
        rw [(cut_no ho).1, (cut_no ho).2, ho]; rfl
      · exfalso; omega

set_option maxRecDepth 20000 in
theorem c_rdata_SOA (b : List UInt8) (lv : Nat) (h : b.length ≤ 140737488351232) : AC Try.prog 63 [.fz lv b.length (cl bc b)] emp (Ret (.tup [soaA (soaV b), tf (soaO b)])) := by
  have hc1 := cut_len b
  have hc2 := cut_len (cutR b)
  refine AC.intro te_ok (fn := Try.f63) ⟨Try.func63, rfl, rfl⟩ (Nat.le_of_ble_eq_true rfl) ?_
  refine AWp.seq ?_
  refine AWp.region ?_
  refine AOps.cons rfl rfl (q_alloc 100) ?_
  refine AOps.cons rfl rfl (q_assign) ?_
  refine AOps.nil ?_
  refine AWp.seq ?_
  refine AWp.region ?_
  refine AOps.cons rfl rfl (q_alloc 200) ?_
  refine AOps.nil ?_
  refine AWp.seq ?_
  refine AWp.region ?_
  refine AOps.cons rfl rfl (q_assign) ?_
  refine AOps.nil ?_
  refine AWp.seq ?_
  refine AWp.region ?_
  refine AOps.cons rfl rfl (q_move) ?_
  refine AOps.cons rfl rfl (q_assign) ?_
  refine AOps.nil ?_
  refine AWp.seq ?_
  refine AWp.seq ?_
  refine AWp.region ?_
  refine AOps.cons rfl rfl (q_move) ?_
  refine AOps.cons rfl rfl (q_call (lv) (hc := c_rdata_cut _ _ (by first | assumption | omega | decide | (simp; omega) | (simp [*]; done)))) ?_
  refine AOps.cons rfl rfl (q_move) ?_
  refine AOps.cons rfl rfl (q_extract) ?_
  refine AOps.cons rfl rfl (q_extract) ?_
  refine AOps.bool rfl rfl (q_extract) (fun h4_5 => ?_) (fun h4_5 => ?_)
  · skip
    refine AOps.cons rfl rfl (q_fa) ?_
    refine AOps.cons rfl rfl (q_store) ?_
    refine AOps.cons rfl rfl (q_assign) ?_
    refine AOps.cons rfl rfl (q_assign) ?_
    refine AOps.nil ?_
    refine AWp.seq ?_
    refine AWp.region ?_
    refine AOps.cons rfl rfl (q_move) ?_
    refine AOps.cons rfl rfl (q_not) ?_
    refine AOps.nil ?_
    refine AWp.cond_f rfl ?_
    refine AWp.skip ?_
    refine AWp.seq ?_
    refine AWp.seq ?_
    refine AWp.region ?_
    refine AOps.cons rfl rfl (q_move) ?_
    refine AOps.cons rfl rfl (q_call (lv) (hc := c_rdata_cut _ _ (by first | assumption | omega | decide | (simp; omega) | (simp [*]; done)))) ?_
    refine AOps.cons rfl rfl (q_move) ?_
    refine AOps.cons rfl rfl (q_extract) ?_
    refine AOps.cons rfl rfl (q_extract) ?_
    refine AOps.bool rfl rfl (q_extract) (fun h7_5 => ?_) (fun h7_5 => ?_)
    · skip
      refine AOps.cons rfl rfl (q_fa) ?_
      refine AOps.cons rfl rfl (q_store) ?_
      refine AOps.cons rfl rfl (q_assign) ?_
      refine AOps.cons rfl rfl (q_assign) ?_
      refine AOps.nil ?_
      refine AWp.seq ?_
      refine AWp.region ?_
      refine AOps.cons rfl rfl (q_move) ?_
      refine AOps.cons rfl rfl (q_not) ?_
      refine AOps.cons rfl rfl (q_move) ?_
      refine AOps.gcons rfl rfl rfl rfl rfl (q_move) ?_
      refine AOps.gcons rfl rfl rfl rfl rfl (q_len) ?_
      refine AOps.gdec rfl rfl rfl rfl rfl (q_neq) (fun h8_5 => ?_) (fun h8_5 => ?_)
      · skip
        refine AOps.cons rfl rfl (q_pick) ?_
        refine AOps.nil ?_
        refine AWp.cond_t rfl ?_
        refine AWp.seq ?_
        refine AWp.region ?_
        refine AOps.cons rfl rfl (q_build []) ?_
        refine AOps.cons rfl rfl (q_store) ?_
        refine AOps.cons rfl rfl (q_assign) ?_
        refine AOps.nil ?_
        refine AWp.ret ?_
        show Fin te Try.f63 _ _
        refine q_ret (0) [_, _] [_, _] ?_
        have ho : soaO b = false := by rw [soaO, decide_eq_false (by omega), Bool.and_false, Bool.and_false]
        rw [soaV_no ho, ho]; rfl
      · skip
        refine AOps.cons rfl rfl (q_pick) ?_
        refine AOps.nil ?_
        refine AWp.cond_f rfl ?_
        refine AWp.skip ?_
        refine AWp.seq ?_
        refine AWp.seq ?_
        refine AWp.region ?_
        have hc20 : (cutR (cutR b)).length = 20 := by omega
        have hL5 : ([2, 3, 4, 5, 6] : List Nat).length = 5 := rfl
        refine AOps.cons rfl rfl (q_fa) ?_
        refine AOps.cons rfl rfl (q_fa) ?_
        refine AOps.cons rfl rfl (q_fa) ?_
        refine AOps.cons rfl rfl (q_fa) ?_
        refine AOps.cons rfl rfl (q_fa) ?_
        refine AOps.cons rfl rfl (q_bs 1105 (fun k => [AV.ptr 200 0 k]) [2, 3, 4, 5, 6] [(_, _), (_, _), (_, _), (_, _), (_, _)]) ?_
        refine AOps.cons rfl rfl (q_len) ?_
        refine AOps.cons rfl rfl (q_move) ?_
        refine AOps.nil ?_
        refine AWp.block ?_
        refine AWp.loopR (α := Nat) [7, 8, 10, 44, 45, 46, 47, 48, 49, 50, 51, 52, 53, 54, 55, 56, 57, 58, 59, 60, 61, 62, 63, 64, 65, 66, 67, 68, 69, 70, 71] (fun i => [(44, i64 i)]) (fun i => [(200, .box [str (cutM b), str (cutM (cutR b)), i64 (wd (cutR (cutR b)) 0 i), i64 (wd (cutR (cutR b)) 1 i), i64 (wd (cutR (cutR b)) 2 i), i64 (wd (cutR (cutR b)) 3 i), i64 (wd (cutR (cutR b)) 4 i)])]) (fun i => i ≤ 5) (fun i => 5 - i) 0 ?_ (Back.mk' (HasT.cons HasT.nil) (HasH.cons HasH.nil)) ?_
        · exact Nat.zero_le _
        · rintro i hi
          refine AWp.seq ?_
          refine AWp.region ?_
          refine AOps.dec rfl rfl (q_lss) (fun h11_0 => ?_) (fun h11_0 => ?_)
          · skip
            refine AOps.nil ?_
            refine AWp.seq ?_
            refine AWp.cond_t rfl ?_
            refine AWp.skip ?_
            refine AWp.seq ?_
            refine AWp.block ?_
            refine AWp.seq ?_
            refine AWp.region ?_
            obtain rfl | rfl | rfl | rfl | rfl : i = 0 ∨ i = 1 ∨ i = 2 ∨ i = 3 ∨ i = 4 := by omega
            · skip
              refine AOps.cons rfl rfl (q_move) ?_
              refine AOps.cons rfl rfl (q_ix) ?_
              refine AOps.cons rfl rfl (q_load (z := .ptr 200 0 2) (hy := rfl)) ?_
              refine AOps.cons rfl rfl (q_assign) ?_
              refine AOps.cons rfl rfl (q_assign) ?_
              refine AOps.nil ?_
              refine AWp.seq ?_
              refine AWp.region ?_
              refine AOps.cons rfl rfl (q_move) ?_
              refine AOps.cons rfl rfl (q_move) ?_
              refine AOps.cons rfl rfl (q_mul) ?_
              refine AOps.cons rfl rfl (q_move) ?_
              refine AOps.cons rfl rfl (q_mul) ?_
              refine AOps.cons rfl rfl (q_add) ?_
              refine AOps.cons rfl rfl (q_sl) ?_
              refine AOps.cons rfl rfl (q_len) ?_
              refine AOps.cons rfl rfl (q_move) ?_
              refine AOps.nil ?_
              refine AWp.block ?_
              refine AWp.loopR (α := Nat) [10, 57, 58, 59, 60, 61, 62, 63, 64, 65, 66, 67, 68, 69, 70] (fun k => [(57, i64 k)]) (fun k => [(200, .box [str (cutM b), str (cutM (cutR b)), i64 (num ((dg (cutR (cutR b)) 0).take k)), i64 (wd (cutR (cutR b)) 1 0), i64 (wd (cutR (cutR b)) 2 0), i64 (wd (cutR (cutR b)) 3 0), i64 (wd (cutR (cutR b)) 4 0)])]) (fun k => k ≤ 4) (fun k => 4 - k) 0 ?_ (Back.mk' (HasT.cons HasT.nil) (HasH.cons HasH.nil)) ?_
              · exact Nat.zero_le _
              · rintro k hk
                have hD := dg_len (j := 0) hc20 (by omega)
                have hn : k < 4 → 0 ≤ num ((dg (cutR (cutR b)) 0).take k) ∧ num ((dg (cutR (cutR b)) 0).take k) ≤ 16777215 := fun h4 => num_24 h4 (by rw [List.length_take]; omega)
                have hDl : ((dg (cutR (cutR b)) 0).length : Int) = 4 := by omega
                have hDl2 : ((List.drop (4 * ((0 : Nat) : Int)).toNat (List.take (4 * ((0 : Nat) : Int) + 4).toNat (cutR (cutR b)))).length : Int) = 4 := hDl
                have hby : ((List.drop (4 * ((0 : Nat) : Int)).toNat (List.take (4 * ((0 : Nat) : Int) + 4).toNat (cutR (cutR b)))).getD (k : Int).toNat default).toNat < 256 := ((dg (cutR (cutR b)) 0).getD k default).toNat_lt
                refine AWp.seq ?_
                refine AWp.region ?_
                refine AOps.dec rfl rfl (q_lss) (fun h14_0 => ?_) (fun h14_0 => ?_)
                · skip
                  refine AOps.nil ?_
                  refine AWp.seq ?_
                  refine AWp.cond_t rfl ?_
                  refine AWp.skip ?_
                  refine AWp.seq ?_
                  refine AWp.block ?_
                  refine AWp.seq ?_
                  refine AWp.region ?_
                  refine AOps.cons rfl rfl (q_ix) ?_
                  refine AOps.cons rfl rfl (q_load) ?_
                  refine AOps.cons rfl rfl (q_assign) ?_
                  refine AOps.nil ?_
                  refine AWp.region ?_
                  refine AOps.cons rfl rfl (q_move) ?_
                  refine AOps.cons rfl rfl (q_move) ?_
                  refine AOps.cons rfl rfl (q_nil) ?_
                  refine AOps.cons rfl rfl (q_load) ?_
                  refine AOps.cons rfl rfl (q_shl 8) ?_
                  refine AOps.cons rfl rfl (q_move) ?_
                  refine AOps.cons rfl rfl (q_conv_8i) ?_
                  refine AOps.cons rfl rfl (q_orb) ?_
                  refine AOps.cons rfl rfl (q_nil) ?_
                  refine AOps.cons rfl rfl (q_store) ?_
                  refine AOps.nil ?_
                  refine AWp.region ?_
                  refine AOps.cons rfl rfl (q_add) ?_
                  refine AOps.cons rfl rfl (q_move) ?_
                  refine AOps.nil ?_
                  have hst := num_step (l := dg (cutR (cutR b)) 0) (k := k) (by omega)
                  refine ⟨k + 1, ?_, Back.mk' (HasT.cons HasT.nil) (HasH.cons HasH.nil (h1 := by rw [hst]; rfl) ), ?_⟩
                  · omega
                  · omega
                · skip
                  refine AOps.nil ?_
                  refine AWp.seq ?_
                  refine AWp.cond_f rfl ?_
                  refine AWp.exit ?_
                  refine AWp.region ?_
                  obtain rfl : k = 4 := by omega
                  refine AOps.cons rfl rfl (q_add) ?_
                  refine AOps.cons rfl rfl (q_move) ?_
                  refine AOps.nil ?_
                  refine ⟨1, ?_, Back.mk' (HasT.cons HasT.nil) (HasH.cons HasH.nil), ?_⟩
                  · omega
                  · omega
            · skip
              refine AOps.cons rfl rfl (q_move) ?_
              refine AOps.cons rfl rfl (q_ix) ?_
              refine AOps.cons rfl rfl (q_load (z := .ptr 200 0 3) (hy := rfl)) ?_
              refine AOps.cons rfl rfl (q_assign) ?_
              refine AOps.cons rfl rfl (q_assign) ?_
              refine AOps.nil ?_
              refine AWp.seq ?_
              refine AWp.region ?_
              refine AOps.cons rfl rfl (q_move) ?_
              refine AOps.cons rfl rfl (q_move) ?_
              refine AOps.cons rfl rfl (q_mul) ?_
              refine AOps.cons rfl rfl (q_move) ?_
              refine AOps.cons rfl rfl (q_mul) ?_
              refine AOps.cons rfl rfl (q_add) ?_
              refine AOps.cons rfl rfl (q_sl) ?_
              refine AOps.cons rfl rfl (q_len) ?_
              refine AOps.cons rfl rfl (q_move) ?_
              refine AOps.nil ?_
              refine AWp.block ?_
              refine AWp.loopR (α := Nat) [10, 57, 58, 59, 60, 61, 62, 63, 64, 65, 66, 67, 68, 69, 70] (fun k => [(57, i64 k)]) (fun k => [(200, .box [str (cutM b), str (cutM (cutR b)), i64 (wd (cutR (cutR b)) 0 1), i64 (num ((dg (cutR (cutR b)) 1).take k)), i64 (wd (cutR (cutR b)) 2 1), i64 (wd (cutR (cutR b)) 3 1), i64 (wd (cutR (cutR b)) 4 1)])]) (fun k => k ≤ 4) (fun k => 4 - k) 0 ?_ (Back.mk' (HasT.cons HasT.nil) (HasH.cons HasH.nil)) ?_
              · exact Nat.zero_le _
              · rintro k hk
                have hD := dg_len (j := 1) hc20 (by omega)
                have hn : k < 4 → 0 ≤ num ((dg (cutR (cutR b)) 1).take k) ∧ num ((dg (cutR (cutR b)) 1).take k) ≤ 16777215 := fun h4 => num_24 h4 (by rw [List.length_take]; omega)
                have hDl : ((dg (cutR (cutR b)) 1).length : Int) = 4 := by omega
                have hDl2 : ((List.drop (4 * ((1 : Nat) : Int)).toNat (List.take (4 * ((1 : Nat) : Int) + 4).toNat (cutR (cutR b)))).length : Int) = 4 := hDl
                have hby : ((List.drop (4 * ((1 : Nat) : Int)).toNat (List.take (4 * ((1 : Nat) : Int) + 4).toNat (cutR (cutR b)))).getD (k : Int).toNat default).toNat < 256 := ((dg (cutR (cutR b)) 1).getD k default).toNat_lt
                refine AWp.seq ?_
                refine AWp.region ?_
                refine AOps.dec rfl rfl (q_lss) (fun h14_0 => ?_) (fun h14_0 => ?_)
                · skip
                  refine AOps.nil ?_
                  refine AWp.seq ?_
                  refine AWp.cond_t rfl ?_
                  refine AWp.skip ?_
                  refine AWp.seq ?_
                  refine AWp.block ?_
                  refine AWp.seq ?_
                  refine AWp.region ?_
                  refine AOps.cons rfl rfl (q_ix) ?_
                  refine AOps.cons rfl rfl (q_load) ?_
                  refine AOps.cons rfl rfl (q_assign) ?_
                  refine AOps.nil ?_
                  refine AWp.region ?_
                  refine AOps.cons rfl rfl (q_move) ?_
                  refine AOps.cons rfl rfl (q_move) ?_
                  refine AOps.cons rfl rfl (q_nil) ?_
                  refine AOps.cons rfl rfl (q_load) ?_
                  refine AOps.cons rfl rfl (q_shl 8) ?_
                  refine AOps.cons rfl rfl (q_move) ?_
                  refine AOps.cons rfl rfl (q_conv_8i) ?_
                  refine AOps.cons rfl rfl (q_orb) ?_
                  refine AOps.cons rfl rfl (q_nil) ?_
                  refine AOps.cons rfl rfl (q_store) ?_
                  refine AOps.nil ?_
                  refine AWp.region ?_
                  refine AOps.cons rfl rfl (q_add) ?_
                  refine AOps.cons rfl rfl (q_move) ?_
                  refine AOps.nil ?_
                  have hst := num_step (l := dg (cutR (cutR b)) 1) (k := k) (by omega)
                  refine ⟨k + 1, ?_, Back.mk' (HasT.cons HasT.nil) (HasH.cons HasH.nil (h1 := by rw [hst]; rfl) ), ?_⟩
                  · omega
                  · omega
                · skip
                  refine AOps.nil ?_
                  refine AWp.seq ?_
                  refine AWp.cond_f rfl ?_
                  refine AWp.exit ?_
                  refine AWp.region ?_
                  obtain rfl : k = 4 := by omega
                  refine AOps.cons rfl rfl (q_add) ?_
                  refine AOps.cons rfl rfl (q_move) ?_
                  refine AOps.nil ?_
                  refine ⟨2, ?_, Back.mk' (HasT.cons HasT.nil) (HasH.cons HasH.nil), ?_⟩
                  · omega
                  · omega
            · skip
              refine AOps.cons rfl rfl (q_move) ?_
              refine AOps.cons rfl rfl (q_ix) ?_
              refine AOps.cons rfl rfl (q_load (z := .ptr 200 0 4) (hy := rfl)) ?_
              refine AOps.cons rfl rfl (q_assign) ?_
              refine AOps.cons rfl rfl (q_assign) ?_
              refine AOps.nil ?_
              refine AWp.seq ?_
              refine AWp.region ?_
              refine AOps.cons rfl rfl (q_move) ?_
              refine AOps.cons rfl rfl (q_move) ?_
              refine AOps.cons rfl rfl (q_mul) ?_
              refine AOps.cons rfl rfl (q_move) ?_
              refine AOps.cons rfl rfl (q_mul) ?_
              refine AOps.cons rfl rfl (q_add) ?_
              refine AOps.cons rfl rfl (q_sl) ?_
              refine AOps.cons rfl rfl (q_len) ?_
              refine AOps.cons rfl rfl (q_move) ?_
              refine AOps.nil ?_
              refine AWp.block ?_
              refine AWp.loopR (α := Nat) [10, 57, 58, 59, 60, 61, 62, 63, 64, 65, 66, 67, 68, 69, 70] (fun k => [(57, i64 k)]) (fun k => [(200, .box [str (cutM b), str (cutM (cutR b)), i64 (wd (cutR (cutR b)) 0 2), i64 (wd (cutR (cutR b)) 1 2), i64 (num ((dg (cutR (cutR b)) 2).take k)), i64 (wd (cutR (cutR b)) 3 2), i64 (wd (cutR (cutR b)) 4 2)])]) (fun k => k ≤ 4) (fun k => 4 - k) 0 ?_ (Back.mk' (HasT.cons HasT.nil) (HasH.cons HasH.nil)) ?_
              · exact Nat.zero_le _
              · rintro k hk
                have hD := dg_len (j := 2) hc20 (by omega)
                have hn : k < 4 → 0 ≤ num ((dg (cutR (cutR b)) 2).take k) ∧ num ((dg (cutR (cutR b)) 2).take k) ≤ 16777215 := fun h4 => num_24 h4 (by rw [List.length_take]; omega)
                have hDl : ((dg (cutR (cutR b)) 2).length : Int) = 4 := by omega
                have hDl2 : ((List.drop (4 * ((2 : Nat) : Int)).toNat (List.take (4 * ((2 : Nat) : Int) + 4).toNat (cutR (cutR b)))).length : Int) = 4 := hDl
                have hby : ((List.drop (4 * ((2 : Nat) : Int)).toNat (List.take (4 * ((2 : Nat) : Int) + 4).toNat (cutR (cutR b)))).getD (k : Int).toNat default).toNat < 256 := ((dg (cutR (cutR b)) 2).getD k default).toNat_lt
                refine AWp.seq ?_
                refine AWp.region ?_
                refine AOps.dec rfl rfl (q_lss) (fun h14_0 => ?_) (fun h14_0 => ?_)
                · skip
                  refine AOps.nil ?_
                  refine AWp.seq ?_
                  refine AWp.cond_t rfl ?_
                  refine AWp.skip ?_
                  refine AWp.seq ?_
                  refine AWp.block ?_
                  refine AWp.seq ?_
                  refine AWp.region ?_
                  refine AOps.cons rfl rfl (q_ix) ?_
                  refine AOps.cons rfl rfl (q_load) ?_
                  refine AOps.cons rfl rfl (q_assign) ?_
                  refine AOps.nil ?_
                  refine AWp.region ?_
                  refine AOps.cons rfl rfl (q_move) ?_
                  refine AOps.cons rfl rfl (q_move) ?_
                  refine AOps.cons rfl rfl (q_nil) ?_
                  refine AOps.cons rfl rfl (q_load) ?_
                  refine AOps.cons rfl rfl (q_shl 8) ?_
                  refine AOps.cons rfl rfl (q_move) ?_
                  refine AOps.cons rfl rfl (q_conv_8i) ?_
                  refine AOps.cons rfl rfl (q_orb) ?_
                  refine AOps.cons rfl rfl (q_nil) ?_
                  refine AOps.cons rfl rfl (q_store) ?_
                  refine AOps.nil ?_
                  refine AWp.region ?_
                  refine AOps.cons rfl rfl (q_add) ?_
                  refine AOps.cons rfl rfl (q_move) ?_
                  refine AOps.nil ?_
                  have hst := num_step (l := dg (cutR (cutR b)) 2) (k := k) (by omega)
                  refine ⟨k + 1, ?_, Back.mk' (HasT.cons HasT.nil) (HasH.cons HasH.nil (h1 := by rw [hst]; rfl) ), ?_⟩
                  · omega
                  · omega
                · skip
                  refine AOps.nil ?_
                  refine AWp.seq ?_
                  refine AWp.cond_f rfl ?_
                  refine AWp.exit ?_
                  refine AWp.region ?_
                  obtain rfl : k = 4 := by omega
                  refine AOps.cons rfl rfl (q_add) ?_
                  refine AOps.cons rfl rfl (q_move) ?_
                  refine AOps.nil ?_
                  refine ⟨3, ?_, Back.mk' (HasT.cons HasT.nil) (HasH.cons HasH.nil), ?_⟩
                  · omega
                  · omega
            · skip
              refine AOps.cons rfl rfl (q_move) ?_
              refine AOps.cons rfl rfl (q_ix) ?_
              refine AOps.cons rfl rfl (q_load (z := .ptr 200 0 5) (hy := rfl)) ?_
              refine AOps.cons rfl rfl (q_assign) ?_
              refine AOps.cons rfl rfl (q_assign) ?_
              refine AOps.nil ?_
              refine AWp.seq ?_
              refine AWp.region ?_
              refine AOps.cons rfl rfl (q_move) ?_
              refine AOps.cons rfl rfl (q_move) ?_
              refine AOps.cons rfl rfl (q_mul) ?_
              refine AOps.cons rfl rfl (q_move) ?_
              refine AOps.cons rfl rfl (q_mul) ?_
              refine AOps.cons rfl rfl (q_add) ?_
              refine AOps.cons rfl rfl (q_sl) ?_
              refine AOps.cons rfl rfl (q_len) ?_
              refine AOps.cons rfl rfl (q_move) ?_
              refine AOps.nil ?_
              refine AWp.block ?_
              refine AWp.loopR (α := Nat) [10, 57, 58, 59, 60, 61, 62, 63, 64, 65, 66, 67, 68, 69, 70] (fun k => [(57, i64 k)]) (fun k => [(200, .box [str (cutM b), str (cutM (cutR b)), i64 (wd (cutR (cutR b)) 0 3), i64 (wd (cutR (cutR b)) 1 3), i64 (wd (cutR (cutR b)) 2 3), i64 (num ((dg (cutR (cutR b)) 3).take k)), i64 (wd (cutR (cutR b)) 4 3)])]) (fun k => k ≤ 4) (fun k => 4 - k) 0 ?_ (Back.mk' (HasT.cons HasT.nil) (HasH.cons HasH.nil)) ?_
              · exact Nat.zero_le _
              · rintro k hk
                have hD := dg_len (j := 3) hc20 (by omega)
                have hn : k < 4 → 0 ≤ num ((dg (cutR (cutR b)) 3).take k) ∧ num ((dg (cutR (cutR b)) 3).take k) ≤ 16777215 := fun h4 => num_24 h4 (by rw [List.length_take]; omega)
                have hDl : ((dg (cutR (cutR b)) 3).length : Int) = 4 := by omega
                have hDl2 : ((List.drop (4 * ((3 : Nat) : Int)).toNat (List.take (4 * ((3 : Nat) : Int) + 4).toNat (cutR (cutR b)))).length : Int) = 4 := hDl
                have hby : ((List.drop (4 * ((3 : Nat) : Int)).toNat (List.take (4 * ((3 : Nat) : Int) + 4).toNat (cutR (cutR b)))).getD (k : Int).toNat default).toNat < 256 := ((dg (cutR (cutR b)) 3).getD k default).toNat_lt
                refine AWp.seq ?_
                refine AWp.region ?_
                refine AOps.dec rfl rfl (q_lss) (fun h14_0 => ?_) (fun h14_0 => ?_)
                · skip
                  refine AOps.nil ?_
                  refine AWp.seq ?_
                  refine AWp.cond_t rfl ?_
                  refine AWp.skip ?_
                  refine AWp.seq ?_
                  refine AWp.block ?_
                  refine AWp.seq ?_
                  refine AWp.region ?_
                  refine AOps.cons rfl rfl (q_ix) ?_
                  refine AOps.cons rfl rfl (q_load) ?_
                  refine AOps.cons rfl rfl (q_assign) ?_
                  refine AOps.nil ?_
                  refine AWp.region ?_
                  refine AOps.cons rfl rfl (q_move) ?_
                  refine AOps.cons rfl rfl (q_move) ?_
                  refine AOps.cons rfl rfl (q_nil) ?_
                  refine AOps.cons rfl rfl (q_load) ?_
                  refine AOps.cons rfl rfl (q_shl 8) ?_
                  refine AOps.cons rfl rfl (q_move) ?_
                  refine AOps.cons rfl rfl (q_conv_8i) ?_
                  refine AOps.cons rfl rfl (q_orb) ?_
                  refine AOps.cons rfl rfl (q_nil) ?_
                  refine AOps.cons rfl rfl (q_store) ?_
                  refine AOps.nil ?_
                  refine AWp.region ?_
                  refine AOps.cons rfl rfl (q_add) ?_
                  refine AOps.cons rfl rfl (q_move) ?_
                  refine AOps.nil ?_
                  have hst := num_step (l := dg (cutR (cutR b)) 3) (k := k) (by omega)
                  refine ⟨k + 1, ?_, Back.mk' (HasT.cons HasT.nil) (HasH.cons HasH.nil (h1 := by rw [hst]; rfl) ), ?_⟩
                  · omega
                  · omega
                · skip
                  refine AOps.nil ?_
                  refine AWp.seq ?_
                  refine AWp.cond_f rfl ?_
                  refine AWp.exit ?_
                  refine AWp.region ?_
                  obtain rfl : k = 4 := by omega
                  refine AOps.cons rfl rfl (q_add) ?_
                  refine AOps.cons rfl rfl (q_move) ?_
                  refine AOps.nil ?_
                  refine ⟨4, ?_, Back.mk' (HasT.cons HasT.nil) (HasH.cons HasH.nil), ?_⟩
                  · omega
                  · omega
            · skip
              refine AOps.cons rfl rfl (q_move) ?_
              refine AOps.cons rfl rfl (q_ix) ?_
              refine AOps.cons rfl rfl (q_load (z := .ptr 200 0 6) (hy := rfl)) ?_
              refine AOps.cons rfl rfl (q_assign) ?_
              refine AOps.cons rfl rfl (q_assign) ?_
              refine AOps.nil ?_
              refine AWp.seq ?_
              refine AWp.region ?_
              refine AOps.cons rfl rfl (q_move) ?_
              refine AOps.cons rfl rfl (q_move) ?_
              refine AOps.cons rfl rfl (q_mul) ?_
              refine AOps.cons rfl rfl (q_move) ?_
              refine AOps.cons rfl rfl (q_mul) ?_
              refine AOps.cons rfl rfl (q_add) ?_
              refine AOps.cons rfl rfl (q_sl) ?_
              refine AOps.cons rfl rfl (q_len) ?_
              refine AOps.cons rfl rfl (q_move) ?_
              refine AOps.nil ?_
              refine AWp.block ?_
              refine AWp.loopR (α := Nat) [10, 57, 58, 59, 60, 61, 62, 63, 64, 65, 66, 67, 68, 69, 70] (fun k => [(57, i64 k)]) (fun k => [(200, .box [str (cutM b), str (cutM (cutR b)), i64 (wd (cutR (cutR b)) 0 4), i64 (wd (cutR (cutR b)) 1 4), i64 (wd (cutR (cutR b)) 2 4), i64 (wd (cutR (cutR b)) 3 4), i64 (num ((dg (cutR (cutR b)) 4).take k))])]) (fun k => k ≤ 4) (fun k => 4 - k) 0 ?_ (Back.mk' (HasT.cons HasT.nil) (HasH.cons HasH.nil)) ?_
              · exact Nat.zero_le _
              · rintro k hk
                have hD := dg_len (j := 4) hc20 (by omega)
                have hn : k < 4 → 0 ≤ num ((dg (cutR (cutR b)) 4).take k) ∧ num ((dg (cutR (cutR b)) 4).take k) ≤ 16777215 := fun h4 => num_24 h4 (by rw [List.length_take]; omega)
                have hDl : ((dg (cutR (cutR b)) 4).length : Int) = 4 := by omega
                have hDl2 : ((List.drop (4 * ((4 : Nat) : Int)).toNat (List.take (4 * ((4 : Nat) : Int) + 4).toNat (cutR (cutR b)))).length : Int) = 4 := hDl
                have hby : ((List.drop (4 * ((4 : Nat) : Int)).toNat (List.take (4 * ((4 : Nat) : Int) + 4).toNat (cutR (cutR b)))).getD (k : Int).toNat default).toNat < 256 := ((dg (cutR (cutR b)) 4).getD k default).toNat_lt
                refine AWp.seq ?_
                refine AWp.region ?_
                refine AOps.dec rfl rfl (q_lss) (fun h14_0 => ?_) (fun h14_0 => ?_)
                · skip
                  refine AOps.nil ?_
                  refine AWp.seq ?_
                  refine AWp.cond_t rfl ?_
                  refine AWp.skip ?_
                  refine AWp.seq ?_
                  refine AWp.block ?_
                  refine AWp.seq ?_
                  refine AWp.region ?_
                  refine AOps.cons rfl rfl (q_ix) ?_
                  refine AOps.cons rfl rfl (q_load) ?_
                  refine AOps.cons rfl rfl (q_assign) ?_
                  refine AOps.nil ?_
                  refine AWp.region ?_
                  refine AOps.cons rfl rfl (q_move) ?_
                  refine AOps.cons rfl rfl (q_move) ?_
                  refine AOps.cons rfl rfl (q_nil) ?_
                  refine AOps.cons rfl rfl (q_load) ?_
                  refine AOps.cons rfl rfl (q_shl 8) ?_
                  refine AOps.cons rfl rfl (q_move) ?_
                  refine AOps.cons rfl rfl (q_conv_8i) ?_
                  refine AOps.cons rfl rfl (q_orb) ?_
                  refine AOps.cons rfl rfl (q_nil) ?_
                  refine AOps.cons rfl rfl (q_store) ?_
                  refine AOps.nil ?_
                  refine AWp.region ?_
                  refine AOps.cons rfl rfl (q_add) ?_
                  refine AOps.cons rfl rfl (q_move) ?_
                  refine AOps.nil ?_
                  have hst := num_step (l := dg (cutR (cutR b)) 4) (k := k) (by omega)
                  refine ⟨k + 1, ?_, Back.mk' (HasT.cons HasT.nil) (HasH.cons HasH.nil (h1 := by rw [hst]; rfl) ), ?_⟩
                  · omega
                  · omega
                · skip
                  refine AOps.nil ?_
                  refine AWp.seq ?_
                  refine AWp.cond_f rfl ?_
                  refine AWp.exit ?_
                  refine AWp.region ?_
                  obtain rfl : k = 4 := by omega
                  refine AOps.cons rfl rfl (q_add) ?_
                  refine AOps.cons rfl rfl (q_move) ?_
                  refine AOps.nil ?_
                  refine ⟨5, ?_, Back.mk' (HasT.cons HasT.nil) (HasH.cons HasH.nil), ?_⟩
                  · omega
                  · omega
          · skip
            refine AOps.nil ?_
            refine AWp.seq ?_
            refine AWp.cond_f rfl ?_
            refine AWp.exit ?_
            refine AWp.seq ?_
            refine AWp.region ?_
            obtain rfl : i = 5 := by omega
            have ho : soaO b = true := by rw [soaO, h4_5, h7_5, decide_eq_true (by omega)]; rfl
            have hv : soaV b = ⟨cutM b, cutM (cutR b), wd (cutR (cutR b)) 0 5, wd (cutR (cutR b)) 1 5, wd (cutR (cutR b)) 2 5, wd (cutR (cutR b)) 3 5, wd (cutR (cutR b)) 4 5⟩ := by rw [soaV, if_pos ho]
            refine AOps.cons rfl rfl (q_load) ?_
            refine AOps.cons rfl rfl (q_store) ?_
            refine AOps.cons rfl rfl (q_assign) ?_
            refine AOps.nil ?_
            refine AWp.ret ?_
            show Fin te Try.f63 _ _
            refine q_ret (0) [_, _] [_, _] ?_
            rw [hv, ho]; rfl
    · skip
      refine AOps.cons rfl rfl (q_fa) ?_
      refine AOps.cons rfl rfl (q_store) ?_
      refine AOps.cons rfl rfl (q_assign) ?_
      refine AOps.cons rfl rfl (q_assign) ?_
      refine AOps.nil ?_
      refine AWp.seq ?_
      refine AWp.region ?_
      refine AOps.cons rfl rfl (q_move) ?_
      refine AOps.cons rfl rfl (q_not) ?_
      refine AOps.cons rfl rfl (q_move) ?_
      refine AOps.gskip rfl rfl rfl rfl rfl rfl rfl rfl ?_
      refine AOps.gskip rfl rfl rfl rfl rfl rfl rfl rfl ?_
      refine AOps.gskip rfl rfl rfl rfl rfl rfl rfl rfl ?_
      refine AOps.cons rfl rfl (q_pick) ?_
      refine AOps.nil ?_
      refine AWp.cond_t rfl ?_
      refine AWp.seq ?_
      refine AWp.region ?_
      refine AOps.cons rfl rfl (q_build []) ?_
      refine AOps.cons rfl rfl (q_store) ?_
      refine AOps.cons rfl rfl (q_assign) ?_
      refine AOps.nil ?_
      refine AWp.ret ?_
      show Fin te Try.f63 _ _
      refine q_ret (0) [_, _] [_, _] ?_
      have ho : soaO b = false := by rw [soaO, h7_5, Bool.false_and, Bool.and_false]
      rw [soaV_no ho, ho]; rfl
  · skip
    refine AOps.cons rfl rfl (q_fa) ?_
    refine AOps.cons rfl rfl (q_store) ?_
    refine AOps.cons rfl rfl (q_assign) ?_
    refine AOps.cons rfl rfl (q_assign) ?_
    refine AOps.nil ?_
    refine AWp.seq ?_
    refine AWp.region ?_
    refine AOps.cons rfl rfl (q_move) ?_
    refine AOps.cons rfl rfl (q_not) ?_
    refine AOps.nil ?_
    refine AWp.cond_t rfl ?_
    refine AWp.seq ?_
    refine AWp.region ?_
    refine AOps.cons rfl rfl (q_build []) ?_
    refine AOps.cons rfl rfl (q_store) ?_
    refine AOps.cons rfl rfl (q_assign) ?_
    refine AOps.nil ?_
    refine AWp.ret ?_
    show Fin te Try.f63 _ _
    refine q_ret (0) [_, _] [_, _] ?_
    have ho : soaO b = false := by rw [soaO, h4_5]; rfl
    rw [soaV_no ho, ho]; rfl

end Go.Proofs.Ytaemmklgofddmaa.Fw

/- Walks of layer 3: an SOA's bytes; the reference's. -/
set_option linter.unusedVariables false
set_option linter.unusedSimpArgs false
namespace Go.Proofs.Ytaemmklgofddmaa.Fw
open Go.RowKit


def ns (x : Soa) : List Int := [x.n1, x.n2, x.n3, x.n4, x.n5]
def fourB (n : Int) : List UInt8 := [byte (n / 2 ^ 24), byte (n / 2 ^ 16), byte (n / 2 ^ 8), byte n]
def okN (n : Int) : Bool := decide (0 ≤ n ∧ n ≤ 4294967295)
def mkO (x : Soa) : Bool := canN x.m && (canN x.r && (ns x).all okN)
def mkB (x : Soa) : List UInt8 := if mkO x then x.m ++ x.r ++ (ns x).flatMap fourB else []
def mkE (x : Soa) : Int := if mkO x then 0 else 1
theorem mk_no {x : Soa} (h : mkO x = false) : mkB x = [] ∧ mkE x = 1 := by simp [mkB, mkE, h]
theorem mk_yes {x : Soa} (h : mkO x = true) : mkB x = x.m ++ x.r ++ (ns x).flatMap fourB ∧ mkE x = 0 := by simp [mkB, mkE, h]
theorem mk_bad {x : Soa} {i : Nat} (h : i < 5) (hn : ¬ (0 ≤ (ns x).getD i default ∧ (ns x).getD i default ≤ 4294967295)) : mkO x = false := by
  have hm : (ns x).getD i default ∈ ns x := getD_mem' (l := ns x) h
  cases ho : mkO x with
  | false => rfl
  | true =>
    simp only [mkO, Bool.and_eq_true, List.all_eq_true] at ho
    have := ho.2.2 _ hm
    rw [okN, decide_eq_true_eq] at this
    exact absurd this hn
theorem mk_good {x : Soa} (h1 : canN x.m = true) (h2 : canN x.r = true) (h3 : ∀ n ∈ ns x, 0 ≤ n ∧ n ≤ 4294967295) : mkO x = true := by
  rw [mkO, h1, h2]
  simp only [Bool.true_and, List.all_eq_true]
  exact fun n hn => decide_eq_true (h3 n hn)
theorem ns_step {x : Soa} {i : Nat} (h : i < 5) (hI : ∀ n ∈ (ns x).take i, 0 ≤ n ∧ n ≤ 4294967295) (h1 : 0 ≤ (ns x).getD i default ∧ (ns x).getD i default ≤ 4294967295) : ∀ n ∈ (ns x).take (i + 1), 0 ≤ n ∧ n ≤ 4294967295 := by
  intro n hn
  have e : (ns x).take (i + 1) = (ns x).take i ++ [(ns x).getD i default] := by
    have := take_map_step (fun y => y) (l := ns x) (i := i) h
    simpa using this
  rw [e] at hn
  rcases List.mem_append.1 hn with hn | hn
  · exact hI n hn
  · rw [List.mem_singleton.1 hn]; exact h1
theorem ns_flat {x : Soa} {i : Nat} (h : i < 5) : ((ns x).take (i + 1)).flatMap fourB = ((ns x).take i).flatMap fourB ++ fourB ((ns x).getD i default) := by
  have e : (ns x).take (i + 1) = (ns x).take i ++ [(ns x).getD i default] := by
    have := take_map_step (fun y => y) (l := ns x) (i := i) h
    simpa using this
  rw [e, List.flatMap_append]
  simp
theorem ns_len {x : Soa} {i : Nat} (h : i ≤ 5) : (((ns x).take i).flatMap fourB).length = 4 * i := by
  have : i = 0 ∨ i = 1 ∨ i = 2 ∨ i = 3 ∨ i = 4 ∨ i = 5 := by omega
  rcases this with rfl | rfl | rfl | rfl | rfl | rfl <;> rfl
def fourR (b : List UInt8) : Int := (((((b.getD 0 default).toNat : Int) * 256 + ((b.getD 1 default).toNat : Int)) * 256 + ((b.getD 2 default).toNat : Int)) * 256 + ((b.getD 3 default).toNat : Int))
theorem fourR_drop {c : List UInt8} {j : Nat} (hc : c.length = 20) (hj : j < 5) : fourR (c.drop (4 * j)) = wd c j 5 := by
  rw [← four_num hc hj, fourR]
  have e : ∀ k, (c.drop (4 * j)).getD k default = c.getD (4 * j + k) default := fun k => by rw [List.getD_eq_getElem?_getD, List.getD_eq_getElem?_getD, List.getElem?_drop]
  rw [e 0, e 1, e 2, e 3]
  rfl
def canS (t : Int) (d : List UInt8) : Bool := if t = 6 then decide (d.length ≤ 65535) && soaO d else canR t d
def namS (t : Int) (d : List UInt8) : List (List UInt8) := if t = 6 then (if canS 6 d then [(soaV d).m, (soaV d).r] else []) else namR t d
theorem canS_ne {t : Int} {d : List UInt8} (h : t ≠ 6) : canS t d = canR t d := if_neg h
theorem namS_ne {t : Int} {d : List UInt8} (h : t ≠ 6) : namS t d = namR t d := if_neg h
theorem canS_6 {d : List UInt8} (h : d.length ≤ 65535) : canS 6 d = soaO d := by rw [canS, if_pos rfl, decide_eq_true h, Bool.true_and]
theorem canS_6n {d : List UInt8} (h : ¬ d.length ≤ 65535) : canS 6 d = false := by rw [canS, if_pos rfl, decide_eq_false h, Bool.false_and]
theorem soa_len (b : List UInt8) : (soaV b).m.length ≤ 255 ∧ (soaV b).r.length ≤ 255 := by
  have h1 := cut_len b
  have h2 := cut_len (cutR b)
  unfold soaV
  split
  · exact ⟨h1.1, h2.1⟩
  · simp

set_option maxRecDepth 20000 in
theorem c_bytes_Equal (l m : List UInt8) (lv lw : Nat) : AC Try.prog 15 [.fz lv l.length (cl bc l), .fz lw m.length (cl bc m)] emp (Ret (tf (decide (l = m)))) := by
  refine AC.intro te_ok (fn := Try.f15) ⟨Try.func15, rfl, rfl⟩ (Nat.le_of_ble_eq_true rfl) ?_
  refine AWp.seq ?_
  refine AWp.region ?_
  refine AOps.cons rfl rfl (q_assign) ?_
  refine AOps.nil ?_
  refine AWp.seq ?_
  refine AWp.region ?_
  refine AOps.cons rfl rfl (q_move) ?_
  refine AOps.cons rfl rfl (by first | exact q_conv_zs | exact q_conv_ls) ?_
  refine AOps.cons rfl rfl (q_move) ?_
  refine AOps.cons rfl rfl (by first | exact q_conv_zs | exact q_conv_ls) ?_
  refine AOps.cons rfl rfl (q_seql) ?_
  refine AOps.cons rfl rfl (q_assign) ?_
  refine AOps.nil ?_
  refine AWp.ret ?_
  show Fin te Try.f15 _ _
  refine q_ret (0) [_] [_] ?_
  first | rfl | (simp; done)

set_option maxRecDepth 20000 in
theorem c_bytes_Clone (l : List UInt8) (lv : Nat) (h : l.length ≤ 140737488351232) : AC Try.prog 21 [.fz lv l.length (cl bc l)] emp (Ret (.fz 0 l.length (cl bc l))) := by
  refine AC.intro te_ok (fn := Try.f21) ⟨Try.func21, rfl, rfl⟩ (Nat.le_of_ble_eq_true rfl) ?_
  refine AWp.seq ?_
  refine AWp.region ?_
  refine AOps.cons rfl rfl (q_nilz (0) bc) ?_
  refine AOps.nil ?_
  refine AWp.seq ?_
  refine AWp.seq ?_
  refine AWp.region ?_
  refine AOps.cons rfl rfl (q_move) ?_
  refine AOps.snil (fun h1_1 => ?_) ?_
  · skip
    refine AOps.nil ?_
    refine AWp.cond_t rfl ?_
    refine AWp.seq ?_
    refine AWp.region ?_
    refine AOps.cons rfl rfl (q_nilz (0) bc) ?_
    refine AOps.nil ?_
    refine AWp.ret ?_
    show Fin te Try.f21 _ _
    refine q_ret (0) [_] [_] ?_
    obtain rfl := List.eq_nil_of_length_eq_zero h1_1
    rfl
  · skip
    refine AOps.nil ?_
    refine AWp.cond_f rfl ?_
    refine AWp.skip ?_
    refine AWp.seq ?_
    refine AWp.region ?_
    refine AOps.cons rfl rfl (q_bs 400 bc [] []) ?_
    refine AOps.cons rfl rfl (q_move) ?_
    refine AOps.cons rfl rfl (q_app) ?_
    refine AOps.cons rfl rfl (q_assign) ?_
    refine AOps.nil ?_
    refine AWp.ret ?_
    show Fin te Try.f21 _ _
    refine q_ret (0) [_] [_] ?_
    rfl

set_option maxRecDepth 20000 in
theorem co_Clone (l : List UInt8) (lv : Nat) (h : l.length ≤ 140737488351232) : AC Try.prog 21 [.fz lv l.length (cl bc l)] (hlook []) (RetH (.sl 8 0 0 l.length 1) [(8, .row (cl bc l) 1 0)]) := by
  refine AC.intro te_ok (fn := Try.f21) ⟨Try.func21, rfl, rfl⟩ (Nat.le_of_ble_eq_true rfl) ?_
  refine AWp.seq ?_
  refine AWp.region ?_
  refine AOps.cons rfl rfl (q_nilz (0) bc) ?_
  refine AOps.nil ?_
  refine AWp.seq ?_
  refine AWp.seq ?_
  refine AWp.region ?_
  refine AOps.cons rfl rfl (q_move) ?_
  refine AOps.snil (fun h1_1 => ?_) ?_
  · skip
    refine AOps.nil ?_
    refine AWp.cond_t rfl ?_
    refine AWp.seq ?_
    refine AWp.region ?_
    refine AOps.cons rfl rfl (q_nilrow 8 1 bc) ?_
    refine AOps.nil ?_
    refine AWp.ret ?_
    show Fin te Try.f21 _ _
    obtain rfl := List.eq_nil_of_length_eq_zero h1_1
    refine q_retH (0) [8] [_] [.sl 8 0 0 _ 1] [(8, .row (cl bc _) 1 0)] ?_
    rfl
  · skip
    refine AOps.nil ?_
    refine AWp.cond_f rfl ?_
    refine AWp.skip ?_
    refine AWp.seq ?_
    refine AWp.region ?_
    refine AOps.cons rfl rfl (q_bs 8 bc [] []) ?_
    refine AOps.cons rfl rfl (q_move) ?_
    refine AOps.cons rfl rfl (q_app) ?_
    refine AOps.cons rfl rfl (q_assign) ?_
    refine AOps.nil ?_
    refine AWp.ret ?_
    show Fin te Try.f21 _ _
    refine q_retH (0) [8] [_] [.sl 8 0 0 _ 1] [(8, .row (cl bc _) 1 0)] ?_
    rfl

set_option maxRecDepth 20000 in
theorem c_ciceroneref03_First (b : List UInt8) (lv : Nat) (h : b.length ≤ 140737488351232) : AC Try.prog 72 [.fz lv b.length (cl bc b)] emp (Ret (.tup [str (cutM b), .fz lv (cutR b).length (cl bc (cutR b)), tf (cutO b)])) := by
  refine AC.intro te_ok (fn := Try.f72) ⟨Try.func72, rfl, rfl⟩ (Nat.le_of_ble_eq_true rfl) ?_
  refine AWp.seq ?_
  refine AWp.region ?_
  refine AOps.cons rfl rfl (q_assign) ?_
  refine AOps.cons rfl rfl (q_nilz (lv) bc) ?_
  refine AOps.cons rfl rfl (q_assign) ?_
  refine AOps.nil ?_
  refine AWp.seq ?_
  refine AWp.seq ?_
  refine AWp.region ?_
  refine AOps.cons rfl rfl (q_assign) ?_
  refine AOps.nil ?_
  refine AWp.block ?_
  refine AWp.loopR (α := Nat) [2, 3, 4, 5, 6, 7, 8, 9, 10, 11, 12, 13, 14, 15, 16, 17, 18, 19, 20, 21, 22, 23, 24, 25, 26, 27] (fun k => [(5, i64 k)]) (fun k => []) (fun k => 1 ≤ k ∧ k ≤ 256 ∧ ∀ j, 1 ≤ j → j < k → canN (b.take j) = false) (fun k => 256 - k) 1 ?_ (Back.mk' (HasT.cons HasT.nil) HasH.nil) ?_
  · exact ⟨by omega, by omega, fun j h1 h2 => by omega⟩
  · rintro k ⟨hk1, hk2, hk⟩
    refine AWp.seq ?_
    refine AWp.seq ?_
    refine AWp.region ?_
    refine AOps.cons rfl rfl (q_move) ?_
    refine AOps.cons rfl rfl (q_move) ?_
    refine AOps.cons rfl rfl (q_len) ?_
    refine AOps.dec rfl rfl (q_leq) (fun h2_3 => ?_) (fun h2_3 => ?_)
    · skip
      refine AOps.cons rfl rfl (q_move) ?_
      refine AOps.gcons rfl rfl rfl rfl rfl (q_move) ?_
      refine AOps.gdec rfl rfl rfl rfl rfl (q_leq) (fun h2_6 => ?_) (fun h2_6 => ?_)
      · skip
        refine AOps.cons rfl rfl (q_pick) ?_
        refine AOps.nil ?_
        refine AWp.cond_t rfl ?_
        refine AWp.skip ?_
        refine AWp.seq ?_
        refine AWp.block ?_
        refine AWp.seq ?_
        refine AWp.region ?_
        refine AOps.cons rfl rfl (q_move) ?_
        refine AOps.cons rfl rfl (q_move) ?_
        refine AOps.cons rfl rfl (q_sl) ?_
        refine AOps.cons rfl rfl (by first | exact q_conv_zs | exact q_conv_ls) ?_
        refine AOps.bool rfl rfl (q_call (lv) (hc := c_ciceroneref01_Can _ (by first | assumption | omega | decide | (simp; omega) | (simp [*]; done)))) (fun h4_4 => ?_) (fun h4_4 => ?_)
        · skip
          refine AOps.nil ?_
          refine AWp.cond_t rfl ?_
          refine AWp.seq ?_
          refine AWp.draws [⟨0, [0], [], some 21, _, none⟩,
              ⟨1, [5], [], some 22, _, none⟩,
              ⟨2, [21, 22], [], some 23, _, none⟩,
              ⟨3, [23], [], some 24, _, none⟩,
              ⟨4, [0], [], some 25, _, none⟩,
              ⟨5, [5], [], some 26, _, none⟩,
              ⟨6, [25, 26], [], some 27, _, none⟩,
              ⟨7, [24], [], some 2, _, none⟩,
              ⟨8, [27], [], some 3, _, none⟩,
              ⟨9, [], [], some 4, _, none⟩]
            [⟨0, [0], [], some 21, .any, none⟩,
                ⟨1, [5], [], some 22, .any, none⟩,
                ⟨2, [21, 22], [], some 23, .any, none⟩,
                ⟨3, [23], [], some 24, .any, none⟩,
                ⟨4, [0], [], some 25, .any, none⟩,
                ⟨5, [5], [], some 26, .any, none⟩,
                ⟨6, [25, 26], [], some 27, .any, none⟩,
                ⟨7, [24], [], some 2, .any, none⟩,
                ⟨8, [27], [], some 3, .any, none⟩,
                ⟨9, [], [], some 4, .any, none⟩]
            mixed_ok rfl (by kernel_rfl) ⟨DS.ok_over fun s0 => OpAt.go rfl rfl (q_move),
                DS.ok_over fun s0 => OpAt.go rfl rfl (q_move),
                DS.ok_over fun s0 => OpAt.go rfl rfl (q_sl),
                DS.ok_over fun s0 => OpAt.go rfl rfl (by first | exact q_conv_zs | exact q_conv_ls),
                DS.ok_over fun s0 => OpAt.go rfl rfl (q_move),
                DS.ok_over fun s0 => OpAt.go rfl rfl (q_move),
                DS.ok_over fun s0 => OpAt.go rfl rfl (q_sl),
                DS.ok_over fun s0 => OpAt.go rfl rfl (q_assign),
                DS.ok_over fun s0 => OpAt.go rfl rfl (q_assign),
                DS.ok_over fun s0 => OpAt.go rfl rfl (q_assign), trivial⟩ ?_
          dsimp only [final, DS.upd, AS.seto]
          refine AWp.ret ?_
          show Fin te Try.f72 _ _
          refine q_ret (lv) [_, _, _] [_, _, _] ?_
          obtain ⟨q1, q2, q3⟩ := cut_at (b := b) (k := k) (by omega) h4_4
          rw [q1, q2, q3]; rfl
        · skip
          refine AOps.nil ?_
          refine AWp.cond_f rfl ?_
          refine AWp.skip ?_
          refine AWp.region ?_
          refine AOps.cons rfl rfl (q_move) ?_
          refine AOps.cons rfl rfl (q_add) ?_
          refine AOps.cons rfl rfl (q_assign) ?_
          refine AOps.nil ?_
          refine ⟨k + 1, ?_, Back.mk' (HasT.cons HasT.nil) HasH.nil, ?_⟩
          · refine ⟨by omega, by omega, fun j h1 h2 => ?_⟩
            by_cases e : j = k
            · subst e; exact h4_4
            · exact hk j h1 (by omega)
          · omega
      · skip
        refine AOps.cons rfl rfl (q_pick) ?_
        refine AOps.nil ?_
        refine AWp.cond_f rfl ?_
        refine AWp.exit ?_
        refine AWp.seq ?_
        refine AWp.region ?_
        refine AOps.cons rfl rfl (q_assign) ?_
        refine AOps.cons rfl rfl (q_nilz (lv) bc) ?_
        refine AOps.cons rfl rfl (q_assign) ?_
        refine AOps.nil ?_
        refine AWp.ret ?_
        show Fin te Try.f72 _ _
        refine q_ret (lv) [_, _, _] [_, _, _] ?_
        have ho := cut_none (b := b) (fun j h1 h2 h3 => hk j h1 (by omega))
        rw [(cut_no ho).1, (cut_no ho).2, ho]; rfl
    · skip
      refine AOps.cons rfl rfl (q_move) ?_
      refine AOps.gskip rfl rfl rfl rfl rfl rfl rfl rfl ?_
      refine AOps.gskip rfl rfl rfl rfl rfl rfl rfl rfl ?_
      refine AOps.cons rfl rfl (q_pick) ?_
      refine AOps.nil ?_
      refine AWp.cond_f rfl ?_
      refine AWp.exit ?_
      refine AWp.seq ?_
      refine AWp.region ?_
      refine AOps.cons rfl rfl (q_assign) ?_
      refine AOps.cons rfl rfl (q_nilz (lv) bc) ?_
      refine AOps.cons rfl rfl (q_assign) ?_
      refine AOps.nil ?_
      refine AWp.ret ?_
      show Fin te Try.f72 _ _
      refine q_ret (lv) [_, _, _] [_, _, _] ?_
      have ho := cut_none (b := b) (fun j h1 h2 h3 => hk j h1 (by omega))
      rw [(cut_no ho).1, (cut_no ho).2, ho]; rfl

set_option maxRecDepth 20000 in
theorem c_ciceroneref03_four (b : List UInt8) (lv : Nat) (h : b.length ≤ 140737488351232) (h4 : 4 ≤ b.length) : AC Try.prog 73 [.fz lv b.length (cl bc b)] emp (Ret (i64 (fourR b))) := by
  have f0 := (b.getD (Int.toNat 0) default).toNat_lt
  have g0 := (b[0]?.getD default).toNat_lt
  have f1 := (b.getD (Int.toNat 1) default).toNat_lt
  have g1 := (b[1]?.getD default).toNat_lt
  have f2 := (b.getD (Int.toNat 2) default).toNat_lt
  have g2 := (b[2]?.getD default).toNat_lt
  have f3 := (b.getD (Int.toNat 3) default).toNat_lt
  have g3 := (b[3]?.getD default).toNat_lt
  refine AC.intro te_ok (fn := Try.f73) ⟨Try.func73, rfl, rfl⟩ (Nat.le_of_ble_eq_true rfl) ?_
  refine AWp.seq ?_
  refine AWp.region ?_
  refine AOps.cons rfl rfl (q_assign) ?_
  refine AOps.nil ?_
  refine AWp.seq ?_
  refine AWp.draws [⟨0, [0], [], some 3, _, none⟩,
      ⟨1, [3], [], some 4, _, none⟩,
      ⟨2, [4], [], some 5, _, none⟩,
      ⟨3, [5], [], some 6, _, none⟩,
      ⟨4, [6], [], some 7, _, none⟩,
      ⟨5, [0], [], some 8, _, none⟩,
      ⟨6, [8], [], some 9, _, none⟩,
      ⟨7, [9], [], some 10, _, none⟩,
      ⟨8, [10], [], some 11, _, none⟩,
      ⟨9, [7, 11], [], some 12, _, none⟩,
      ⟨10, [12], [], some 13, _, none⟩,
      ⟨11, [0], [], some 14, _, none⟩,
      ⟨12, [14], [], some 15, _, none⟩,
      ⟨13, [15], [], some 16, _, none⟩,
      ⟨14, [16], [], some 17, _, none⟩,
      ⟨15, [13, 17], [], some 18, _, none⟩,
      ⟨16, [18], [], some 19, _, none⟩,
      ⟨17, [0], [], some 20, _, none⟩,
      ⟨18, [20], [], some 21, _, none⟩,
      ⟨19, [21], [], some 22, _, none⟩,
      ⟨20, [22], [], some 23, _, none⟩,
      ⟨21, [19, 23], [], some 24, _, none⟩,
      ⟨22, [24], [], some 2, _, none⟩]
    [⟨0, [0], [], some 3, .any, none⟩,
        ⟨1, [3], [], some 4, .any, none⟩,
        ⟨2, [4], [], some 5, .any, none⟩,
        ⟨3, [5], [], some 6, .any, none⟩,
        ⟨4, [6], [], some 7, .any, none⟩,
        ⟨5, [0], [], some 8, .any, none⟩,
        ⟨6, [8], [], some 9, .any, none⟩,
        ⟨7, [9], [], some 10, .any, none⟩,
        ⟨8, [10], [], some 11, .any, none⟩,
        ⟨9, [7, 11], [], some 12, .any, none⟩,
        ⟨10, [12], [], some 13, .any, none⟩,
        ⟨11, [0], [], some 14, .any, none⟩,
        ⟨12, [14], [], some 15, .any, none⟩,
        ⟨13, [15], [], some 16, .any, none⟩,
        ⟨14, [16], [], some 17, .any, none⟩,
        ⟨15, [13, 17], [], some 18, .any, none⟩,
        ⟨16, [18], [], some 19, .any, none⟩,
        ⟨17, [0], [], some 20, .any, none⟩,
        ⟨18, [20], [], some 21, .any, none⟩,
        ⟨19, [21], [], some 22, .any, none⟩,
        ⟨20, [22], [], some 23, .any, none⟩,
        ⟨21, [19, 23], [], some 24, .any, none⟩,
        ⟨22, [24], [], some 2, .any, none⟩]
    mixed_ok rfl (by kernel_rfl) ⟨DS.ok_over fun s0 => OpAt.go rfl rfl (q_move),
        DS.ok_over fun s0 => OpAt.go rfl rfl (q_ix),
        DS.ok_over fun s0 => OpAt.go rfl rfl (q_load),
        DS.ok_over fun s0 => OpAt.go rfl rfl (q_conv_8i),
        DS.ok_over fun s0 => OpAt.go rfl rfl (q_mul),
        DS.ok_over fun s0 => OpAt.go rfl rfl (q_move),
        DS.ok_over fun s0 => OpAt.go rfl rfl (q_ix),
        DS.ok_over fun s0 => OpAt.go rfl rfl (q_load),
        DS.ok_over fun s0 => OpAt.go rfl rfl (q_conv_8i),
        DS.ok_over fun s0 => OpAt.go rfl rfl (q_add),
        DS.ok_over fun s0 => OpAt.go rfl rfl (q_mul),
        DS.ok_over fun s0 => OpAt.go rfl rfl (q_move),
        DS.ok_over fun s0 => OpAt.go rfl rfl (q_ix),
        DS.ok_over fun s0 => OpAt.go rfl rfl (q_load),
        DS.ok_over fun s0 => OpAt.go rfl rfl (q_conv_8i),
        DS.ok_over fun s0 => OpAt.go rfl rfl (q_add),
        DS.ok_over fun s0 => OpAt.go rfl rfl (q_mul),
        DS.ok_over fun s0 => OpAt.go rfl rfl (q_move),
        DS.ok_over fun s0 => OpAt.go rfl rfl (q_ix),
        DS.ok_over fun s0 => OpAt.go rfl rfl (q_load),
        DS.ok_over fun s0 => OpAt.go rfl rfl (q_conv_8i),
        DS.ok_over fun s0 => OpAt.go rfl rfl (q_add),
        DS.ok_over fun s0 => OpAt.go rfl rfl (q_assign), trivial⟩ ?_
  dsimp only [final, DS.upd, AS.seto]
  refine AWp.ret ?_
  show Fin te Try.f73 _ _
  refine q_ret (0) [_] [_] ?_
  rfl

set_option maxRecDepth 20000 in
theorem c_ciceroneref03_SOA (b : List UInt8) (lv : Nat) (h : b.length ≤ 140737488351232) : AC Try.prog 65 [.fz lv b.length (cl bc b)] emp (Ret (.tup [soaA (soaV b), tf (soaO b)])) := by
  have hc1 := cut_len b
  have hc2 := cut_len (cutR b)
  refine AC.intro te_ok (fn := Try.f65) ⟨Try.func65, rfl, rfl⟩ (Nat.le_of_ble_eq_true rfl) ?_
  refine AWp.seq ?_
  refine AWp.region ?_
  refine AOps.cons rfl rfl (q_alloc 100) ?_
  refine AOps.cons rfl rfl (q_assign) ?_
  refine AOps.nil ?_
  refine AWp.seq ?_
  refine AWp.region ?_
  refine AOps.cons rfl rfl (q_move) ?_
  refine AOps.cons rfl rfl (q_call (lv) (hc := c_ciceroneref03_First _ _ (by first | assumption | omega | decide | (simp; omega) | (simp [*]; done)))) ?_
  refine AOps.cons rfl rfl (q_move) ?_
  refine AOps.cons rfl rfl (q_extract) ?_
  refine AOps.cons rfl rfl (q_extract) ?_
  refine AOps.bool rfl rfl (q_extract) (fun h1_5 => ?_) (fun h1_5 => ?_)
  · skip
    refine AOps.cons rfl rfl (q_assign) ?_
    refine AOps.cons rfl rfl (q_assign) ?_
    refine AOps.cons rfl rfl (q_assign) ?_
    refine AOps.nil ?_
    refine AWp.seq ?_
    refine AWp.seq ?_
    refine AWp.region ?_
    refine AOps.cons rfl rfl (q_move) ?_
    refine AOps.cons rfl rfl (q_not) ?_
    refine AOps.nil ?_
    refine AWp.cond_f rfl ?_
    refine AWp.skip ?_
    refine AWp.seq ?_
    refine AWp.region ?_
    refine AOps.cons rfl rfl (q_move) ?_
    refine AOps.cons rfl rfl (q_call (lv) (hc := c_ciceroneref03_First _ _ (by first | assumption | omega | decide | (simp; omega) | (simp [*]; done)))) ?_
    refine AOps.cons rfl rfl (q_move) ?_
    refine AOps.cons rfl rfl (q_extract) ?_
    refine AOps.cons rfl rfl (q_extract) ?_
    refine AOps.bool rfl rfl (q_extract) (fun h4_5 => ?_) (fun h4_5 => ?_)
    · skip
      refine AOps.cons rfl rfl (q_assign) ?_
      refine AOps.cons rfl rfl (q_assign) ?_
      refine AOps.cons rfl rfl (q_assign) ?_
      refine AOps.nil ?_
      refine AWp.seq ?_
      refine AWp.seq ?_
      refine AWp.region ?_
      refine AOps.cons rfl rfl (q_move) ?_
      refine AOps.cons rfl rfl (q_not) ?_
      refine AOps.cons rfl rfl (q_move) ?_
      refine AOps.gcons rfl rfl rfl rfl rfl (q_move) ?_
      refine AOps.gcons rfl rfl rfl rfl rfl (q_len) ?_
      refine AOps.gdec rfl rfl rfl rfl rfl (q_neq) (fun h5_5 => ?_) (fun h5_5 => ?_)
      · skip
        refine AOps.cons rfl rfl (q_pick) ?_
        refine AOps.nil ?_
        refine AWp.cond_t rfl ?_
        refine AWp.seq ?_
        refine AWp.region ?_
        refine AOps.cons rfl rfl (q_build []) ?_
        refine AOps.cons rfl rfl (q_store) ?_
        refine AOps.cons rfl rfl (q_assign) ?_
        refine AOps.nil ?_
        refine AWp.ret ?_
        show Fin te Try.f65 _ _
        refine q_ret (0) [_, _] [_, _] ?_
        have ho : soaO b = false := by rw [soaO, decide_eq_false (by omega), Bool.and_false, Bool.and_false]
        rw [soaV_no ho, ho]; rfl
      · skip
        refine AOps.cons rfl rfl (q_pick) ?_
        refine AOps.nil ?_
        refine AWp.cond_f rfl ?_
        refine AWp.skip ?_
        refine AWp.seq ?_
        have hc20 : (cutR (cutR b)).length = 20 := by omega
        have ho : soaO b = true := by rw [soaO, h1_5, h4_5, decide_eq_true (by omega)]; rfl
        have hv : soaV b = ⟨cutM b, cutM (cutR b), wd (cutR (cutR b)) 0 5, wd (cutR (cutR b)) 1 5, wd (cutR (cutR b)) 2 5, wd (cutR (cutR b)) 3 5, wd (cutR (cutR b)) 4 5⟩ := by rw [soaV, if_pos ho]
        have e0 : fourR (cutR (cutR b)) = wd (cutR (cutR b)) 0 5 := fourR_drop (j := 0) hc20 (by omega)
        have e1 : fourR ((cutR (cutR b)).drop (Int.toNat 4)) = wd (cutR (cutR b)) 1 5 := fourR_drop (j := 1) hc20 (by omega)
        have e2 : fourR ((cutR (cutR b)).drop (Int.toNat 8)) = wd (cutR (cutR b)) 2 5 := fourR_drop (j := 2) hc20 (by omega)
        have e3 : fourR ((cutR (cutR b)).drop (Int.toNat 12)) = wd (cutR (cutR b)) 3 5 := fourR_drop (j := 3) hc20 (by omega)
        have e4 : fourR ((cutR (cutR b)).drop (Int.toNat 16)) = wd (cutR (cutR b)) 4 5 := fourR_drop (j := 4) hc20 (by omega)
        refine AWp.draws [⟨0, [4], [], some 31, _, none⟩,
            ⟨1, [7], [], some 32, _, none⟩,
            ⟨2, [5], [], some 33, _, none⟩,
            ⟨3, [33], [], some 34, _, none⟩,
            ⟨4, [5], [], some 35, _, none⟩,
            ⟨5, [35], [], some 36, _, none⟩,
            ⟨6, [36], [], some 37, _, none⟩,
            ⟨7, [5], [], some 38, _, none⟩,
            ⟨8, [38], [], some 39, _, none⟩,
            ⟨9, [39], [], some 40, _, none⟩,
            ⟨10, [5], [], some 41, _, none⟩,
            ⟨11, [41], [], some 42, _, none⟩,
            ⟨12, [42], [], some 43, _, none⟩,
            ⟨13, [5], [], some 44, _, none⟩,
            ⟨14, [44], [], some 45, _, none⟩,
            ⟨15, [45], [], some 46, _, none⟩,
            ⟨16, [31, 32, 34, 37, 40, 43, 46], [], some 47, _, none⟩,
            ⟨17, [2, 47], [100], none, _, some (100, _)⟩,
            ⟨18, [], [], some 3, _, none⟩]
          [⟨0, [4], [], some 31, .any, none⟩,
              ⟨1, [7], [], some 32, .any, none⟩,
              ⟨2, [5], [], some 33, .any, none⟩,
              ⟨3, [33], [], some 34, .any, none⟩,
              ⟨4, [5], [], some 35, .any, none⟩,
              ⟨5, [35], [], some 36, .any, none⟩,
              ⟨6, [36], [], some 37, .any, none⟩,
              ⟨7, [5], [], some 38, .any, none⟩,
              ⟨8, [38], [], some 39, .any, none⟩,
              ⟨9, [39], [], some 40, .any, none⟩,
              ⟨10, [5], [], some 41, .any, none⟩,
              ⟨11, [41], [], some 42, .any, none⟩,
              ⟨12, [42], [], some 43, .any, none⟩,
              ⟨13, [5], [], some 44, .any, none⟩,
              ⟨14, [44], [], some 45, .any, none⟩,
              ⟨15, [45], [], some 46, .any, none⟩,
              ⟨16, [31, 32, 34, 37, 40, 43, 46], [], some 47, .any, none⟩,
              ⟨17, [2, 47], [100], none, .any, some (100, .box [])⟩,
              ⟨18, [], [], some 3, .any, none⟩]
          mixed_ok rfl (by kernel_rfl) ⟨DS.ok_over fun s0 => OpAt.go rfl rfl (q_move),
              DS.ok_over fun s0 => OpAt.go rfl rfl (q_move),
              DS.ok_over fun s0 => OpAt.go rfl rfl (q_move),
              DS.ok_over fun s0 => OpAt.go rfl rfl (q_call (lv) (hc := c_ciceroneref03_four _ _ (by first | assumption | omega | decide | (simp; omega) | (simp [*]; done)) (by first | assumption | omega | decide | (simp; omega) | (simp [*]; done)))),
              DS.ok_over fun s0 => OpAt.go rfl rfl (q_move),
              DS.ok_over fun s0 => OpAt.go rfl rfl (q_sl),
              DS.ok_over fun s0 => OpAt.go rfl rfl (q_call (lv) (hc := c_ciceroneref03_four _ _ (by first | assumption | omega | decide | (simp; omega) | (simp [*]; done)) (by first | assumption | omega | decide | (simp; omega) | (simp [*]; done)))),
              DS.ok_over fun s0 => OpAt.go rfl rfl (q_move),
              DS.ok_over fun s0 => OpAt.go rfl rfl (q_sl),
              DS.ok_over fun s0 => OpAt.go rfl rfl (q_call (lv) (hc := c_ciceroneref03_four _ _ (by first | assumption | omega | decide | (simp; omega) | (simp [*]; done)) (by first | assumption | omega | decide | (simp; omega) | (simp [*]; done)))),
              DS.ok_over fun s0 => OpAt.go rfl rfl (q_move),
              DS.ok_over fun s0 => OpAt.go rfl rfl (q_sl),
              DS.ok_over fun s0 => OpAt.go rfl rfl (q_call (lv) (hc := c_ciceroneref03_four _ _ (by first | assumption | omega | decide | (simp; omega) | (simp [*]; done)) (by first | assumption | omega | decide | (simp; omega) | (simp [*]; done)))),
              DS.ok_over fun s0 => OpAt.go rfl rfl (q_move),
              DS.ok_over fun s0 => OpAt.go rfl rfl (q_sl),
              DS.ok_over fun s0 => OpAt.go rfl rfl (q_call (lv) (hc := c_ciceroneref03_four _ _ (by first | assumption | omega | decide | (simp; omega) | (simp [*]; done)) (by first | assumption | omega | decide | (simp; omega) | (simp [*]; done)))),
              DS.ok_over fun s0 => OpAt.go rfl rfl (q_build [(_, _), (_, _), (_, _), (_, _), (_, _), (_, _), (_, _)]),
              DS.ok_over fun s0 => OpAt.go rfl rfl (q_store),
              DS.ok_over fun s0 => OpAt.go rfl rfl (q_assign), trivial⟩ ?_
        dsimp only [final, DS.upd, AS.seto]
        refine AWp.ret ?_
        show Fin te Try.f65 _ _
        refine q_ret (0) [_, _] [_, _] ?_
        rw [e0, e1, e2, e3, e4, hv, ho]; rfl
    · skip
      refine AOps.cons rfl rfl (q_assign) ?_
      refine AOps.cons rfl rfl (q_assign) ?_
      refine AOps.cons rfl rfl (q_assign) ?_
      refine AOps.nil ?_
      refine AWp.seq ?_
      refine AWp.seq ?_
      refine AWp.region ?_
      refine AOps.cons rfl rfl (q_move) ?_
      refine AOps.cons rfl rfl (q_not) ?_
      refine AOps.cons rfl rfl (q_move) ?_
      refine AOps.gskip rfl rfl rfl rfl rfl rfl rfl rfl ?_
      refine AOps.gskip rfl rfl rfl rfl rfl rfl rfl rfl ?_
      refine AOps.gskip rfl rfl rfl rfl rfl rfl rfl rfl ?_
      refine AOps.cons rfl rfl (q_pick) ?_
      refine AOps.nil ?_
      refine AWp.cond_t rfl ?_
      refine AWp.seq ?_
      refine AWp.region ?_
      refine AOps.cons rfl rfl (q_build []) ?_
      refine AOps.cons rfl rfl (q_store) ?_
      refine AOps.cons rfl rfl (q_assign) ?_
      refine AOps.nil ?_
      refine AWp.ret ?_
      show Fin te Try.f65 _ _
      refine q_ret (0) [_, _] [_, _] ?_
      have ho : soaO b = false := by rw [soaO, h4_5, Bool.false_and, Bool.and_false]
      rw [soaV_no ho, ho]; rfl
  · skip
    refine AOps.cons rfl rfl (q_assign) ?_
    refine AOps.cons rfl rfl (q_assign) ?_
    refine AOps.cons rfl rfl (q_assign) ?_
    refine AOps.nil ?_
    refine AWp.seq ?_
    refine AWp.seq ?_
    refine AWp.region ?_
    refine AOps.cons rfl rfl (q_move) ?_
    refine AOps.cons rfl rfl (q_not) ?_
    refine AOps.nil ?_
    refine AWp.cond_t rfl ?_
    refine AWp.seq ?_
    refine AWp.region ?_
    refine AOps.cons rfl rfl (q_build []) ?_
    refine AOps.cons rfl rfl (q_store) ?_
    refine AOps.cons rfl rfl (q_assign) ?_
    refine AOps.nil ?_
    refine AWp.ret ?_
    show Fin te Try.f65 _ _
    refine q_ret (0) [_, _] [_, _] ?_
    have ho : soaO b = false := by rw [soaO, h1_5]; rfl
    rw [soaV_no ho, ho]; rfl

set_option maxRecDepth 20000 in
theorem c_ciceroneref03_texts (b : List UInt8) (lv : Nat) (h : b.length ≤ 140737488351232) : AC Try.prog 66 [.fz lv b.length (cl bc b)] emp (Ret (tf (txtR b))) := by
  refine AC.intro te_ok (fn := Try.f66) ⟨Try.func66, rfl, rfl⟩ (Nat.le_of_ble_eq_true rfl) ?_
  refine AWp.seq ?_
  refine AWp.region ?_
  refine AOps.cons rfl rfl (q_assign) ?_
  refine AOps.nil ?_
  refine AWp.seq ?_
  refine AWp.seq ?_
  refine AWp.region ?_
  refine AOps.cons rfl rfl (q_move) ?_
  refine AOps.cons rfl rfl (q_len) ?_
  refine AOps.dec rfl rfl (q_eql) (fun h1_2 => ?_) (fun h1_2 => ?_)
  · skip
    refine AOps.nil ?_
    refine AWp.cond_t rfl ?_
    refine AWp.seq ?_
    refine AWp.region ?_
    refine AOps.cons rfl rfl (q_assign) ?_
    refine AOps.nil ?_
    refine AWp.ret ?_
    show Fin te Try.f66 _ _
    refine q_ret (0) [_] [_] ?_
    rw [txtR, decide_eq_false (by omega)]; rfl
  · skip
    refine AOps.nil ?_
    refine AWp.cond_f rfl ?_
    refine AWp.skip ?_
    refine AWp.seq ?_
    refine AWp.block ?_
    refine AWp.loopR (α := List UInt8) [0, 2, 3, 7, 8, 9, 10, 11, 12, 13, 14, 15, 16, 17, 18, 19, 20, 21, 22] (fun c => [(0, .fz lv c.length (cl bc c))]) (fun c => []) (fun c => txtW c = txtW b ∧ c.length ≤ b.length) (fun c => c.length) b ?_ (Back.mk' (HasT.cons HasT.nil) HasH.nil) ?_
    · exact ⟨rfl, Nat.le_refl _⟩
    · rintro c ⟨hc, hl⟩
      refine AWp.seq ?_
      refine AWp.seq ?_
      refine AWp.region ?_
      refine AOps.cons rfl rfl (q_move) ?_
      refine AOps.cons rfl rfl (q_len) ?_
      refine AOps.dec rfl rfl (q_gtr) (fun h3_2 => ?_) (fun h3_2 => ?_)
      · skip
        refine AOps.nil ?_
        refine AWp.cond_t rfl ?_
        refine AWp.skip ?_
        refine AWp.block ?_
        refine AWp.seq ?_
        refine AWp.region ?_
        have hk := (c.getD 0 default).toNat_lt
        have he : (c.getD (Int.toNat 0) default).toNat = (c.getD 0 default).toNat := rfl
        have hs : (c[0]?.getD default).toNat = (c.getD 0 default).toNat := congrArg UInt8.toNat (List.getD_eq_getElem?_getD).symm
        refine AOps.cons rfl rfl (q_move) ?_
        refine AOps.cons rfl rfl (q_ix) ?_
        refine AOps.cons rfl rfl (q_load) ?_
        refine AOps.cons rfl rfl (q_conv_8i) ?_
        refine AOps.cons rfl rfl (q_assign) ?_
        refine AOps.nil ?_
        refine AWp.seq ?_
        refine AWp.seq ?_
        refine AWp.region ?_
        refine AOps.cons rfl rfl (q_move) ?_
        refine AOps.cons rfl rfl (q_len) ?_
        refine AOps.cons rfl rfl (q_move) ?_
        refine AOps.cons rfl rfl (q_add) ?_
        refine AOps.dec rfl rfl (q_lss) (fun h5_4 => ?_) (fun h5_4 => ?_)
        · skip
          refine AOps.nil ?_
          refine AWp.cond_t rfl ?_
          refine AWp.seq ?_
          refine AWp.region ?_
          refine AOps.cons rfl rfl (q_assign) ?_
          refine AOps.nil ?_
          refine AWp.ret ?_
          show Fin te Try.f66 _ _
          refine q_ret (0) [_] [_] ?_
          rw [txtR, ← hc, txtW_no (by omega) (by omega), Bool.and_false]; rfl
        · skip
          refine AOps.nil ?_
          refine AWp.cond_f rfl ?_
          refine AWp.skip ?_
          refine AWp.region ?_
          refine AOps.cons rfl rfl (q_move) ?_
          refine AOps.cons rfl rfl (q_move) ?_
          refine AOps.cons rfl rfl (q_add) ?_
          refine AOps.cons rfl rfl (q_sl) ?_
          refine AOps.cons rfl rfl (q_assign) ?_
          refine AOps.nil ?_
          have e1 : ((1 : Int) + ((c.getD (Int.toNat 0) default).toNat : Int)).toNat = 1 + (c.getD 0 default).toNat := by omega
          refine ⟨_, ?_, Back.mk' (HasT.cons HasT.nil) HasH.nil, ?_⟩
          · rw [e1]; exact ⟨(txtW_step (by omega) (by omega)).symm.trans hc, by rw [List.length_drop]; omega⟩
          · rw [e1, List.length_drop]; omega
      · skip
        refine AOps.nil ?_
        refine AWp.cond_f rfl ?_
        refine AWp.exit ?_
        refine AWp.seq ?_
        refine AWp.region ?_
        refine AOps.cons rfl rfl (q_assign) ?_
        refine AOps.nil ?_
        refine AWp.ret ?_
        show Fin te Try.f66 _ _
        refine q_ret (0) [_] [_] ?_
        rw [txtR, ← hc, txtW_end (by omega), Bool.and_true, decide_eq_true (by omega)]; rfl

set_option maxRecDepth 20000 in
theorem c_ciceroneref03_options (b : List UInt8) (lv : Nat) (h : b.length ≤ 140737488351232) : AC Try.prog 67 [.fz lv b.length (cl bc b)] emp (Ret (tf (optR b))) := by
  refine AC.intro te_ok (fn := Try.f67) ⟨Try.func67, rfl, rfl⟩ (Nat.le_of_ble_eq_true rfl) ?_
  refine AWp.seq ?_
  refine AWp.region ?_
  refine AOps.cons rfl rfl (q_assign) ?_
  refine AOps.nil ?_
  refine AWp.seq ?_
  refine AWp.block ?_
  refine AWp.loopR (α := List UInt8) [0, 2, 3, 4, 5, 6, 7, 8, 9, 10, 11, 12, 13, 14, 15, 16, 17, 18, 19, 20, 21, 22, 23, 24, 25, 26, 27, 28] (fun c => [(0, .fz lv c.length (cl bc c))]) (fun c => []) (fun c => optR c = optR b ∧ c.length ≤ b.length) (fun c => c.length) b ?_ (Back.mk' (HasT.cons HasT.nil) HasH.nil) ?_
  · exact ⟨rfl, Nat.le_refl _⟩
  · rintro c ⟨hc, hl⟩
    refine AWp.seq ?_
    refine AWp.seq ?_
    refine AWp.region ?_
    refine AOps.cons rfl rfl (q_move) ?_
    refine AOps.cons rfl rfl (q_len) ?_
    refine AOps.dec rfl rfl (q_gtr) (fun h1_2 => ?_) (fun h1_2 => ?_)
    · skip
      refine AOps.nil ?_
      refine AWp.cond_t rfl ?_
      refine AWp.skip ?_
      refine AWp.block ?_
      refine AWp.seq ?_
      refine AWp.seq ?_
      refine AWp.region ?_
      refine AOps.cons rfl rfl (q_move) ?_
      refine AOps.cons rfl rfl (q_len) ?_
      refine AOps.dec rfl rfl (q_lss) (fun h2_2 => ?_) (fun h2_2 => ?_)
      · skip
        refine AOps.nil ?_
        refine AWp.cond_t rfl ?_
        refine AWp.seq ?_
        refine AWp.region ?_
        refine AOps.cons rfl rfl (q_assign) ?_
        refine AOps.nil ?_
        refine AWp.ret ?_
        show Fin te Try.f67 _ _
        refine q_ret (0) [_] [_] ?_
        rw [← hc, optR_no (by omega) (by omega)]; rfl
      · skip
        refine AOps.nil ?_
        refine AWp.cond_f rfl ?_
        refine AWp.skip ?_
        refine AWp.seq ?_
        have hk2 := (c.getD 2 default).toNat_lt
        have hk3 := (c.getD 3 default).toNat_lt
        have he2 : (c.getD (Int.toNat 2) default).toNat = (c.getD 2 default).toNat := rfl
        have he3 : (c.getD (Int.toNat 3) default).toNat = (c.getD 3 default).toNat := rfl
        have hs2 : (c[2]?.getD default).toNat = (c.getD 2 default).toNat := congrArg UInt8.toNat (List.getD_eq_getElem?_getD).symm
        have hs3 : (c[3]?.getD default).toNat = (c.getD 3 default).toNat := congrArg UInt8.toNat (List.getD_eq_getElem?_getD).symm
        refine AWp.draws [⟨0, [0], [], some 10, _, none⟩,
            ⟨1, [10], [], some 11, _, none⟩,
            ⟨2, [11], [], some 12, _, none⟩,
            ⟨3, [12], [], some 13, _, none⟩,
            ⟨4, [13], [], some 14, _, none⟩,
            ⟨5, [0], [], some 15, _, none⟩,
            ⟨6, [15], [], some 16, _, none⟩,
            ⟨7, [16], [], some 17, _, none⟩,
            ⟨8, [17], [], some 18, _, none⟩,
            ⟨9, [14, 18], [], some 19, _, none⟩,
            ⟨10, [19], [], some 3, _, none⟩]
          [⟨0, [0], [], some 10, .any, none⟩,
              ⟨1, [10], [], some 11, .any, none⟩,
              ⟨2, [11], [], some 12, .any, none⟩,
              ⟨3, [12], [], some 13, .any, none⟩,
              ⟨4, [13], [], some 14, .any, none⟩,
              ⟨5, [0], [], some 15, .any, none⟩,
              ⟨6, [15], [], some 16, .any, none⟩,
              ⟨7, [16], [], some 17, .any, none⟩,
              ⟨8, [17], [], some 18, .any, none⟩,
              ⟨9, [14, 18], [], some 19, .any, none⟩,
              ⟨10, [19], [], some 3, .any, none⟩]
          mixed_ok rfl (by kernel_rfl) ⟨DS.ok_over fun s0 => OpAt.go rfl rfl (q_move),
              DS.ok_over fun s0 => OpAt.go rfl rfl (q_ix),
              DS.ok_over fun s0 => OpAt.go rfl rfl (q_load),
              DS.ok_over fun s0 => OpAt.go rfl rfl (q_conv_8i),
              DS.ok_over fun s0 => OpAt.go rfl rfl (q_mul),
              DS.ok_over fun s0 => OpAt.go rfl rfl (q_move),
              DS.ok_over fun s0 => OpAt.go rfl rfl (q_ix),
              DS.ok_over fun s0 => OpAt.go rfl rfl (q_load),
              DS.ok_over fun s0 => OpAt.go rfl rfl (q_conv_8i),
              DS.ok_over fun s0 => OpAt.go rfl rfl (q_add),
              DS.ok_over fun s0 => OpAt.go rfl rfl (q_assign), trivial⟩ ?_
        dsimp only [final, DS.upd, AS.seto]
        refine AWp.seq ?_
        refine AWp.seq ?_
        refine AWp.region ?_
        refine AOps.cons rfl rfl (q_move) ?_
        refine AOps.cons rfl rfl (q_len) ?_
        refine AOps.cons rfl rfl (q_move) ?_
        refine AOps.cons rfl rfl (q_add) ?_
        refine AOps.dec rfl rfl (q_lss) (fun h5_4 => ?_) (fun h5_4 => ?_)
        · skip
          refine AOps.nil ?_
          refine AWp.cond_t rfl ?_
          refine AWp.seq ?_
          refine AWp.region ?_
          refine AOps.cons rfl rfl (q_assign) ?_
          refine AOps.nil ?_
          refine AWp.ret ?_
          show Fin te Try.f67 _ _
          refine q_ret (0) [_] [_] ?_
          rw [← hc, optR_no (by omega) (Or.inr (by unfold optK; omega))]; rfl
        · skip
          refine AOps.nil ?_
          refine AWp.cond_f rfl ?_
          refine AWp.skip ?_
          refine AWp.region ?_
          refine AOps.cons rfl rfl (q_move) ?_
          refine AOps.cons rfl rfl (q_move) ?_
          refine AOps.cons rfl rfl (q_add) ?_
          refine AOps.cons rfl rfl (q_sl) ?_
          refine AOps.cons rfl rfl (q_assign) ?_
          refine AOps.nil ?_
          have e1 : (4 + (((c.getD (Int.toNat 2) default).toNat : Int) * 256 + ((c.getD (Int.toNat 3) default).toNat : Int))).toNat = optK c := by unfold optK; omega
          refine ⟨_, ?_, Back.mk' (HasT.cons HasT.nil) HasH.nil, ?_⟩
          · rw [e1]; exact ⟨(optR_step (by omega) (by omega) (by unfold optK; omega)).symm.trans hc, by rw [List.length_drop]; omega⟩
          · rw [e1, List.length_drop]; unfold optK; omega
    · skip
      refine AOps.nil ?_
      refine AWp.cond_f rfl ?_
      refine AWp.exit ?_
      refine AWp.seq ?_
      refine AWp.region ?_
      refine AOps.cons rfl rfl (q_assign) ?_
      refine AOps.nil ?_
      refine AWp.ret ?_
      show Fin te Try.f67 _ _
      refine q_ret (0) [_] [_] ?_
      rw [← hc, optR_end (by omega)]; rfl

set_option maxRecDepth 20000 in
theorem c_Can6 (b : List UInt8) (lv : Nat) (h : b.length ≤ 140737488351232) : AC Try.prog 38 [i64 6, .fz lv b.length (cl bc b)] emp (Ret (tf (canS 6 b))) := by
  refine AC.intro te_ok (fn := Try.f38) ⟨Try.func38, rfl, rfl⟩ (Nat.le_of_ble_eq_true rfl) ?_
  refine AWp.seq ?_
  refine AWp.region ?_
  refine AOps.cons rfl rfl (q_assign) ?_
  refine AOps.nil ?_
  refine AWp.seq ?_
  refine AWp.seq ?_
  refine AWp.region ?_
  refine AOps.cons rfl rfl (q_move) ?_
  refine AOps.dec rfl rfl (q_lss) (fun h1_1 => ?_) (fun h1_1 => ?_)
  · exfalso; omega
  · skip
    refine AOps.cons rfl rfl (q_move) ?_
    refine AOps.gcons rfl rfl rfl rfl rfl (q_move) ?_
    refine AOps.gdec rfl rfl rfl rfl rfl (q_gtr) (fun h1_4 => ?_) (fun h1_4 => ?_)
    · exfalso; omega
    · skip
      refine AOps.cons rfl rfl (q_pick) ?_
      refine AOps.cons rfl rfl (q_move) ?_
      refine AOps.gcons rfl rfl rfl rfl rfl (q_move) ?_
      refine AOps.gcons rfl rfl rfl rfl rfl (q_len) ?_
      refine AOps.gdec rfl rfl rfl rfl rfl (q_gtr) (fun h1_9 => ?_) (fun h1_9 => ?_)
      · skip
        refine AOps.cons rfl rfl (q_pick) ?_
        refine AOps.nil ?_
        refine AWp.cond_t rfl ?_
        refine AWp.seq ?_
        refine AWp.region ?_
        refine AOps.cons rfl rfl (q_assign) ?_
        refine AOps.nil ?_
        refine AWp.ret ?_
        show Fin te Try.f38 _ _
        refine q_ret (0) [_] [_] ?_
        rw [canS_6n (by omega)]; rfl
      · skip
        refine AOps.cons rfl rfl (q_pick) ?_
        refine AOps.nil ?_
        refine AWp.cond_f rfl ?_
        refine AWp.skip ?_
        refine AWp.seq ?_
        refine AWp.seq ?_
        refine AWp.region ?_
        refine AOps.cons rfl rfl (q_move) ?_
        refine AOps.nil ?_
        refine AWp.block ?_
        refine AWp.seq ?_
        refine AWp.region ?_
        refine AOps.dec rfl rfl (q_eql) (fun h4_0 => ?_) (fun h4_0 => ?_)
        · exfalso; omega
        · skip
          refine AOps.cons rfl rfl (q_assign) ?_
          refine AOps.nil ?_
          refine AWp.cond_f rfl ?_
          refine AWp.seq ?_
          refine AWp.region ?_
          refine AOps.dec rfl rfl (q_eql) (fun h6_0 => ?_) (fun h6_0 => ?_)
          · exfalso; omega
          · skip
            refine AOps.cons rfl rfl (q_assign) ?_
            refine AOps.nil ?_
            refine AWp.cond_f rfl ?_
            refine AWp.seq ?_
            refine AWp.seq ?_
            refine AWp.region ?_
            refine AOps.dec rfl rfl (q_eql) (fun h8_0 => ?_) (fun h8_0 => ?_)
            · exfalso; omega
            · skip
              refine AOps.cons rfl rfl (q_assign) ?_
              refine AOps.nil ?_
              refine AWp.cond_f rfl ?_
              refine AWp.seq ?_
              refine AWp.region ?_
              refine AOps.dec rfl rfl (q_eql) (fun h9_0 => ?_) (fun h9_0 => ?_)
              · exfalso; omega
              · skip
                refine AOps.cons rfl rfl (q_assign) ?_
                refine AOps.nil ?_
                refine AWp.cond_f rfl ?_
                refine AWp.region ?_
                refine AOps.dec rfl rfl (q_eql) (fun h10_0 => ?_) (fun h10_0 => ?_)
                · exfalso; omega
                · skip
                  refine AOps.cons rfl rfl (q_assign) ?_
                  refine AOps.nil ?_
                  refine AWp.cond_f rfl ?_
                  refine AWp.seq ?_
                  refine AWp.region ?_
                  refine AOps.dec rfl rfl (q_eql) (fun h12_0 => ?_) (fun h12_0 => ?_)
                  · exfalso; omega
                  · skip
                    refine AOps.cons rfl rfl (q_assign) ?_
                    refine AOps.nil ?_
                    refine AWp.cond_f rfl ?_
                    refine AWp.seq ?_
                    refine AWp.region ?_
                    refine AOps.dec rfl rfl (q_eql) (fun h14_0 => ?_) (fun h14_0 => ?_)
                    · exfalso; omega
                    · skip
                      refine AOps.cons rfl rfl (q_assign) ?_
                      refine AOps.nil ?_
                      refine AWp.cond_f rfl ?_
                      refine AWp.seq ?_
                      refine AWp.region ?_
                      refine AOps.dec rfl rfl (q_eql) (fun h16_0 => ?_) (fun h16_0 => ?_)
                      · exfalso; omega
                      · skip
                        refine AOps.cons rfl rfl (q_assign) ?_
                        refine AOps.nil ?_
                        refine AWp.cond_f rfl ?_
                        refine AWp.seq ?_
                        refine AWp.region ?_
                        refine AOps.dec rfl rfl (q_eql) (fun h18_0 => ?_) (fun h18_0 => ?_)
                        · skip
                          refine AOps.cons rfl rfl (q_assign) ?_
                          refine AOps.nil ?_
                          refine AWp.cond_t rfl ?_
                          refine AWp.seq ?_
                          refine AWp.region ?_
                          refine AOps.cons rfl rfl (q_move) ?_
                          refine AOps.cons rfl rfl (q_call (lv) (hc := c_rdata_SOA _ _ (by first | assumption | omega | decide | (simp; omega) | (simp [*]; done)))) ?_
                          refine AOps.cons rfl rfl (q_move) ?_
                          refine AOps.cons rfl rfl (q_extract) ?_
                          refine AOps.cons rfl rfl (q_extract) ?_
                          refine AOps.cons rfl rfl (q_alloc 2005) ?_
                          refine AOps.cons rfl rfl (q_store) ?_
                          refine AOps.cons rfl rfl (q_assign) ?_
                          refine AOps.nil ?_
                          refine AWp.seq ?_
                          refine AWp.region ?_
                          refine AOps.cons rfl rfl (q_move) ?_
                          refine AOps.cons rfl rfl (q_assign) ?_
                          refine AOps.nil ?_
                          refine AWp.ret ?_
                          show Fin te Try.f38 _ _
                          refine q_ret (0) [_] [_] ?_
                          rw [canS_6 (by omega)]; rfl
                        · exfalso; omega

end Go.Proofs.Ytaemmklgofddmaa.Fw

/- Messages: sameness and copies. -/
set_option linter.unusedVariables false
set_option linter.unusedSimpArgs false
namespace Go.Proofs.Ytaemmklgofddmaa.Fw
open Go.RowKit


structure Rr where
  nm : List UInt8
  ty : Int
  cs : Int
  ttl : Int
  da : List UInt8
  deriving Inhabited, DecidableEq
structure Qu where
  nm : List UInt8
  ty : Int
  cs : Int
  deriving Inhabited, DecidableEq
structure Hdr where
  id : Int
  resp : Bool
  op : Int
  aa : Bool
  tc : Bool
  rd : Bool
  ra : Bool
  code : Int
  deriving Inhabited, DecidableEq
structure Msg where
  h : Hdr
  qs : List Qu
  an : List Rr
  au : List Rr
  ad : List Rr
  deriving Inhabited, DecidableEq
def rrc (x : Rr) : List AV := [str x.nm, i64 x.ty, i64 x.cs, i64 x.ttl, .fz 0 x.da.length (cl bc x.da)]
def quc (x : Qu) : List AV := [str x.nm, i64 x.ty, i64 x.cs]
def msgC (m : Msg) : List AV := [i64 m.h.id, tf m.h.resp, i64 m.h.op, tf m.h.aa, tf m.h.tc, tf m.h.rd, tf m.h.ra, i64 m.h.code, .fz 0 m.qs.length (cl quc m.qs), .fz 0 m.an.length (cl rrc m.an), .fz 0 m.au.length (cl rrc m.au), .fz 0 m.ad.length (cl rrc m.ad)]
def RrsOk (l : List Rr) : Prop := l.length * 64 ≤ 140737488351232 ∧ ∀ x ∈ l, x.da.length ≤ 140737488351232
def MsgOk (m : Msg) : Prop := m.qs.length * 32 ≤ 140737488351232 ∧ RrsOk m.an ∧ RrsOk m.au ∧ RrsOk m.ad
theorem rr_eq {a b : Rr} : a = b ↔ a.nm = b.nm ∧ a.ty = b.ty ∧ a.cs = b.cs ∧ a.ttl = b.ttl ∧ a.da = b.da := by cases a; cases b; simp
theorem qu_eq {a b : Qu} : a = b ↔ a.nm = b.nm ∧ a.ty = b.ty ∧ a.cs = b.cs := by cases a; cases b; simp
theorem msg_eq {a b : Msg} : a = b ↔ a.h = b.h ∧ a.qs = b.qs ∧ a.an = b.an ∧ a.au = b.au ∧ a.ad = b.ad := by cases a; cases b; simp
theorem quV (x y : Qu) : eqV ((quc x).map unv) ((quc y).map unv) = decide (x = y) := by
  cases x; cases y
  simp [quc, eqV, eq1, unv]
theorem hdV (x y : Hdr) : eqV [.int .i64 x.id, .bool x.resp, .int .i64 x.op, .bool x.aa, .bool x.tc, .bool x.rd, .bool x.ra, .int .i64 x.code] [.int .i64 y.id, .bool y.resp, .int .i64 y.op, .bool y.aa, .bool y.tc, .bool y.rd, .bool y.ra, .int .i64 y.code] = decide (x = y) := by
  cases x; cases y
  rw [Bool.eq_iff_iff]
  simp [eqV, eq1]
theorem eq_step' {α : Type} [Inhabited α] {a b : List α} {i : Nat} (ha : i < a.length) (hb : i < b.length) (h : a.take i = b.take i) (e : a.getD i default = b.getD i default) : a.take (i + 1) = b.take (i + 1) := by
  rw [List.take_succ_eq_append_getElem ha, List.take_succ_eq_append_getElem hb, h]
  rw [List.getD_eq_getElem?_getD, List.getD_eq_getElem?_getD, List.getElem?_eq_getElem ha, List.getElem?_eq_getElem hb, Option.getD_some, Option.getD_some] at e
  rw [e]
theorem take_step' {α : Type} [Inhabited α] {l : List α} {i : Nat} (hi : i < l.length) : l.take (i + 1) = l.take i ++ [l.getD i default] := by
  have := take_map_step (fun y => y) (l := l) hi
  simpa using this

set_option maxRecDepth 20000 in
set_option maxHeartbeats 2000000 in
theorem c_Equal_qu (a b : List Qu) (lv lw : Nat) (ha : a.length ≤ 140737488351232) : AC Try.prog 49 [.fz lv a.length (cl quc a), .fz lw b.length (cl quc b)] emp (Ret (tf (decide (a = b)))) := by
  refine AC.intro te_ok (fn := Try.f49) ⟨Try.func49, rfl, rfl⟩ (Nat.le_of_ble_eq_true rfl) ?_
  refine AWp.seq ?_
  refine AWp.region ?_
  refine AOps.cons rfl rfl (q_assign) ?_
  refine AOps.nil ?_
  refine AWp.seq ?_
  refine AWp.seq ?_
  refine AWp.region ?_
  refine AOps.cons rfl rfl (q_move) ?_
  refine AOps.cons rfl rfl (q_len) ?_
  refine AOps.cons rfl rfl (q_move) ?_
  refine AOps.cons rfl rfl (q_len) ?_
  refine AOps.dec rfl rfl (q_neq) (fun h1_4 => ?_) (fun h1_4 => ?_)
  · skip
    refine AOps.nil ?_
    refine AWp.cond_t rfl ?_
    refine AWp.seq ?_
    refine AWp.region ?_
    refine AOps.cons rfl rfl (q_assign) ?_
    refine AOps.nil ?_
    refine AWp.ret ?_
    show Fin te Try.f49 _ _
    refine q_ret (0) [_] [_] ?_
    rw [decide_eq_false (fun e => h1_4 (by rw [e]))]; rfl
  · skip
    refine AOps.nil ?_
    refine AWp.cond_f rfl ?_
    refine AWp.skip ?_
    refine AWp.seq ?_
    refine AWp.seq ?_
    refine AWp.region ?_
    refine AOps.cons rfl rfl (q_move) ?_
    refine AOps.cons rfl rfl (q_len) ?_
    refine AOps.cons rfl rfl (q_move) ?_
    refine AOps.nil ?_
    refine AWp.block ?_
    refine AWp.loopR (α := Nat) [4, 5, 13, 14, 15, 16, 17, 18, 19, 20, 21, 22, 23, 24, 25] (fun i => [(13, i64 i)]) (fun i => []) (fun i => i ≤ a.length ∧ a.take i = b.take i) (fun i => a.length - i) 0 ?_ (Back.mk' (HasT.cons HasT.nil) HasH.nil) ?_
    · exact ⟨Nat.zero_le _, rfl⟩
    · rintro i ⟨hi, hI⟩
      have hlen : a.length = b.length := by omega
      refine AWp.seq ?_
      refine AWp.region ?_
      refine AOps.dec rfl rfl (q_lss) (fun h4_0 => ?_) (fun h4_0 => ?_)
      · skip
        refine AOps.nil ?_
        refine AWp.seq ?_
        refine AWp.cond_t rfl ?_
        refine AWp.skip ?_
        refine AWp.seq ?_
        refine AWp.block ?_
        refine AWp.seq ?_
        refine AWp.region ?_
        refine AOps.cons rfl rfl (q_move) ?_
        refine AOps.cons rfl rfl (q_assign) ?_
        refine AOps.nil ?_
        refine AWp.seq ?_
        by_cases he : a.getD i default = b.getD i default
        · skip
          refine AWp.draws [⟨0, [0], [], some 16, _, none⟩,
              ⟨1, [5], [], some 17, _, none⟩,
              ⟨2, [16, 17], [], some 18, _, none⟩,
              ⟨3, [18], [], some 19, _, none⟩,
              ⟨4, [1], [], some 20, _, none⟩,
              ⟨5, [5], [], some 21, _, none⟩,
              ⟨6, [20, 21], [], some 22, _, none⟩,
              ⟨7, [22], [], some 23, _, none⟩,
              ⟨8, [19, 23], [], some 24, _, none⟩]
            [⟨0, [0], [], some 16, .any, none⟩,
                ⟨1, [5], [], some 17, .any, none⟩,
                ⟨2, [16, 17], [], some 18, .any, none⟩,
                ⟨3, [18], [], some 19, .any, none⟩,
                ⟨4, [1], [], some 20, .any, none⟩,
                ⟨5, [5], [], some 21, .any, none⟩,
                ⟨6, [20, 21], [], some 22, .any, none⟩,
                ⟨7, [22], [], some 23, .any, none⟩,
                ⟨8, [19, 23], [], some 24, .any, none⟩]
            mixed_ok rfl (by kernel_rfl) ⟨DS.ok_over fun s0 => OpAt.go rfl rfl (q_move),
                DS.ok_over fun s0 => OpAt.go rfl rfl (q_move),
                DS.ok_over fun s0 => OpAt.go rfl rfl (q_ix),
                DS.ok_over fun s0 => OpAt.go rfl rfl (q_load),
                DS.ok_over fun s0 => OpAt.go rfl rfl (q_move),
                DS.ok_over fun s0 => OpAt.go rfl rfl (q_move),
                DS.ok_over fun s0 => OpAt.go rfl rfl (q_ix),
                DS.ok_over fun s0 => OpAt.go rfl rfl (q_load),
                DS.ok_over fun s0 => OpAt.go rfl rfl ((OpOk.bool_is (c := false) (q_eqp) ((congrArg (! ·) ((quV (a.getD i default) (b.getD i default)).trans (decide_eq_true he)))))), trivial⟩ ?_
          dsimp only [final, DS.upd, AS.seto]
          refine AWp.cond_f rfl ?_
          refine AWp.skip ?_
          refine AWp.region ?_
          refine AOps.cons rfl rfl (q_add) ?_
          refine AOps.cons rfl rfl (q_move) ?_
          refine AOps.nil ?_
          refine ⟨i + 1, ?_, Back.mk' (HasT.cons HasT.nil) HasH.nil, ?_⟩
          · exact ⟨by omega, eq_step' (by omega) (by omega) hI he⟩
          · first | omega | (simp; omega)
        · skip
          refine AWp.draws [⟨0, [0], [], some 16, _, none⟩,
              ⟨1, [5], [], some 17, _, none⟩,
              ⟨2, [16, 17], [], some 18, _, none⟩,
              ⟨3, [18], [], some 19, _, none⟩,
              ⟨4, [1], [], some 20, _, none⟩,
              ⟨5, [5], [], some 21, _, none⟩,
              ⟨6, [20, 21], [], some 22, _, none⟩,
              ⟨7, [22], [], some 23, _, none⟩,
              ⟨8, [19, 23], [], some 24, _, none⟩]
            [⟨0, [0], [], some 16, .any, none⟩,
                ⟨1, [5], [], some 17, .any, none⟩,
                ⟨2, [16, 17], [], some 18, .any, none⟩,
                ⟨3, [18], [], some 19, .any, none⟩,
                ⟨4, [1], [], some 20, .any, none⟩,
                ⟨5, [5], [], some 21, .any, none⟩,
                ⟨6, [20, 21], [], some 22, .any, none⟩,
                ⟨7, [22], [], some 23, .any, none⟩,
                ⟨8, [19, 23], [], some 24, .any, none⟩]
            mixed_ok rfl (by kernel_rfl) ⟨DS.ok_over fun s0 => OpAt.go rfl rfl (q_move),
                DS.ok_over fun s0 => OpAt.go rfl rfl (q_move),
                DS.ok_over fun s0 => OpAt.go rfl rfl (q_ix),
                DS.ok_over fun s0 => OpAt.go rfl rfl (q_load),
                DS.ok_over fun s0 => OpAt.go rfl rfl (q_move),
                DS.ok_over fun s0 => OpAt.go rfl rfl (q_move),
                DS.ok_over fun s0 => OpAt.go rfl rfl (q_ix),
                DS.ok_over fun s0 => OpAt.go rfl rfl (q_load),
                DS.ok_over fun s0 => OpAt.go rfl rfl ((OpOk.bool_is (c := true) (q_eqp) ((congrArg (! ·) ((quV (a.getD i default) (b.getD i default)).trans (decide_eq_false he)))))), trivial⟩ ?_
          dsimp only [final, DS.upd, AS.seto]
          refine AWp.cond_t rfl ?_
          refine AWp.seq ?_
          refine AWp.region ?_
          refine AOps.cons rfl rfl (q_assign) ?_
          refine AOps.nil ?_
          refine AWp.ret ?_
          show Fin te Try.f49 _ _
          refine q_ret (0) [_] [_] ?_
          rw [decide_eq_false (fun e => he (by rw [e]))]; rfl
      · skip
        refine AOps.nil ?_
        refine AWp.seq ?_
        refine AWp.cond_f rfl ?_
        refine AWp.exit ?_
        refine AWp.seq ?_
        refine AWp.region ?_
        refine AOps.cons rfl rfl (q_assign) ?_
        refine AOps.nil ?_
        refine AWp.ret ?_
        show Fin te Try.f49 _ _
        refine q_ret (0) [_] [_] ?_
        have e : a = b := by rw [List.take_of_length_le (by omega), List.take_of_length_le (by omega)] at hI; exact hI
        rw [decide_eq_true e]; rfl

end Go.Proofs.Ytaemmklgofddmaa.Fw

/- Messages: sameness and copies, of whole ones. -/
set_option linter.unusedVariables false
set_option linter.unusedSimpArgs false
namespace Go.Proofs.Ytaemmklgofddmaa.Fw
open Go.RowKit

end Go.Proofs.Ytaemmklgofddmaa.Fw

/- Q8: temporaries that are nil. -/
set_option linter.unusedVariables false
set_option linter.unusedSimpArgs false
namespace Go.Proofs.Ytaemmklgofddmaa.Fw
open Go.RowKit
/-- A temporary that is nil: an empty row of one's own. -/
theorem Weak.niltmp (k id esz : Nat) {α : Type} (f : α → List AV) {s : AS} (hk : s.t k = .v (.slice none 0 0) := by exact rfl) (hid : s.h id = none := by exact rfl) :
    Weak s ((s.seth id (some (.row (cl f []) esz 0))).put (some k) (.sl id 0 0 ([] : List α).length esz)) := by
  intro n Λ w φ a hs
  have hn := hs.hs.dom id hid
  have hc : Chg w φ Λ s.h id ⟨none, 0⟩ w := ⟨hs.hs, Nat.le_refl _, rfl, rfl, rfl, fun _ _ _ => rfl, (fun b' o' h => by cases h), (fun l hl => by rw [hn] at hl; cases hl), (fun l hl => by rw [hn] at hl; cases hl)⟩
  have h1 : HSim w (upd φ id (some ⟨none, 0⟩)) Λ (upd s.h id (some (.row (cl f []) esz 0))) := hc.hsim ⟨rfl, .inl ⟨rfl, rfl⟩⟩
  refine ⟨upd φ id (some ⟨none, 0⟩), ⟨hs.defs, hs.size, fun i => ?_, h1⟩, hc.goes⟩
  show Rep w _ Λ (upd s.t k (.sl id 0 0 0 esz) i) _
  by_cases he : i = k
  · subst he
    rw [upd_same]
    have := hs.tmps i
    rw [hk] at this
    generalize a.tmps.getD i undef = v at this
    cases this
    exact .sl0 (upd_same _ _ _) rfl
  · rw [upd_other _ _ _ _ he]
    exact hc.rep (hs.tmps i)
end Go.Proofs.Ytaemmklgofddmaa.Fw

/- Q9: slices with three indices, of frozen lists. -/
set_option linter.unusedVariables false
set_option linter.unusedSimpArgs false
namespace Go.Proofs.Ytaemmklgofddmaa.Fw
open Go.RowKit
section
variable {n : Nat} {s : AS} {o : Oper} {d : Option Tmp}
/-- A part of a frozen list with a capacity that is told by another temporary of the same value. -/
theorem ok_slice_fz3 {P : Program} {te : TE} (hte : TEok P te) {t e : TypeId} {x y z : Operand} {lo : Option Operand} {lv m : Nat} {cells cs : List AV} {p q : Nat} {ti tj : TI} (ho : o.op = .slice t x lo (some y) (some z))
    (hx : s.ev x = .fz lv m cells) (ht : te.get t = some ti) (hk : ti.k = .slice e) (he : te.get e = some tj) (hm : ∀ c, Bnd s (some z) c q) (hh : Bnd s (some y) m q) (hl : Bnd s lo 0 p) (h1 : p ≤ q) (h2 : q ≤ m)
    (hcl : cells.length = m * tj.size) (hcs : (cells.drop (p * tj.size)).take ((q - p) * tj.size) = cs) (hp : 0 < tj.size) (hdd : o.dst = d) (hd : d.all (Nat.blt · n) = true) :
    OpOk P n o s (s.put d (.fz lv (q - p) cs)) :=
  .val hdd hd fun Λ w φ a hs => by
    have hu := (hte.tells ht).slice hk
    have hr := hs.ev x
    rw [hx] at hr
    have hlen : cs.length = (q - p) * tj.size := by
      rw [← hcs, List.length_take, List.length_drop, hcl, ← Nat.sub_mul]
      exact Nat.min_eq_left (Nat.mul_le_mul_right _ (by omega))
    have hb : ∀ cap, m ≤ cap → ∃ mm, q ≤ mm ∧ mm ≤ cap ∧ (Instr.sliceBounds true m cap (lo.map a.eval) ((some y).map a.eval) ((some z).map a.eval)).run P w = .ok (p, q, mm) w := by
      intro cap hcap
      exact ⟨q, Nat.le_refl _, by omega, run_sliceBounds hs (hm cap) hh hl (fun _ => rfl) h1 (Nat.le_refl _) (by omega)⟩
    by_cases hz : q - p = 0
    · have hcs0 : cs = [] := List.eq_nil_of_length_eq_zero (by rw [hlen, hz]; simp)
      subst hcs0
      rw [hz]
      obtain ⟨ad, cap, hv⟩ := rep_len (m := m) hr rfl
      have hcap : m ≤ cap := by
        rw [hv] at hr
        cases hr with
        | fz0 => exact Nat.zero_le _
        | fz => assumption
      obtain ⟨mm, g1, g2, g3⟩ := hb cap hcap
      simp only [Option.map_some] at g3
      refine ⟨.slice (if mm = p then ad else ad.map (·.add (p * tj.size))) 0 (mm - p), ?_, .fz0⟩
      · simp [execOp, ho, hv, Instr.sliceAt, Instr.slice, run_underlying hu, g3, (hte.tells he).run_sizeOf, hz]
    · obtain ⟨b, of, cap, hv, hcap, vf, r1, r2, r3, r4⟩ := rep_fz_part hr (p * tj.size) ((q - p) * tj.size) hcs (by rw [hlen]; exact Nat.mul_pos (by omega) hp)
      obtain ⟨mm, g1, g2, g3⟩ := hb cap hcap
      simp only [Option.map_some] at g3
      have hne : mm ≠ p := by omega
      refine ⟨.slice (some ⟨b, of + p * tj.size, none⟩) (q - p) (mm - p), ?_, .fz vf r1 (by omega) r2 r3 r4 (by rw [hlen]; exact Nat.mul_pos (by omega) hp)⟩
      simp [execOp, ho, hv, Instr.sliceAt, Instr.slice, run_underlying hu, g3, (hte.tells he).run_sizeOf, hne, Addr.add_lit]
/-- A list's beginning, its capacity told. -/
theorem q_sl3 {t e : TypeId} {x y z : Operand} {lv : Nat} {α : Type} {f : α → List AV} {l : List α} {k k' : IntKind} {j : Int} {ti tj : TI} (ho : o.op = .slice t x none (some y) (some z) := by exact rfl) (hx : s.ev x = .fz lv l.length (cl f l) := by exact rfl)
    (ht : te.get t = some ti := by exact rfl) (hk : ti.k = .slice e := by exact rfl) (he : te.get e = some tj := by exact rfl) (hy : s.ev y = .v (.int k j) := by exact rfl) (hz : s.ev z = .v (.int k' j) := by exact rfl) (hf : ∀ x, (f x).length = tj.size := by exact fun _ => rfl)
    (h0 : 0 ≤ j := by first | omega | decide | (simp; omega)) (h2 : j ≤ l.length := by first | omega | decide | (simp; omega)) (hp : 0 < tj.size := by exact Nat.le_of_ble_eq_true rfl)
    (hdd : o.dst = d := by conv => lhs; whnf) (hd : d.all (Nat.blt · n) = true := by exact rfl) : OpOk Try.prog n o s (s.put d (.fz lv (l.take j.toNat).length (cl f (l.take j.toNat)))) := by
  have e1 : (l.take j.toNat).length = j.toNat - 0 := by rw [List.length_take]; omega
  rw [e1]
  refine ok_slice_fz3 te_ok ho hx ht hk he (fun c => ⟨k', j, hz, h0, rfl⟩) ⟨k, j, hy, h0, rfl⟩ rfl (Nat.zero_le _) (by omega) (cl_length hf l) ?_ hp hdd hd
  rw [Nat.zero_mul, List.drop_zero, Nat.sub_zero, cl_take hf]
end
end Go.Proofs.Ytaemmklgofddmaa.Fw

/- Q10: sums that wrap round; slices that are made with a length. -/
set_option linter.unusedVariables false
set_option linter.unusedSimpArgs false
namespace Go.Proofs.Ytaemmklgofddmaa.Fw
open Go.RowKit
section
variable {n : Nat} {s : AS} {o : Oper} {d : Option Tmp}
theorem q_addw {t u : TypeId} {x y : Operand} {k : IntKind} {a b : Int} (ho : o.op = .binOp .add t x y u := by exact rfl) (hx : s.ev x = .v (.int k a) := by exact rfl) (hy : s.ev y = .v (.int k b) := by exact rfl)
    (hdd : o.dst = d := by conv => lhs; whnf) (hd : d.all (Nat.blt · n) = true := by exact rfl) : OpOk Try.prog n o s (s.put d (.v (.int k (k.wrap (a + b))))) := ok_bin ho hx hy br_add hdd hd
theorem ok_make {P : Program} {te : TE} (hte : TEok P te) {t e : TypeId} {x y : Operand} {k k' : IntKind} {c id : Nat} {ti tj : TI} (ho : o.op = .makeSlice t x y) (hx : s.ev x = .v (.int k c)) (hy : s.ev y = .v (.int k' c))
    (ht : te.get t = some ti) (hk : ti.k = .slice e) (he : te.get e = some tj) (hid : s.h id = none) (hz : Nat.beq tj.zero.length tj.size = true) (hb : tj.bytes * c ≤ 140737488351232) (h63 : c ≤ 9223372036854775807)
    (hdd : o.dst = d) (hd : d.all (Nat.blt · n) = true) : OpOk P n o s ((s.seth id (some (.row (repZ tj.zero c) tj.size 0))).put d (.sl id 0 0 c tj.size)) :=
  .chg hdd hd fun Λ w φ a hs => by
    have hu := (hte.tells ht).slice hk
    obtain ⟨f, z, z1, z2, z3, z4, z5, z6, z7⟩ := (hte.tells he).info
    have hzl := Nat.eq_of_beq_eq_true hz
    have hb' : (f.bytes : Int) * (c : Int) ≤ 281474976710656 := by
      have : ((f.bytes * c : Nat) : Int) ≤ 281474976710656 := by rw [z3]; omega
      rwa [Int.natCast_mul] at this
    have hrun := run_make (P := P) w t e f z hu z1 z4 k k' (c : Int) (c : Int) (by omega) (Int.le_refl _) hb' (by omega)
    simp only [Int.toNat_natCast] at hrun
    have hrep : ListRep w φ Λ (madeCells z.cells (c * f.size)) (repZ tj.zero c) := zeros_many z5 c _ (by rw [z2, hzl])
    have hc := Chg.alloc hs.hs hid (.cells (madeCells z.cells (c * f.size)) e) 0 0
    have hsz : (madeCells z.cells (c * f.size)).size = c * f.size := size_madeCells _ _
    refine ⟨_, _, _, ?_, hc, objRep_row (w0 := w) (by rw [repZ_length, hzl, hsz, z2]; exact Nat.le_refl _) (fun j q hj => ?_), .slice (some ⟨w.heap.size, 0, none⟩) c c, .inl rfl, ?_⟩
    · simp [execOp, ho, ev_v hs hx, ev_v hs hy, hrun]
    · obtain ⟨v, hv, hr⟩ := hrep.2 j q hj
      rw [Nat.zero_add] at hv
      exact ⟨v, hv, hc.rep hr⟩
    · have hcs : (madeCells z.cells (c * f.size)).size = c * tj.size := by rw [hsz, z2]
      exact Rep.sl (off := 0) (upd_same _ _ _) rfl rfl (heap_alloc_new w _) (by omega) (Nat.le_refl _)
theorem repZ_cl {α : Type} {f : α → List AV} {a : α} {zs : List ZC} (h : zs.map (fun z => AV.v z.val) = f a) : ∀ c, repZ zs c = cl f (List.replicate c a)
  | 0 => rfl
  | c + 1 => by rw [repZ, repZ_cl h c, h]; rfl
/-- A slice of so many elements, all alike. -/
theorem q_make (id : Nat) {α : Type} (f : α → List AV) (a : α) (c : Nat) {t e : TypeId} {x y : Operand} {k k' : IntKind} {ti tj : TI} (ho : o.op = .makeSlice t x y := by exact rfl) (hx : s.ev x = .v (.int k c) := by exact rfl) (hy : s.ev y = .v (.int k' c) := by exact rfl)
    (ht : te.get t = some ti := by exact rfl) (hk : ti.k = .slice e := by exact rfl) (he : te.get e = some tj := by exact rfl) (hid : s.h id = none := by exact rfl) (hz : Nat.beq tj.zero.length tj.size = true := by exact rfl)
    (hf : tj.zero.map (fun z => AV.v z.val) = f a := by exact rfl) (hb : tj.bytes * c ≤ 140737488351232 := by first | omega | (simp; omega)) (h63 : c ≤ 9223372036854775807 := by omega)
    (hdd : o.dst = d := by conv => lhs; whnf) (hd : d.all (Nat.blt · n) = true := by exact rfl) : OpOk Try.prog n o s ((s.seth id (some (.row (cl f (List.replicate c a)) tj.size 0))).put d (.sl id 0 0 (List.replicate c a).length tj.size)) := by
  rw [List.length_replicate, ← repZ_cl hf]
  exact ok_make te_ok ho hx hy ht hk he hid hz hb h63 hdd hd
/-- u64: a number eight bits up; a number with a byte behind. -/
theorem wrapu64 {a : Int} (h0 : 0 ≤ a) (h1 : a < 18446744073709551616) : IntKind.u64.wrap a = a := by
  have : IntKind.u64.wrap a = a % 18446744073709551616 := by simp [IntKind.wrap, IntKind.signed, IntKind.bits]
  rw [this]; omega
theorem q_shlu8 {t u : TypeId} {x y : Operand} {k' : IntKind} {a : Int} (ho : o.op = .binOp .shl t x y u := by exact rfl) (hx : s.ev x = .v (.int .u64 a) := by exact rfl) (hy : s.ev y = .v (.int k' 8) := by exact rfl)
    (h0 : 0 ≤ a ∧ a < 72057594037927936 := by first | omega | decide | (simp; omega)) (hdd : o.dst = d := by conv => lhs; whnf) (hd : d.all (Nat.blt · n) = true := by exact rfl) :
    OpOk Try.prog n o s (s.put d (.v (.int .u64 (a * 2 ^ 8)))) := by
  have h := br_shl (P := Try.prog) (t := t) (x := x) (y := y) (k := .u64) (k' := k') (a := a) (b := 8) (by decide)
  have e : a * 2 ^ min (8 : Int).toNat IntKind.u64.bits = a * 2 ^ 8 := rfl
  rw [e, wrapu64 (by omega) (by omega)] at h
  exact ok_bin ho hx hy h hdd hd
theorem q_orbu {t u : TypeId} {x y : Operand} {a b : Int} (ho : o.op = .binOp .or t x y u := by exact rfl) (hx : s.ev x = .v (.int .u64 (a * 2 ^ 8)) := by exact rfl) (hy : s.ev y = .v (.int .u64 b) := by exact rfl)
    (ha : 0 ≤ a ∧ a < 72057594037927936 := by first | omega | decide | (simp; omega)) (hb : 0 ≤ b ∧ b < 256 := by first | omega | decide | (simp; omega))
    (hdd : o.dst = d := by conv => lhs; whnf) (hd : d.all (Nat.blt · n) = true := by exact rfl) : OpOk Try.prog n o s (s.put d (.v (.int .u64 (a * 256 + b)))) := by
  have h := br_or (P := Try.prog) (t := t) (x := x) (y := y) (k := .u64) (a := a * 2 ^ 8) (b := b)
  have e1 : IntKind.u64.bits = 64 := rfl
  rw [e1, BitVec.toNat_or, ofInt_toNat (by omega) (by omega), ofInt_toNat hb.1 (by omega), or256 ha.1 hb, wrapu64 (by omega) (by omega)] at h
  exact ok_bin ho hx hy h hdd hd
end
end Go.Proofs.Ytaemmklgofddmaa.Fw

/- Q11: a row that is given up where it was made: its slice is frozen from then on. -/
set_option linter.unusedVariables false
set_option linter.unusedSimpArgs false
namespace Go.Proofs.Ytaemmklgofddmaa.Fw
open Go.RowKit
section
variable {n : Nat} {s : AS} {o : Oper} {d : Option Tmp}
theorem OpOk.weak {P : Program} {s1 s2 : AS} (h : OpOk P n o s s1) (hw : Weak s1 s2) : OpOk P n o s s2 := by
  intro Λ w φ a hs next QQ hn
  refine h Λ w φ a hs next QQ fun w' φ' a' hs' g => ?_
  obtain ⟨φ2, hs2, g2⟩ := hw n Λ w' φ' a' hs'
  exact hn w' φ2 a' hs2 (g.trans g2)
theorem Weak.kill (d id ver esz : Nat) {α : Type} {f : α → List AV} {l : List α} (hd : s.t d = .sl id ver 0 l.length esz) (hob : s.h id = some (.row (cl f l) esz ver)) (hf : ∀ x, (f x).length = esz) (h5 : 0 < esz)
    (h3 : ∀ x, AV.oks 0 (f x) = true) : Weak s ((s.seth id (some (.row [] esz (ver + 1)))).put (some d) (.fz 0 l.length (cl f l))) := by
  intro n Λ w φ a hs
  obtain ⟨l0, hl0, hv0⟩ := hs.hs.ver (ver := ver) (cells := cl f l) hob (by simp [AObj.at])
  have hc : Chg w φ Λ s.h id ⟨none, ver + 1⟩ w := ⟨hs.hs, Nat.le_refl _, rfl, rfl, rfl, fun _ _ _ => rfl, (fun b' o' h => by cases h), (fun l hl => .inr (by rw [hl0] at hl; cases hl; show l0.ver < ver + 1; omega)), (fun l hl e => by rw [hl0] at hl; cases hl; subst e; simp at hv0)⟩
  have h1 : HSim w (upd φ id (some ⟨none, ver + 1⟩)) Λ (upd s.h id (some (.row [] esz (ver + 1)))) := hc.hsim ⟨rfl, .inl ⟨rfl, rfl⟩⟩
  refine ⟨upd φ id (some ⟨none, ver + 1⟩), ⟨hs.defs, hs.size, fun i => ?_, h1⟩, hc.goes⟩
  show Rep w _ Λ (upd s.t d (.fz 0 l.length (cl f l)) i) _
  by_cases hi : i = d
  · subst hi
    rw [upd_same]
    have hr := hs.tmps i
    rw [hd] at hr
    by_cases hz : l = []
    · subst hz
      obtain ⟨ad, cap, e⟩ := rep_len hr rfl
      rw [e]
      exact .fz0
    · have hpos : 0 < l.length := List.length_pos_iff.2 hz
      have hcl : (cl f l).length = l.length * esz := cl_length hf l
      have hcp : 0 < (cl f l).length := by rw [hcl]; exact Nat.mul_pos hpos h5
      obtain ⟨l1, b0, oo0, arr, T, lo, hi, g1, g2, g3, g4, g5, g6, g7⟩ := hs.hs.at (ver := ver) (cells := cl f l) hob (by simp [AObj.at]) hcp
      generalize hv : a.tmps.getD i undef = v at hr ⊢
      generalize hL : l.length = L at hr ⊢
      cases hr with
      | slx e1 e2 => rw [g1] at e1; cases e1; omega
      | sl0 e1 e2 => omega
      | sl e1 e2 e3 e4 e5 e6 =>
        rw [g1] at e1
        cases e1
        rw [g3] at e3
        cases e3
        refine .fz (fun j => arr.getD (oo0 + 0 + j) undef) ⟨?_, fun k hk => (hs.hs.lt id l1 b0 oo0 g1 g3).2 k⟩ e6 (cl_mem fun x _ => AV.oks_iff.1 (h3 x)) (fun j hj => ?_) (fun j c hj => ?_) hcp
        · rintro ⟨id', l', o', q1, q2⟩
          by_cases e : id' = id
          · subst e; rw [upd_same] at q1; cases q1; cases q2
          · rw [upd_other _ _ _ _ e] at q1
            exact e (hs.hs.inj id' id l' l1 b0 o' oo0 q1 g1 q2 g3)
        · have : oo0 + 0 + j < arr.size := by omega
          simp only [World.cell?, g4, Array.getD, this, dif_pos, getElem?_pos]
          rfl
        · obtain ⟨u, q1, q2⟩ := g7 j c hj
          have q3 : arr[oo0 + 0 + j]? = some u := q1
          rw [Array.getD_eq_getD_getElem?, q3]
          exact hc.rep q2
  · rw [upd_other _ _ _ _ hi]
    exact hc.rep (hs.tmps i)
theorem seth_seth (s : AS) (id : Nat) (a b : Option AObj) : (s.seth id a).seth id b = s.seth id b := by
  simp only [AS.seth]
  congr 1
  funext i
  by_cases h : i = id
  · subst h; rw [upd_same, upd_same]
  · rw [upd_other _ _ _ _ h, upd_other _ _ _ _ h, upd_other _ _ _ _ h]
theorem put_put (s : AS) (d : Nat) (x y : AV) : (s.put (some d) x).put (some d) y = s.put (some d) y := by
  simp only [AS.put]
  congr 1
  funext i
  by_cases h : i = d
  · subst h; rw [upd_same, upd_same]
  · rw [upd_other _ _ _ _ h, upd_other _ _ _ _ h, upd_other _ _ _ _ h]
/-- What is appended to an own row is frozen; the row is given up. -/
theorem q_appz {dd : Nat} {t t2 e : TypeId} {x y : Operand} {id ver esz bt : Nat} {α : Type} {f : α → List AV} {l m : List α} {ti tj tk : TI} (ho : o.op = .call { callee := .builtin .append, args := #[x, y], argTypes := #[t, t2] } := by exact rfl)
    (hx : s.ev x = .sl id ver 0 l.length esz := by exact rfl) (hob : s.h id = some (.row (cl f l) esz ver) := by exact rfl) (ht : te.get t = some ti := by exact rfl) (hk : ti.k = .slice e := by exact rfl) (he : te.get e = some tj := by exact rfl)
    (hesz : tj.size = esz := by exact rfl) (hbt : tj.bytes = bt := by conv => lhs; whnf) (ht2 : te.get t2 = some tk := by exact rfl) (hk2 : (match tk.k with | .slice _ | .str => true | _ => false) = true := by exact rfl)
    (hsrc : SrcTo s y f esz m := by first | exact .sl rfl rfl .row (fun _ => rfl) | exact .fz rfl (fun _ => rfl) | exact .str rfl | exact .nil rfl) (hf : ∀ x, (f x).length = esz := by exact fun _ => rfl) (h1 : ∀ x, (f x).all AV.one = true := by exact fun _ => rfl)
    (h3 : ∀ x, AV.oks 0 (f x) = true := by exact fun _ => rfl) (h5 : 0 < esz := by exact Nat.le_of_ble_eq_true rfl)
    (hb : (l.length + m.length) * bt ≤ 140737488355328 := by first | omega | (simp; omega)) (hbp : 0 < bt := by exact Nat.le_of_ble_eq_true rfl)
    (hdd : o.dst = some dd := by conv => lhs; whnf) (hd : (some dd).all (Nat.blt · n) = true := by exact rfl) :
    OpOk Try.prog n o s ((s.seth id (some (.row [] esz (ver + 2)))).put (some dd) (.fz 0 (l ++ m).length (cl f (l ++ m)))) := by
  have h := q_app (n := n) (d := some dd) ho hx hob ht hk he hesz hbt ht2 hk2 hsrc hf h1 hb hbp hdd hd
  have h2 := h.weak (Weak.kill (s := (s.seth id (some (.row (cl f (l ++ m)) esz (ver + 1)))).put (some dd) (.sl id (ver + 1) 0 (l ++ m).length esz)) dd id (ver + 1) esz (f := f) (l := l ++ m) (upd_same _ _ _) (upd_same _ _ _) hf h5 h3)
  have e : ∀ (a b : Option AObj) (u v : AV), (((s.seth id a).put (some dd) u).seth id b).put (some dd) v = (s.seth id b).put (some dd) v := by
    intro a b u v
    have e1 : ((s.seth id a).put (some dd) u).seth id b = ((s.seth id a).seth id b).put (some dd) u := rfl
    rw [e1, seth_seth, put_put]
  rwa [e] at h2
end
end Go.Proofs.Ytaemmklgofddmaa.Fw

/- Q12: maps whose keys are numbers or strings. -/
set_option linter.unusedVariables false
set_option linter.unusedSimpArgs false
set_option linter.unusedSectionVars false
namespace Go.Proofs.Ytaemmklgofddmaa.Fw
open Go.RowKit
/-! ### Lists of keys and values -/
section pure
variable {κ β : Type} [DecidableEq κ]
def mget : List (κ × β) → κ → Option β
  | [], _ => none
  | (a, b) :: m, k => if a = k then some b else mget m k
def mput : List (κ × β) → κ → β → List (κ × β)
  | [], k, v => [(k, v)]
  | (a, b) :: m, k, v => if a = k then (k, v) :: m else (a, b) :: mput m k v
def mdel : List (κ × β) → κ → List (κ × β)
  | [], _ => []
  | (a, b) :: m, k => if a = k then m else (a, b) :: mdel m k
def MNd (m : List (κ × β)) : Prop := (m.map (·.1)).Nodup
theorem mget_put (m : List (κ × β)) (k k' : κ) (v : β) : mget (mput m k v) k' = if k = k' then some v else mget m k' := by
  induction m with
  | nil => simp [mput, mget]
  | cons p m ih =>
    obtain ⟨a, b⟩ := p
    simp only [mput]
    split
    · rename_i h; subst h
      simp only [mget]
      split <;> rfl
    · rename_i h
      simp only [mget, ih]
      by_cases h1 : a = k'
      · subst h1
        rw [if_pos rfl, if_neg (fun e => h e.symm), if_pos rfl]
      · rw [if_neg h1, if_neg h1]
theorem mget_none {m : List (κ × β)} {k : κ} (h : k ∉ m.map (·.1)) : mget m k = none := by
  induction m with
  | nil => rfl
  | cons p m ih =>
    obtain ⟨a, b⟩ := p
    simp only [List.map_cons, List.mem_cons, not_or] at h
    rw [mget, if_neg (fun e => h.1 e.symm), ih h.2]
theorem mget_del {m : List (κ × β)} (hn : MNd m) (k k' : κ) : mget (mdel m k) k' = if k = k' then none else mget m k' := by
  induction m with
  | nil => simp [mdel, mget]
  | cons p m ih =>
    obtain ⟨a, b⟩ := p
    have hn' : a ∉ m.map (·.1) ∧ MNd m := by simpa [MNd] using hn
    simp only [mdel]
    split
    · rename_i h; subst h
      by_cases h1 : a = k'
      · subst h1; rw [if_pos rfl]; exact mget_none hn'.1
      · rw [if_neg h1, mget, if_neg h1]
    · rename_i h
      simp only [mget, ih hn'.2]
      by_cases h1 : a = k'
      · subst h1
        rw [if_pos rfl, if_neg (fun e => h e.symm), if_pos rfl]
      · rw [if_neg h1, if_neg h1]
theorem mput_mem {m : List (κ × β)} {k x : κ} {v : β} (h : x ∈ (mput m k v).map (·.1)) : x = k ∨ x ∈ m.map (·.1) := by
  induction m with
  | nil => simp [mput] at h; exact .inl h
  | cons p m ih =>
    obtain ⟨a, b⟩ := p
    simp only [mput] at h
    split at h
    · rename_i e; subst e; exact .inr (by simpa using h)
    · simp only [List.map_cons, List.mem_cons] at h ⊢
      rcases h with h | h
      · exact .inr (.inl h)
      · rcases ih h with h | h
        · exact .inl h
        · exact .inr (.inr h)
theorem MNd.put {m : List (κ × β)} (hn : MNd m) (k : κ) (v : β) : MNd (mput m k v) := by
  induction m with
  | nil => simp [mput, MNd]
  | cons p m ih =>
    obtain ⟨a, b⟩ := p
    have hn' : a ∉ m.map (·.1) ∧ MNd m := by simpa [MNd] using hn
    simp only [mput]
    split
    · rename_i e; subst e; exact hn
    · rename_i e
      show ((a, b) :: mput m k v |>.map (·.1)).Nodup
      rw [List.map_cons, List.nodup_cons]
      refine ⟨fun h => ?_, ih hn'.2⟩
      rcases mput_mem h with h | h
      · exact e h
      · exact hn'.1 h
theorem mdel_mem {m : List (κ × β)} {k x : κ} (h : x ∈ (mdel m k).map (·.1)) : x ∈ m.map (·.1) := by
  induction m with
  | nil => exact h
  | cons p m ih =>
    obtain ⟨a, b⟩ := p
    simp only [mdel] at h
    split at h
    · simp only [List.map_cons, List.mem_cons]; exact .inr h
    · simp only [List.map_cons, List.mem_cons] at h ⊢
      exact h.imp_right ih
theorem MNd.del {m : List (κ × β)} (hn : MNd m) (k : κ) : MNd (mdel m k) := by
  induction m with
  | nil => exact hn
  | cons p m ih =>
    obtain ⟨a, b⟩ := p
    have hn' : a ∉ m.map (·.1) ∧ MNd m := by simpa [MNd] using hn
    simp only [mdel]
    split
    · exact hn'.2
    · show ((a, b) :: mdel m k |>.map (·.1)).Nodup
      rw [List.map_cons, List.nodup_cons]
      exact ⟨fun h => hn'.1 (mdel_mem h), ih hn'.2⟩
theorem MNd.nil : MNd ([] : List (κ × β)) := by simp [MNd]
theorem mfind (m : List (κ × β)) (k : κ) : (mget m k = none ∧ (∀ (i : Nat) (q : κ × β), m[i]? = some q → q.1 ≠ k) ∧ (∀ v, mput m k v = m ++ [(k, v)]) ∧ mdel m k = m) ∨
    ∃ j p, m[j]? = some p ∧ p.1 = k ∧ (∀ (i : Nat) (q : κ × β), i < j → m[i]? = some q → q.1 ≠ k) ∧ mget m k = some p.2 ∧ (∀ v, mput m k v = m.set j (k, v)) ∧ mdel m k = m.eraseIdx j := by
  induction m with
  | nil => exact .inl ⟨rfl, by simp, fun v => rfl, rfl⟩
  | cons p m ih =>
    obtain ⟨a, b⟩ := p
    by_cases h : a = k
    · refine .inr ⟨0, (a, b), rfl, h, by simp, by rw [mget, if_pos h], fun v => by rw [mput, if_pos h]; rfl, by rw [mdel, if_pos h]; rfl⟩
    · rcases ih with ⟨h1, h2, h3, h4⟩ | ⟨j, p, h1, h2, h3, h4, h5, h6⟩
      · refine .inl ⟨by rw [mget, if_neg h, h1], fun i q hq => ?_, fun v => by rw [mput, if_neg h, h3]; rfl, by rw [mdel, if_neg h, h4]⟩
        cases i with
        | zero => simp at hq; subst hq; exact h
        | succ i => exact h2 i q (by simpa using hq)
      · refine .inr ⟨j + 1, p, by simpa using h1, h2, fun i q hi hq => ?_, by rw [mget, if_neg h, h4], fun v => by rw [mput, if_neg h, h5]; rfl, by rw [mdel, if_neg h, h6]; rfl⟩
        cases i with
        | zero => simp at hq; subst hq; exact h
        | succ i => exact h3 i q (by omega) (by simpa using hq)
end pure
/-! ### Keys -/
structure MKey (κ : Type) where
  kv : κ → Value
  d : TypeDesc
  isKey : ∀ k, MapKept.IsKey d (kv k)
  inj : ∀ a b, kv a = kv b → a = b
  same : ∀ k, Instr.sameBits 10000 (kv k) (kv k) = true
def MInt : MKey Int := ⟨fun k => .int .i64 k, .int .i64, fun _ => rfl, fun a b h => by cases h; rfl, fun k => by simp [Instr.sameBits]⟩
def MStr : MKey (List UInt8) := ⟨fun k => .string ⟨⟨k⟩⟩, .string, fun _ => trivial, fun a b h => by cases h; rfl, fun k => MapKept.sameBits_self (d := .string) (show MapKept.IsKey .string (.string ⟨⟨k⟩⟩) from trivial) 10000⟩
theorem findNow_none {d : TypeDesc} {kk : Value} (hk : MapKept.IsKey d kk) : ∀ (l : List MapEntry) (i : Nat), (∀ e ∈ l, MapKept.IsKey d e.key ∧ e.key ≠ kk) → Instr.findNow d kk l i = some none
  | [], _, _ => rfl
  | e :: l, i, h => by
    obtain ⟨r, hr, hiff⟩ := MapKept.sameNow_of_keys hk (h e (by simp)).1
    cases r with
    | true => exact absurd (hiff.1 rfl).symm (h e (by simp)).2
    | false =>
      simp only [Instr.findNow, hr]
      exact findNow_none hk l (i + 1) fun e he => h e (by simp [he])
theorem findNow_some {d : TypeDesc} {kk : Value} (hk : MapKept.IsKey d kk) : ∀ (l : List MapEntry) (i j : Nat) (e : MapEntry), l[j]? = some e → e.key = kk → (∀ i' e', i' < j → l[i']? = some e' → MapKept.IsKey d e'.key ∧ e'.key ≠ kk) →
    Instr.findNow d kk l i = some (some (i + j, e.val))
  | [], _, _, _, h, _, _ => by simp at h
  | x :: l, i, 0, e, h, he, _ => by
    simp at h; subst h
    obtain ⟨r, hr, hiff⟩ := MapKept.sameNow_of_keys hk (he ▸ hk : MapKept.IsKey d x.key)
    have : r = true := hiff.2 he.symm
    subst this
    simp [Instr.findNow, hr]
  | x :: l, i, j + 1, e, h, he, hb => by
    have h0 := hb 0 x (by omega) rfl
    obtain ⟨r, hr, hiff⟩ := MapKept.sameNow_of_keys hk h0.1
    cases r with
    | true => exact absurd (hiff.1 rfl).symm h0.2
    | false =>
      simp only [Instr.findNow, hr]
      have := findNow_some hk l (i + 1) j e (by simpa using h) he fun i' e' hi he' => hb (i' + 1) e' (by omega) (by simpa using he')
      rw [this]
      congr 3; omega
section rules
variable {n : Nat} {s : AS} {o : Oper} {d : Option Tmp} {κ β : Type} [DecidableEq κ]
def me (K : MKey κ) (f : β → AV) (m : List (κ × β)) : List (Value × AV) := m.map fun p => (K.kv p.1, f p.2)
structure MEnts (w : World) (φ : PMap) (Λ : Lent) (K : MKey κ) (f : β → AV) (m : List (κ × β)) (ents : Array MapEntry) : Prop where
  size : ents.size = m.length
  at' : ∀ (j : Nat) p, m[j]? = some p → ∃ e, ents[j]? = some e ∧ e.key = K.kv p.1 ∧ Rep w φ Λ (f p.2) e.val
theorem map_at {w : World} {φ : PMap} {Λ : Lent} {h : Heap} (hs : HSim w φ Λ h) {id : Nat} {K : MKey κ} {f : β → AV} {m : List (κ × β)} (hob : h id = some (.map (me K f m))) :
    ∃ l b ents clock, φ id = some l ∧ l.bo = some (b, 0) ∧ l.ver = 0 ∧ w.heap[b]? = some (.map ents clock) ∧ MEnts w φ Λ K f m ents := by
  obtain ⟨l, hl, b, ents, clock, h1, h2, h3, h4, h5⟩ := hs.heap id _ hob
  refine ⟨l, b, ents, clock, hl, h1, h2, h3, by rw [h4, me, List.length_map], fun j p hp => ?_⟩
  exact h5 j (K.kv p.1, f p.2) (by rw [me, List.getElem?_map, hp]; rfl)
theorem MEnts.key {w : World} {φ : PMap} {Λ : Lent} {K : MKey κ} {f : β → AV} {m : List (κ × β)} {ents : Array MapEntry} (h : MEnts w φ Λ K f m ents) {i : Nat} {e : MapEntry} (he : ents[i]? = some e) : ∃ p, m[i]? = some p ∧ e.key = K.kv p.1 := by
  have hlt : i < m.length := by
    have := (Array.getElem?_eq_some_iff.1 he).1
    rw [← h.size]; exact this
  obtain ⟨e', h1, h2, _⟩ := h.at' i m[i] (List.getElem?_eq_getElem hlt)
  rw [he] at h1; cases h1
  exact ⟨_, List.getElem?_eq_getElem hlt, h2⟩
theorem MEnts.none {w : World} {φ : PMap} {Λ : Lent} {K : MKey κ} {f : β → AV} {m : List (κ × β)} {ents : Array MapEntry} (h : MEnts w φ Λ K f m ents) {k : κ} (hk : ∀ (i : Nat) (q : κ × β), m[i]? = some q → q.1 ≠ k) :
    Instr.findNow K.d (K.kv k) ents.toList 0 = some none := by
  refine findNow_none (K.isKey k) _ 0 fun e he => ?_
  obtain ⟨i, hi, rfl⟩ := List.getElem_of_mem he
  obtain ⟨p, h1, h2⟩ := h.key (i := i) (e := ents.toList[i]) (by rw [← Array.getElem?_toList, List.getElem?_eq_getElem hi])
  rw [h2]
  exact ⟨K.isKey _, fun e => hk i p h1 (K.inj _ _ e)⟩
theorem MEnts.some {w : World} {φ : PMap} {Λ : Lent} {K : MKey κ} {f : β → AV} {m : List (κ × β)} {ents : Array MapEntry} (h : MEnts w φ Λ K f m ents) {k : κ} {j : Nat} {p : κ × β} (h1 : m[j]? = some p) (h2 : p.1 = k) (hk : ∀ (i : Nat) (q : κ × β), i < j → m[i]? = some q → q.1 ≠ k) :
    ∃ e, ents[j]? = some e ∧ e.key = K.kv k ∧ Rep w φ Λ (f p.2) e.val ∧ Instr.findNow K.d (K.kv k) ents.toList 0 = some (some (j, e.val)) := by
  obtain ⟨e, q1, q2, q3⟩ := h.at' j p h1
  refine ⟨e, q1, by rw [q2, h2], q3, ?_⟩
  have := findNow_some (K.isKey k) ents.toList 0 j e (by rw [Array.getElem?_toList, q1]) (by rw [q2, h2]) fun i' e' hi he' => ?_
  · rwa [Nat.zero_add] at this
  · rw [Array.getElem?_toList] at he'
    obtain ⟨p', g1, g2⟩ := h.key he'
    rw [g2]
    exact ⟨K.isKey _, fun e => hk i' p' hi g1 (K.inj _ _ e)⟩
theorem rep_mp {w : World} {φ : PMap} {Λ : Lent} {id : Nat} {l : Loc} {b : Nat} {v : Value} (h : Rep w φ Λ (.mp id 0) v) (hl : φ id = some l) (hv : l.ver = 0) (hb : l.bo = some (b, 0)) : v = .map (some b) := by
  cases h with
  | mp h1 h2 h3 => rw [hl] at h1; cases h1; rw [hb] at h3; cases h3; rfl
  | mpx h1 h2 => rw [hl] at h1; cases h1; omega
def mres (f : β → AV) (z : AV) : Option β → AV
  | some b => f b
  | none => z
theorem mres_tf (x : Option Bool) : mres (fun b => tf b) (tf false) x = tf (x.getD false) := by cases x <;> rfl
theorem mres_int (x : Option Int) : mres (fun b => i64 b) (i64 0) x = i64 (x.getD 0) := by cases x <;> rfl
theorem objIn_me {S : Nat → Bool} {K : MKey κ} {f : β → AV} {m : List (κ × β)} (h : ∀ b, (f b).refs S = true) : ObjIn S (.map (me K f m)) := by
  intro p hp
  rw [me, List.mem_map] at hp
  obtain ⟨q, _, rfl⟩ := hp
  exact h q.2
theorem q_makeMap (id : Nat) (K : MKey κ) (f : β → AV) {t : TypeId} (ho : o.op = .makeMap t none := by exact rfl) (hid : s.h id = none := by exact rfl)
    (hdd : o.dst = d := by conv => lhs; whnf) (hd : d.all (Nat.blt · n) = true := by exact rfl) : OpOk Try.prog n o s ((s.seth id (some (.map (me K f [])))).put d (.mp id 0)) :=
  .chg hdd hd fun Λ w φ a hs => by
    have hc := Chg.alloc hs.hs hid (.map #[] 0) 0 0
    refine ⟨_, _, _, ?_, hc, ?_, .map (some w.heap.size), .inl rfl, .mp (upd_same _ _ _) rfl rfl⟩
    · simp [execOp, ho, Instr.makeMap]
    · exact ⟨w.heap.size, #[], 0, rfl, rfl, (MapKept.heap_alloc w _).1, rfl, fun j p hp => by simp [me] at hp⟩
theorem run_lookup {P : Program} {w : World} {φ : PMap} {Λ : Lent} {K : MKey κ} {f : β → AV} {m : List (κ × β)} {ents : Array MapEntry} {b clock : Nat} {t kt et : TypeId} {z : Value} {k : κ} {ok : Bool} (hu : P.underlying t = some (.map kt et)) (hd : P.underlying kt = some K.d)
    (hz : (zeroValue et).run P w = .ok z w) (hb : w.heap[b]? = some (.map ents clock)) (hm : MEnts w φ Λ K f m ents) {za : AV} (hza : Rep w φ Λ za z) :
    ∃ v, Rep w φ Λ (mres f za (mget m k)) v ∧ (Instr.lookup t (.map (some b)) (K.kv k) ok).run P w = .ok (if ok then .tuple #[v, .bool (mget m k).isSome] else v) w := by
  have hck := MapKept.run_checkKey (w := w) hd (K.isKey k) ents.isEmpty 9999
  rcases mfind m k with ⟨h1, h2, _, _⟩ | ⟨j, p, h1, h2, h3, h4, _, _⟩
  · have hf := MapKept.run_findKey (w := w) hd (hm.none h2)
    refine ⟨z, by rw [h1]; exact hza, ?_⟩
    rw [h1]
    simp [Instr.lookup, run_underlying hu, MapKept.run_getObj_map hb, hck, hf, hz, Result.andThen]
  · obtain ⟨e, e1, e2, e3, e4⟩ := hm.some h1 h2 h3
    have hf := MapKept.run_findKey (w := w) hd e4
    refine ⟨e.val, by rw [h4]; exact e3, ?_⟩
    rw [h4]
    simp [Instr.lookup, run_underlying hu, MapKept.run_getObj_map hb, hck, hf, Result.andThen]
theorem q_lookup {t kt et : TypeId} {x y : Operand} {id : Nat} (K : MKey κ) {f : β → AV} {m : List (κ × β)} {k : κ} {ti tj : TI} {r : AV} (ho : o.op = .lookup t x y false := by exact rfl) (hx : s.ev x = .mp id 0 := by exact rfl) (hy : s.ev y = .v (K.kv k) := by exact rfl)
    (hob : s.h id = some (.map (me K f m)) := by exact rfl) (ht : te.get t = some ti := by exact rfl) (hk : ti.k = .map kt et := by exact rfl) (hkd : Try.prog.underlying kt = some K.d := by exact rfl) (he : te.get et = some tj := by exact rfl) (ha : tj.k.agg = false := by exact rfl)
    (hr : mres f (.v ((tj.zero.map ZC.val).headD undef)) (mget m k) = r := by first | exact mres_tf _ | exact mres_int _ | exact rfl)
    (hdd : o.dst = d := by conv => lhs; whnf) (hd : d.all (Nat.blt · n) = true := by exact rfl) : OpOk Try.prog n o s (s.put d r) :=
  .val hdd hd fun Λ w φ a hs => by
    obtain ⟨l, b, ents, clock, h1, h2, h3, h4, h5⟩ := map_at hs.hs hob
    have hxv := hs.ev x
    rw [hx] at hxv
    have e1 := rep_mp hxv h1 h3 h2
    have e2 := ev_v hs hy
    obtain ⟨z, z1, z2, z3⟩ := (te_ok.tells he).run_zero w
    rw [ha] at z3
    obtain ⟨v, v1, v2⟩ := run_lookup (P := Try.prog) (k := k) (ok := false) ((te_ok.tells ht).map hk) hkd z1 h4 h5 (za := .v ((tj.zero.map ZC.val).headD undef)) (by rw [z3]; exact .v)
    exact ⟨v, by simp [execOp, ho, e1, e2, v2], hr ▸ v1⟩
theorem q_lookupo {t kt et : TypeId} {x y : Operand} {id : Nat} (K : MKey κ) {f : β → AV} {m : List (κ × β)} {k : κ} {ti tj : TI} {r : AV} (ho : o.op = .lookup t x y true := by exact rfl) (hx : s.ev x = .mp id 0 := by exact rfl) (hy : s.ev y = .v (K.kv k) := by exact rfl)
    (hob : s.h id = some (.map (me K f m)) := by exact rfl) (ht : te.get t = some ti := by exact rfl) (hk : ti.k = .map kt et := by exact rfl) (hkd : Try.prog.underlying kt = some K.d := by exact rfl) (he : te.get et = some tj := by exact rfl) (ha : tj.k.agg = false := by exact rfl)
    (hr : mres f (.v ((tj.zero.map ZC.val).headD undef)) (mget m k) = r := by first | exact mres_tf _ | exact mres_int _ | exact rfl)
    (hdd : o.dst = d := by conv => lhs; whnf) (hd : d.all (Nat.blt · n) = true := by exact rfl) : OpOk Try.prog n o s (s.put d (.tup [r, tf (mget m k).isSome])) :=
  .val hdd hd fun Λ w φ a hs => by
    obtain ⟨l, b, ents, clock, h1, h2, h3, h4, h5⟩ := map_at hs.hs hob
    have hxv := hs.ev x
    rw [hx] at hxv
    have e1 := rep_mp hxv h1 h3 h2
    have e2 := ev_v hs hy
    obtain ⟨z, z1, z2, z3⟩ := (te_ok.tells he).run_zero w
    rw [ha] at z3
    obtain ⟨v, v1, v2⟩ := run_lookup (P := Try.prog) (k := k) (ok := true) ((te_ok.tells ht).map hk) hkd z1 h4 h5 (za := .v ((tj.zero.map ZC.val).headD undef)) (by rw [z3]; exact .v)
    refine ⟨_, by simp [execOp, ho, e1, e2, v2]; rfl, .tup (fun j => if j = 0 then v else .bool (mget m k).isSome) rfl (fun j hj => ?_) (fun j c hj => ?_)⟩
    · match j, hj with
      | 0, _ => rfl
      | 1, _ => rfl
    · match j, hj with
      | 0, hj => cases hj; exact hr ▸ v1
      | 1, hj => cases hj; exact .v
theorem Chg.map {w : World} {φ : PMap} {Λ : Lent} {h : Heap} (hs : HSim w φ Λ h) {id b : Nat} {l : Loc} {ents : Array MapEntry} {clock : Nat} (hl : φ id = some l) (hbo : l.bo = some (b, 0)) (hb : w.heap[b]? = some (.map ents clock)) (ob : Obj) :
    Chg w φ Λ h id l { w with heap := w.heap.setIfInBounds b ob } where
  hs := hs
  size := by simp
  os := rfl
  tape := rfl
  output := rfl
  other k hk hne := (MapKept.heap_set hb).2 k (hne l b 0 hl hbo)
  loc b' o' h' := by
    rw [hbo] at h'; cases h'
    exact ⟨by have := (Array.getElem?_eq_some_iff.1 hb).1; simpa using this, .inr ⟨l, 0, hl, hbo⟩⟩
  ver l0 h0 := by rw [hl] at h0; cases h0; exact .inl rfl
  sizes l0 h0 _ b0 o0 arr T mm hb0 hh := by
    rw [hl] at h0; cases h0
    rw [hbo] at hb0; cases hb0
    rw [hb] at hh; cases hh
theorem q_mapUpdate {t kt et : TypeId} {x y z : Operand} {id : Nat} (K : MKey κ) {f : β → AV} {m : List (κ × β)} {k : κ} (v : β) {ti : TI} (ho : o.op = .mapUpdate t x y z := by exact rfl) (hx : s.ev x = .mp id 0 := by exact rfl) (hy : s.ev y = .v (K.kv k) := by exact rfl)
    (hob : s.h id = some (.map (me K f m)) := by exact rfl) (hz : s.ev z = f v := by exact rfl) (ht : te.get t = some ti := by exact rfl) (hk : ti.k = .map kt et := by exact rfl) (hkd : Try.prog.underlying kt = some K.d := by exact rfl)
    (hdd : o.dst = d := by conv => lhs; whnf) (hd : d.all (Nat.blt · n) = true := by exact rfl) : OpOk Try.prog n o s ((s.seth id (some (.map (me K f (mput m k v))))).put d (.v undef)) :=
  .chg hdd hd fun Λ w φ a hs => by
    obtain ⟨l, b, ents, clock, h1, h2, h3, h4, h5⟩ := map_at hs.hs hob
    have hxv := hs.ev x
    rw [hx] at hxv
    have e1 := rep_mp hxv h1 h3 h2
    have e2 := ev_v hs hy
    have e3 := hs.ev z
    rw [hz] at e3
    have hu := (te_ok.tells ht).map hk
    have hck := MapKept.run_checkKey (w := w) hkd (K.isKey k) false 9999
    rcases mfind m k with ⟨g1, g2, g3, _⟩ | ⟨j, p, g1, g2, g3, g4, g5, _⟩
    · have hf := MapKept.run_findKey (w := w) hkd (h5.none g2)
      have hc := Chg.map hs.hs h1 h2 h4 (.map (ents.push { key := K.kv k, val := a.eval z, born := clock }) (clock + 1))
      refine ⟨.skip, _, l, ?_, hc, ⟨b, _, _, h2, h3, (MapKept.heap_set h4).1, ?_, fun q r hq => ?_⟩, undef, .inr ⟨rfl, rfl⟩, .v⟩
      · simp [execOp, ho, e1, e2, Instr.mapUpdate, run_underlying hu, MapKept.run_getObj_map h4, hck, hf, Result.andThen, MapKept.run_setObj_map _ h4]
      · rw [g3]; simp [me, h5.size]
      · rw [g3, me, List.getElem?_map, Option.map_eq_some_iff] at hq
        obtain ⟨p, hp, rfl⟩ := hq
        by_cases hlt : q < m.length
        · rw [List.getElem?_append_left hlt] at hp
          obtain ⟨e, q1, q2, q3⟩ := h5.at' q p hp
          exact ⟨e, by rw [Array.getElem?_push, if_neg (by rw [h5.size]; omega)]; exact q1, q2, hc.rep q3⟩
        · rw [List.getElem?_append_right (by omega)] at hp
          have hq0 : q - m.length = 0 := by
            have := (List.getElem?_eq_some_iff.1 hp).1
            simp at this; omega
          rw [hq0] at hp
          simp at hp; subst hp
          exact ⟨{ key := K.kv k, val := a.eval z, born := clock }, by rw [Array.getElem?_push, if_pos (by rw [h5.size]; omega)], rfl, hc.rep e3⟩
    · obtain ⟨e, q1, q2, q3, q4⟩ := h5.some g1 g2 g3
      have hf := MapKept.run_findKey (w := w) hkd q4
      have hc := Chg.map hs.hs h1 h2 h4 (.map (ents.modify j fun e => { e with key := K.kv k, val := a.eval z }) clock)
      refine ⟨.skip, _, l, ?_, hc, ⟨b, _, _, h2, h3, (MapKept.heap_set h4).1, ?_, fun q r hq => ?_⟩, undef, .inr ⟨rfl, rfl⟩, .v⟩
      · simp [execOp, ho, e1, e2, Instr.mapUpdate, run_underlying hu, MapKept.run_getObj_map h4, hck, hf, Result.andThen, MapKept.run_setObj_map _ h4, q1, q2, Instr.keyThatStays, K.same]
      · rw [g5]; simp [me, h5.size]
      · rw [g5, me, List.getElem?_map, Option.map_eq_some_iff] at hq
        obtain ⟨p', hp, rfl⟩ := hq
        rw [List.getElem?_set] at hp
        by_cases hjq : j = q
        · subst hjq
          have hlt := (List.getElem?_eq_some_iff.1 g1).1
          simp [hlt] at hp; subst hp
          exact ⟨{ e with key := K.kv k, val := a.eval z }, by rw [Array.getElem?_modify, if_pos rfl, q1]; rfl, rfl, hc.rep e3⟩
        · rw [if_neg hjq] at hp
          obtain ⟨e', r1, r2, r3⟩ := h5.at' q p' hp
          exact ⟨e', by rw [Array.getElem?_modify, if_neg hjq]; exact r1, r2, hc.rep r3⟩
theorem q_delete {t t2 kt et : TypeId} {x y : Operand} {id : Nat} (K : MKey κ) {f : β → AV} {m : List (κ × β)} {k : κ} {ti : TI} (ho : o.op = .call { callee := .builtin .delete, args := #[x, y], argTypes := #[t, t2] } := by exact rfl) (hx : s.ev x = .mp id 0 := by exact rfl) (hy : s.ev y = .v (K.kv k) := by exact rfl)
    (hob : s.h id = some (.map (me K f m)) := by exact rfl) (ht : te.get t = some ti := by exact rfl) (hk : ti.k = .map kt et := by exact rfl) (hkd : Try.prog.underlying kt = some K.d := by exact rfl)
    (hdd : o.dst = d := by conv => lhs; whnf) (hd : d.all (Nat.blt · n) = true := by exact rfl) : OpOk Try.prog n o s ((s.seth id (some (.map (me K f (mdel m k))))).put d (.tup [])) :=
  .chg hdd hd fun Λ w φ a hs => by
    obtain ⟨l, b, ents, clock, h1, h2, h3, h4, h5⟩ := map_at hs.hs hob
    have hxv := hs.ev x
    rw [hx] at hxv
    have e1 := rep_mp hxv h1 h3 h2
    have e2 := ev_v hs hy
    have hu := (te_ok.tells ht).map hk
    have hck := MapKept.run_checkKey (w := w) hkd (K.isKey k) ents.isEmpty 9999
    have ht0 : ∀ (w' : World) φ', Rep w' φ' Λ (.tup []) (.tuple #[]) := fun w' φ' => .tup (fun _ => undef) rfl (fun j hj => by simp at hj) (fun j c hj => by simp at hj)
    rcases mfind m k with ⟨g1, g2, _, g3⟩ | ⟨j, p, g1, g2, g3, g4, _, g5⟩
    · have hf := MapKept.run_findKey (w := w) hkd (h5.none g2)
      have hc := Chg.map hs.hs h1 h2 h4 (.map ents clock)
      refine ⟨.value (.tuple #[]), _, l, ?_, hc, ⟨b, _, _, h2, h3, (MapKept.heap_set h4).1, ?_, fun q r hq => ?_⟩, .tuple #[], .inl rfl, ht0 _ _⟩
      · simp [execOp, ho, resolve, invoke, builtin, e1, e2, Builtin.delete_, run_underlying hu, MapKept.run_getObj_map h4, hck, hf, Result.andThen, MapKept.run_setObj_map _ h4]
      · rw [g3]; simp [me, h5.size]
      · rw [g3, me, List.getElem?_map, Option.map_eq_some_iff] at hq
        obtain ⟨p, hp, rfl⟩ := hq
        obtain ⟨e, q1, q2, q3⟩ := h5.at' q p hp
        exact ⟨e, q1, q2, hc.rep q3⟩
    · obtain ⟨e, q1, q2, q3, q4⟩ := h5.some g1 g2 g3
      have hf := MapKept.run_findKey (w := w) hkd q4
      have hc := Chg.map hs.hs h1 h2 h4 (.map (ents.eraseIdxIfInBounds j) clock)
      have hjl : j < ents.size := (Array.getElem?_eq_some_iff.1 q1).1
      have hl : (ents.eraseIdxIfInBounds j).toList = ents.toList.eraseIdx j := by
        simp [Array.eraseIdxIfInBounds, hjl]
      refine ⟨.value (.tuple #[]), _, l, ?_, hc, ⟨b, _, _, h2, h3, (MapKept.heap_set h4).1, ?_, fun q r hq => ?_⟩, .tuple #[], .inl rfl, ht0 _ _⟩
      · simp [execOp, ho, resolve, invoke, builtin, e1, e2, Builtin.delete_, run_underlying hu, MapKept.run_getObj_map h4, hck, hf, Result.andThen, MapKept.run_setObj_map _ h4]
      · rw [g5, ← Array.length_toList, hl]; simp [me, List.length_eraseIdx, h5.size]
      · rw [g5, me, List.getElem?_map, Option.map_eq_some_iff] at hq
        obtain ⟨p', hp, rfl⟩ := hq
        rw [List.getElem?_eraseIdx] at hp
        rw [← Array.getElem?_toList, hl, List.getElem?_eraseIdx]
        split at hp
        · rename_i hlt
          rw [if_pos hlt, Array.getElem?_toList]
          obtain ⟨e', r1, r2, r3⟩ := h5.at' q p' hp
          exact ⟨e', r1, r2, hc.rep r3⟩
        · rename_i hlt
          rw [if_neg hlt, Array.getElem?_toList]
          obtain ⟨e', r1, r2, r3⟩ := h5.at' (q + 1) p' hp
          exact ⟨e', r1, r2, hc.rep r3⟩
end rules
end Go.Proofs.Ytaemmklgofddmaa.Fw

/- Walks of layer 24: pairs. -/
set_option linter.unusedVariables false
set_option linter.unusedSimpArgs false
namespace Go.Proofs.Ytaemmklgofddmaa.Fw
open Go.RowKit


structure Ev where
  rp : Bool
  st : Int
  tm : Int
  m : Msg
  deriving Inhabited, DecidableEq
def evC (x : Ev) : List AV := [tf x.rp, i64 x.st, i64 x.tm, i64 x.m.h.id, tf x.m.h.resp, i64 x.m.h.op, tf x.m.h.aa, tf x.m.h.tc, tf x.m.h.rd, tf x.m.h.ra, i64 x.m.h.code, .fz 0 x.m.qs.length (cl quc x.m.qs), .fz 0 x.m.an.length (cl rrc x.m.an), .fz 0 x.m.au.length (cl rrc x.m.au), .fz 0 x.m.ad.length (cl rrc x.m.ad)]
def EvsOk (l : List Ev) : Prop := l.length * 160 ≤ 140737488351232 ∧ ∀ x ∈ l, MsgOk x.m
/-- A reply is one of a query. -/
def ansB (q r : Ev) : Bool := !q.rp && decide (q.st = r.st) && decide (q.m.h.id = r.m.h.id) && decide (q.m.h.op = r.m.h.op) && (q.m.h.rd == r.m.h.rd) && decide ((q.m.qs.length : Int) = 1) && decide (q.m.qs = r.m.qs)
def okB (r : Ev) : Bool := r.m.h.resp && r.m.h.ra
def fitB (l : List Ev) (done : List Bool) (r : Ev) (j : Nat) : Bool := !done.getD j false && ansB (l.getD j default) r
/-- Each reply answers the first query that waits. -/
def prdF (l : List Ev) : Nat → Nat → List Bool → Bool
  | 0, _, _ => true
  | n + 1, i, done => if (l.getD i default).rp then
      match (List.range i).find? (fitB l done (l.getD i default)) with
      | none => false
      | some j => if okB (l.getD i default) then prdF l n (i + 1) (done.set j true) else false
    else prdF l n (i + 1) done
def prd (l : List Ev) : Bool := prdF l l.length 0 (List.replicate l.length false)
theorem prdF_q {l : List Ev} {n i : Nat} {done : List Bool} (h : (l.getD i default).rp = false) : prdF l (n + 1) i done = prdF l n (i + 1) done := by rw [prdF, h]; rfl
theorem prdF_no {l : List Ev} {n i : Nat} {done : List Bool} (h : (l.getD i default).rp = true) (hf : ∀ j, j < i → fitB l done (l.getD i default) j = false) : prdF l (n + 1) i done = false := by
  rw [prdF, if_pos h]
  have : (List.range i).find? (fitB l done (l.getD i default)) = none := by
    rw [List.find?_eq_none]; intro j hj; rw [List.mem_range] at hj; rw [hf j hj]; exact Bool.false_ne_true
  rw [this]
theorem find_first {p : Nat → Bool} {i j : Nat} (hj : j < i) (h : p j = true) (hf : ∀ k, k < j → p k = false) : (List.range i).find? p = some j := by
  rw [List.find?_range_eq_some]
  exact ⟨h, by simpa using hj, fun k hk => by simp [hf k hk]⟩
theorem prdF_yes {l : List Ev} {n i j : Nat} {done : List Bool} (h : (l.getD i default).rp = true) (hj : j < i) (hfj : fitB l done (l.getD i default) j = true) (hf : ∀ k, k < j → fitB l done (l.getD i default) k = false) :
    prdF l (n + 1) i done = if okB (l.getD i default) then prdF l n (i + 1) (done.set j true) else false := by
  rw [prdF, if_pos h, find_first hj hfj hf]
/-- The program's map and the reference's list. -/
structure Open (l : List Ev) (i : Nat) (m : List (Int × Bool)) (done : List Bool) : Prop where
  nd : MNd m
  len : done.length = l.length
  fresh : ∀ j : Nat, i ≤ j → done.getD j false = false
  dom : ∀ j : Nat, (mget m (j : Int)).getD false = true → j < i
  get : ∀ j : Nat, j < i → (mget m (j : Int)).getD false = (!(l.getD j default).rp && !done.getD j false)
theorem Open.start (l : List Ev) : Open l 0 [] (List.replicate l.length false) := ⟨MNd.nil, by simp, fun j _ => by
  rw [List.getD_eq_getElem?_getD, List.getElem?_replicate]; split <;> rfl, fun j h => by simp [mget] at h, fun j h => absurd h (by omega)⟩
theorem Open.query {l : List Ev} {i : Nat} {m : List (Int × Bool)} {done : List Bool} (h : Open l i m done) (hq : (l.getD i default).rp = false) : Open l (i + 1) (mput m (i : Int) true) done := by
  refine ⟨h.nd.put _ _, h.len, fun j hj => h.fresh j (by omega), fun j hj => ?_, fun j hj => ?_⟩
  · rw [mget_put] at hj
    by_cases e : (i : Int) = j
    · omega
    · rw [if_neg e] at hj; have := h.dom j hj; omega
  · rw [mget_put]
    by_cases e : (i : Int) = j
    · obtain rfl : i = j := by omega
      rw [if_pos rfl, hq, h.fresh i (Nat.le_refl _)]; rfl
    · rw [if_neg e]; exact h.get j (by omega)
theorem Open.reply {l : List Ev} {i k : Nat} {m : List (Int × Bool)} {done : List Bool} (h : Open l i m done) (hk : k < i) (hi : i < l.length) (hr : (l.getD i default).rp = true) : Open l (i + 1) (mdel m (k : Int)) (done.set k true) := by
  have hset : ∀ j, k ≠ j → (done.set k true).getD j false = done.getD j false := fun j e => by
    rw [List.getD_eq_getElem?_getD, List.getD_eq_getElem?_getD, List.getElem?_set_ne e]
  refine ⟨h.nd.del _, by simp [h.len], fun j hj => by rw [hset j (by omega)]; exact h.fresh j (by omega), fun j hj => ?_, fun j hj => ?_⟩
  · rw [mget_del h.nd] at hj
    by_cases e : (k : Int) = j
    · rw [if_pos e] at hj; cases hj
    · rw [if_neg e] at hj; have := h.dom j hj; omega
  · rw [mget_del h.nd]
    by_cases e : (k : Int) = j
    · obtain rfl : k = j := by omega
      have : (done.set k true).getD k false = true := by
        rw [List.getD_eq_getElem?_getD, List.getElem?_set_self (by rw [h.len]; omega)]; rfl
      rw [if_pos rfl, this]; simp
    · rw [if_neg e, hset j (by omega)]
      by_cases e2 : j = i
      · subst e2
        rw [hr, Bool.not_true, Bool.false_and]
        cases hx : (mget m (j : Int)).getD false with
        | false => rfl
        | true => exact absurd (h.dom j hx) (by omega)
      · exact h.get j (by omega)
theorem Open.fit {l : List Ev} {i j : Nat} {m : List (Int × Bool)} {done : List Bool} (h : Open l i m done) (hj : j < i) (r : Ev) : fitB l done r j = ((mget m (j : Int)).getD false && ansB (l.getD j default) r) := by
  rw [h.get j hj, fitB, ansB]
  cases (l.getD j default).rp <;> cases done.getD j false <;> simp
def prB (q r : Ev) : Bool := ansB q r && okB r

set_option maxRecDepth 20000 in
set_option maxHeartbeats 2000000 in
theorem c_audit_answers (q r : Ev) (hq : MsgOk q.m) : AC Try.prog 25 [.agg (evC q), .agg (evC r)] emp (Ret (tf (ansB q r))) := by
  refine AC.intro te_ok (fn := Try.f25) ⟨Try.func25, rfl, rfl⟩ (Nat.le_of_ble_eq_true rfl) ?_
  refine AWp.seq ?_
  refine AWp.region ?_
  refine AOps.cons rfl rfl (q_box 100) ?_
  refine AOps.cons rfl rfl (q_box 101) ?_
  refine AOps.cons rfl rfl (q_assign) ?_
  refine AOps.nil ?_
  refine AWp.seq ?_
  refine AWp.draws [⟨0, [2], [100], some 7, _, none⟩,
      ⟨1, [7], [100], some 8, _, none⟩,
      ⟨2, [3], [101], some 9, _, none⟩,
      ⟨3, [9], [101], some 10, _, none⟩,
      ⟨4, [], [204], some 5, _, some (204, _)⟩,
      ⟨5, [], [205], some 6, _, some (205, _)⟩,
      ⟨6, [5, 8], [204], none, _, some (204, _)⟩,
      ⟨7, [6, 10], [205], none, _, some (205, _)⟩]
    [⟨0, [2], [100], some 7, .any, none⟩,
        ⟨1, [7], [100], some 8, .any, none⟩,
        ⟨2, [3], [101], some 9, .any, none⟩,
        ⟨3, [9], [101], some 10, .any, none⟩,
        ⟨4, [], [204], some 5, .any, some (204, .box [])⟩,
        ⟨5, [], [205], some 6, .any, some (205, .box [])⟩,
        ⟨6, [5, 8], [204], none, .any, some (204, .box [])⟩,
        ⟨7, [6, 10], [205], none, .any, some (205, .box [])⟩]
    mixed_ok rfl (by kernel_rfl) ⟨DS.ok_over fun s0 => OpAt.go rfl rfl (q_fa),
        DS.ok_over fun s0 => OpAt.go rfl rfl (q_load),
        DS.ok_over fun s0 => OpAt.go rfl rfl (q_fa),
        DS.ok_over fun s0 => OpAt.go rfl rfl (q_load),
        DS.ok_over fun s0 => OpAt.go rfl rfl (q_alloc 204),
        DS.ok_over fun s0 => OpAt.go rfl rfl (q_alloc 205),
        DS.ok_over fun s0 => OpAt.go rfl rfl (q_store),
        DS.ok_over fun s0 => OpAt.go rfl rfl (q_store), trivial⟩ ?_
  dsimp only [final, DS.upd, AS.seto]
  refine AWp.seq ?_
  refine AWp.region ?_
  refine AOps.cons rfl rfl (q_fa) ?_
  refine AOps.bool rfl rfl (q_load) (fun h2_1 => ?_) (fun h2_1 => ?_)
  · skip
    refine AOps.cons rfl rfl (q_not) ?_
    refine AOps.cons rfl rfl (q_move) ?_
    refine AOps.gskip rfl rfl rfl rfl rfl rfl rfl rfl ?_
    refine AOps.gskip rfl rfl rfl rfl rfl rfl rfl rfl ?_
    refine AOps.gskip rfl rfl rfl rfl rfl rfl rfl rfl ?_
    refine AOps.gskip rfl rfl rfl rfl rfl rfl rfl rfl ?_
    refine AOps.gskip rfl rfl rfl rfl rfl rfl rfl rfl ?_
    refine AOps.cons rfl rfl (q_pick) ?_
    refine AOps.cons rfl rfl (q_move) ?_
    refine AOps.gskip rfl rfl rfl rfl rfl rfl rfl rfl ?_
    refine AOps.gskip rfl rfl rfl rfl rfl rfl rfl rfl ?_
    refine AOps.gskip rfl rfl rfl rfl rfl rfl rfl rfl ?_
    refine AOps.gskip rfl rfl rfl rfl rfl rfl rfl rfl ?_
    refine AOps.gskip rfl rfl rfl rfl rfl rfl rfl rfl ?_
    refine AOps.gskip rfl rfl rfl rfl rfl rfl rfl rfl ?_
    refine AOps.gskip rfl rfl rfl rfl rfl rfl rfl rfl ?_
    refine AOps.cons rfl rfl (q_pick) ?_
    refine AOps.cons rfl rfl (q_move) ?_
    refine AOps.gskip rfl rfl rfl rfl rfl rfl rfl rfl ?_
    refine AOps.gskip rfl rfl rfl rfl rfl rfl rfl rfl ?_
    refine AOps.gskip rfl rfl rfl rfl rfl rfl rfl rfl ?_
    refine AOps.gskip rfl rfl rfl rfl rfl rfl rfl rfl ?_
    refine AOps.gskip rfl rfl rfl rfl rfl rfl rfl rfl ?_
    refine AOps.gskip rfl rfl rfl rfl rfl rfl rfl rfl ?_
    refine AOps.gskip rfl rfl rfl rfl rfl rfl rfl rfl ?_
    refine AOps.cons rfl rfl (q_pick) ?_
    refine AOps.cons rfl rfl (q_move) ?_
    refine AOps.gskip rfl rfl rfl rfl rfl rfl rfl rfl ?_
    refine AOps.gskip rfl rfl rfl rfl rfl rfl rfl rfl ?_
    refine AOps.gskip rfl rfl rfl rfl rfl rfl rfl rfl ?_
    refine AOps.gskip rfl rfl rfl rfl rfl rfl rfl rfl ?_
    refine AOps.gskip rfl rfl rfl rfl rfl rfl rfl rfl ?_
    refine AOps.gskip rfl rfl rfl rfl rfl rfl rfl rfl ?_
    refine AOps.gskip rfl rfl rfl rfl rfl rfl rfl rfl ?_
    refine AOps.cons rfl rfl (q_pick) ?_
    refine AOps.cons rfl rfl (q_move) ?_
    refine AOps.gskip rfl rfl rfl rfl rfl rfl rfl rfl ?_
    refine AOps.gskip rfl rfl rfl rfl rfl rfl rfl rfl ?_
    refine AOps.gskip rfl rfl rfl rfl rfl rfl rfl rfl ?_
    refine AOps.gskip rfl rfl rfl rfl rfl rfl rfl rfl ?_
    refine AOps.cons rfl rfl (q_pick) ?_
    refine AOps.cons rfl rfl (q_move) ?_
    refine AOps.gskip rfl rfl rfl rfl rfl rfl rfl rfl ?_
    refine AOps.gskip rfl rfl rfl rfl rfl rfl rfl rfl ?_
    refine AOps.gskip rfl rfl rfl rfl rfl rfl rfl rfl ?_
    refine AOps.gskip rfl rfl rfl rfl rfl rfl rfl rfl ?_
    refine AOps.gskip rfl rfl rfl rfl rfl rfl rfl rfl ?_
    refine AOps.cons rfl rfl (q_pick) ?_
    refine AOps.cons rfl rfl (q_assign) ?_
    refine AOps.nil ?_
    refine AWp.ret ?_
    show Fin te Try.f25 _ _
    refine q_ret (0) [_] [_] ?_
    exact congrArg tf (by simp [ansB, *])
  · skip
    refine AOps.cons rfl rfl (q_not) ?_
    refine AOps.cons rfl rfl (q_move) ?_
    refine AOps.gcons rfl rfl rfl rfl rfl (q_fa) ?_
    refine AOps.gcons rfl rfl rfl rfl rfl (q_load) ?_
    refine AOps.gcons rfl rfl rfl rfl rfl (q_fa) ?_
    refine AOps.gcons rfl rfl rfl rfl rfl (q_load) ?_
    refine AOps.gdec rfl rfl rfl rfl rfl (q_eql) (fun h2_8 => ?_) (fun h2_8 => ?_)
    · skip
      refine AOps.cons rfl rfl (q_pick) ?_
      refine AOps.cons rfl rfl (q_move) ?_
      refine AOps.gcons rfl rfl rfl rfl rfl (q_fa) ?_
      refine AOps.gcons rfl rfl rfl rfl rfl (q_fa) ?_
      refine AOps.gcons rfl rfl rfl rfl rfl (q_load) ?_
      refine AOps.gcons rfl rfl rfl rfl rfl (q_fa) ?_
      refine AOps.gcons rfl rfl rfl rfl rfl (q_fa) ?_
      refine AOps.gcons rfl rfl rfl rfl rfl (q_load) ?_
      refine AOps.gdec rfl rfl rfl rfl rfl (q_eql) (fun h2_17 => ?_) (fun h2_17 => ?_)
      · skip
        refine AOps.cons rfl rfl (q_pick) ?_
        refine AOps.cons rfl rfl (q_move) ?_
        refine AOps.gcons rfl rfl rfl rfl rfl (q_fa) ?_
        refine AOps.gcons rfl rfl rfl rfl rfl (q_fa) ?_
        refine AOps.gcons rfl rfl rfl rfl rfl (q_load) ?_
        refine AOps.gcons rfl rfl rfl rfl rfl (q_fa) ?_
        refine AOps.gcons rfl rfl rfl rfl rfl (q_fa) ?_
        refine AOps.gcons rfl rfl rfl rfl rfl (q_load) ?_
        refine AOps.gdec rfl rfl rfl rfl rfl (q_eql) (fun h2_26 => ?_) (fun h2_26 => ?_)
        · skip
          refine AOps.cons rfl rfl (q_pick) ?_
          refine AOps.cons rfl rfl (q_move) ?_
          refine AOps.gcons rfl rfl rfl rfl rfl (q_fa) ?_
          refine AOps.gcons rfl rfl rfl rfl rfl (q_fa) ?_
          refine AOps.gcons rfl rfl rfl rfl rfl (q_load) ?_
          refine AOps.gcons rfl rfl rfl rfl rfl (q_fa) ?_
          refine AOps.gcons rfl rfl rfl rfl rfl (q_fa) ?_
          refine AOps.gcons rfl rfl rfl rfl rfl (q_load) ?_
          refine AOps.gbool rfl rfl rfl rfl rfl (q_beql) (fun h2_35 => ?_) (fun h2_35 => ?_)
          · skip
            refine AOps.cons rfl rfl (q_pick) ?_
            refine AOps.cons rfl rfl (q_move) ?_
            refine AOps.gcons rfl rfl rfl rfl rfl (q_fa) ?_
            refine AOps.gcons rfl rfl rfl rfl rfl (q_load) ?_
            refine AOps.gcons rfl rfl rfl rfl rfl (q_len) ?_
            refine AOps.gdec rfl rfl rfl rfl rfl (q_eql) (fun h2_41 => ?_) (fun h2_41 => ?_)
            · skip
              refine AOps.cons rfl rfl (q_pick) ?_
              refine AOps.cons rfl rfl (q_move) ?_
              refine AOps.gcons rfl rfl rfl rfl rfl (q_fa) ?_
              refine AOps.gcons rfl rfl rfl rfl rfl (q_load) ?_
              refine AOps.gcons rfl rfl rfl rfl rfl (q_fa) ?_
              refine AOps.gcons rfl rfl rfl rfl rfl (q_load) ?_
              refine AOps.gcons rfl rfl rfl rfl rfl (q_call (0) (hc := (c_Equal_qu q.m.qs r.m.qs 0 0 (by have := hq.1; omega)))) ?_
              refine AOps.cons rfl rfl (q_pick) ?_
              refine AOps.cons rfl rfl (q_assign) ?_
              refine AOps.nil ?_
              refine AWp.ret ?_
              show Fin te Try.f25 _ _
              refine q_ret (0) [_] [_] ?_
              exact congrArg tf (by simp [ansB, *])
            · skip
              refine AOps.cons rfl rfl (q_pick) ?_
              refine AOps.cons rfl rfl (q_move) ?_
              refine AOps.gskip rfl rfl rfl rfl rfl rfl rfl rfl ?_
              refine AOps.gskip rfl rfl rfl rfl rfl rfl rfl rfl ?_
              refine AOps.gskip rfl rfl rfl rfl rfl rfl rfl rfl ?_
              refine AOps.gskip rfl rfl rfl rfl rfl rfl rfl rfl ?_
              refine AOps.gskip rfl rfl rfl rfl rfl rfl rfl rfl ?_
              refine AOps.cons rfl rfl (q_pick) ?_
              refine AOps.cons rfl rfl (q_assign) ?_
              refine AOps.nil ?_
              refine AWp.ret ?_
              show Fin te Try.f25 _ _
              refine q_ret (0) [_] [_] ?_
              exact congrArg tf (by simp [ansB, *])
          · skip
            refine AOps.cons rfl rfl (q_pick) ?_
            refine AOps.cons rfl rfl (q_move) ?_
            refine AOps.gskip rfl rfl rfl rfl rfl rfl rfl rfl ?_
            refine AOps.gskip rfl rfl rfl rfl rfl rfl rfl rfl ?_
            refine AOps.gskip rfl rfl rfl rfl rfl rfl rfl rfl ?_
            refine AOps.gskip rfl rfl rfl rfl rfl rfl rfl rfl ?_
            refine AOps.cons rfl rfl (q_pick) ?_
            refine AOps.cons rfl rfl (q_move) ?_
            refine AOps.gskip rfl rfl rfl rfl rfl rfl rfl rfl ?_
            refine AOps.gskip rfl rfl rfl rfl rfl rfl rfl rfl ?_
            refine AOps.gskip rfl rfl rfl rfl rfl rfl rfl rfl ?_
            refine AOps.gskip rfl rfl rfl rfl rfl rfl rfl rfl ?_
            refine AOps.gskip rfl rfl rfl rfl rfl rfl rfl rfl ?_
            refine AOps.cons rfl rfl (q_pick) ?_
            refine AOps.cons rfl rfl (q_assign) ?_
            refine AOps.nil ?_
            refine AWp.ret ?_
            show Fin te Try.f25 _ _
            refine q_ret (0) [_] [_] ?_
            exact congrArg tf (by simp [ansB, *])
        · skip
          refine AOps.cons rfl rfl (q_pick) ?_
          refine AOps.cons rfl rfl (q_move) ?_
          refine AOps.gskip rfl rfl rfl rfl rfl rfl rfl rfl ?_
          refine AOps.gskip rfl rfl rfl rfl rfl rfl rfl rfl ?_
          refine AOps.gskip rfl rfl rfl rfl rfl rfl rfl rfl ?_
          refine AOps.gskip rfl rfl rfl rfl rfl rfl rfl rfl ?_
          refine AOps.gskip rfl rfl rfl rfl rfl rfl rfl rfl ?_
          refine AOps.gskip rfl rfl rfl rfl rfl rfl rfl rfl ?_
          refine AOps.gskip rfl rfl rfl rfl rfl rfl rfl rfl ?_
          refine AOps.cons rfl rfl (q_pick) ?_
          refine AOps.cons rfl rfl (q_move) ?_
          refine AOps.gskip rfl rfl rfl rfl rfl rfl rfl rfl ?_
          refine AOps.gskip rfl rfl rfl rfl rfl rfl rfl rfl ?_
          refine AOps.gskip rfl rfl rfl rfl rfl rfl rfl rfl ?_
          refine AOps.gskip rfl rfl rfl rfl rfl rfl rfl rfl ?_
          refine AOps.cons rfl rfl (q_pick) ?_
          refine AOps.cons rfl rfl (q_move) ?_
          refine AOps.gskip rfl rfl rfl rfl rfl rfl rfl rfl ?_
          refine AOps.gskip rfl rfl rfl rfl rfl rfl rfl rfl ?_
          refine AOps.gskip rfl rfl rfl rfl rfl rfl rfl rfl ?_
          refine AOps.gskip rfl rfl rfl rfl rfl rfl rfl rfl ?_
          refine AOps.gskip rfl rfl rfl rfl rfl rfl rfl rfl ?_
          refine AOps.cons rfl rfl (q_pick) ?_
          refine AOps.cons rfl rfl (q_assign) ?_
          refine AOps.nil ?_
          refine AWp.ret ?_
          show Fin te Try.f25 _ _
          refine q_ret (0) [_] [_] ?_
          exact congrArg tf (by simp [ansB, *])
      · skip
        refine AOps.cons rfl rfl (q_pick) ?_
        refine AOps.cons rfl rfl (q_move) ?_
        refine AOps.gskip rfl rfl rfl rfl rfl rfl rfl rfl ?_
        refine AOps.gskip rfl rfl rfl rfl rfl rfl rfl rfl ?_
        refine AOps.gskip rfl rfl rfl rfl rfl rfl rfl rfl ?_
        refine AOps.gskip rfl rfl rfl rfl rfl rfl rfl rfl ?_
        refine AOps.gskip rfl rfl rfl rfl rfl rfl rfl rfl ?_
        refine AOps.gskip rfl rfl rfl rfl rfl rfl rfl rfl ?_
        refine AOps.gskip rfl rfl rfl rfl rfl rfl rfl rfl ?_
        refine AOps.cons rfl rfl (q_pick) ?_
        refine AOps.cons rfl rfl (q_move) ?_
        refine AOps.gskip rfl rfl rfl rfl rfl rfl rfl rfl ?_
        refine AOps.gskip rfl rfl rfl rfl rfl rfl rfl rfl ?_
        refine AOps.gskip rfl rfl rfl rfl rfl rfl rfl rfl ?_
        refine AOps.gskip rfl rfl rfl rfl rfl rfl rfl rfl ?_
        refine AOps.gskip rfl rfl rfl rfl rfl rfl rfl rfl ?_
        refine AOps.gskip rfl rfl rfl rfl rfl rfl rfl rfl ?_
        refine AOps.gskip rfl rfl rfl rfl rfl rfl rfl rfl ?_
        refine AOps.cons rfl rfl (q_pick) ?_
        refine AOps.cons rfl rfl (q_move) ?_
        refine AOps.gskip rfl rfl rfl rfl rfl rfl rfl rfl ?_
        refine AOps.gskip rfl rfl rfl rfl rfl rfl rfl rfl ?_
        refine AOps.gskip rfl rfl rfl rfl rfl rfl rfl rfl ?_
        refine AOps.gskip rfl rfl rfl rfl rfl rfl rfl rfl ?_
        refine AOps.cons rfl rfl (q_pick) ?_
        refine AOps.cons rfl rfl (q_move) ?_
        refine AOps.gskip rfl rfl rfl rfl rfl rfl rfl rfl ?_
        refine AOps.gskip rfl rfl rfl rfl rfl rfl rfl rfl ?_
        refine AOps.gskip rfl rfl rfl rfl rfl rfl rfl rfl ?_
        refine AOps.gskip rfl rfl rfl rfl rfl rfl rfl rfl ?_
        refine AOps.gskip rfl rfl rfl rfl rfl rfl rfl rfl ?_
        refine AOps.cons rfl rfl (q_pick) ?_
        refine AOps.cons rfl rfl (q_assign) ?_
        refine AOps.nil ?_
        refine AWp.ret ?_
        show Fin te Try.f25 _ _
        refine q_ret (0) [_] [_] ?_
        exact congrArg tf (by simp [ansB, *])
    · skip
      refine AOps.cons rfl rfl (q_pick) ?_
      refine AOps.cons rfl rfl (q_move) ?_
      refine AOps.gskip rfl rfl rfl rfl rfl rfl rfl rfl ?_
      refine AOps.gskip rfl rfl rfl rfl rfl rfl rfl rfl ?_
      refine AOps.gskip rfl rfl rfl rfl rfl rfl rfl rfl ?_
      refine AOps.gskip rfl rfl rfl rfl rfl rfl rfl rfl ?_
      refine AOps.gskip rfl rfl rfl rfl rfl rfl rfl rfl ?_
      refine AOps.gskip rfl rfl rfl rfl rfl rfl rfl rfl ?_
      refine AOps.gskip rfl rfl rfl rfl rfl rfl rfl rfl ?_
      refine AOps.cons rfl rfl (q_pick) ?_
      refine AOps.cons rfl rfl (q_move) ?_
      refine AOps.gskip rfl rfl rfl rfl rfl rfl rfl rfl ?_
      refine AOps.gskip rfl rfl rfl rfl rfl rfl rfl rfl ?_
      refine AOps.gskip rfl rfl rfl rfl rfl rfl rfl rfl ?_
      refine AOps.gskip rfl rfl rfl rfl rfl rfl rfl rfl ?_
      refine AOps.gskip rfl rfl rfl rfl rfl rfl rfl rfl ?_
      refine AOps.gskip rfl rfl rfl rfl rfl rfl rfl rfl ?_
      refine AOps.gskip rfl rfl rfl rfl rfl rfl rfl rfl ?_
      refine AOps.cons rfl rfl (q_pick) ?_
      refine AOps.cons rfl rfl (q_move) ?_
      refine AOps.gskip rfl rfl rfl rfl rfl rfl rfl rfl ?_
      refine AOps.gskip rfl rfl rfl rfl rfl rfl rfl rfl ?_
      refine AOps.gskip rfl rfl rfl rfl rfl rfl rfl rfl ?_
      refine AOps.gskip rfl rfl rfl rfl rfl rfl rfl rfl ?_
      refine AOps.gskip rfl rfl rfl rfl rfl rfl rfl rfl ?_
      refine AOps.gskip rfl rfl rfl rfl rfl rfl rfl rfl ?_
      refine AOps.gskip rfl rfl rfl rfl rfl rfl rfl rfl ?_
      refine AOps.cons rfl rfl (q_pick) ?_
      refine AOps.cons rfl rfl (q_move) ?_
      refine AOps.gskip rfl rfl rfl rfl rfl rfl rfl rfl ?_
      refine AOps.gskip rfl rfl rfl rfl rfl rfl rfl rfl ?_
      refine AOps.gskip rfl rfl rfl rfl rfl rfl rfl rfl ?_
      refine AOps.gskip rfl rfl rfl rfl rfl rfl rfl rfl ?_
      refine AOps.cons rfl rfl (q_pick) ?_
      refine AOps.cons rfl rfl (q_move) ?_
      refine AOps.gskip rfl rfl rfl rfl rfl rfl rfl rfl ?_
      refine AOps.gskip rfl rfl rfl rfl rfl rfl rfl rfl ?_
      refine AOps.gskip rfl rfl rfl rfl rfl rfl rfl rfl ?_
      refine AOps.gskip rfl rfl rfl rfl rfl rfl rfl rfl ?_
      refine AOps.gskip rfl rfl rfl rfl rfl rfl rfl rfl ?_
      refine AOps.cons rfl rfl (q_pick) ?_
      refine AOps.cons rfl rfl (q_assign) ?_
      refine AOps.nil ?_
      refine AWp.ret ?_
      show Fin te Try.f25 _ _
      refine q_ret (0) [_] [_] ?_
      exact congrArg tf (by simp [ansB, *])

set_option maxRecDepth 20000 in
set_option maxHeartbeats 2000000 in
theorem c_audit_Paired (l : List Ev) (lv : Nat) (h : EvsOk l) : AC Try.prog 10 [.fz lv l.length (cl evC l)] emp (Ret (tf (prd l))) := by
  obtain ⟨hb, hm⟩ := id h
  refine AC.intro te_ok (fn := Try.f10) ⟨Try.func10, rfl, rfl⟩ (Nat.le_of_ble_eq_true rfl) ?_
  refine AWp.seq ?_
  refine AWp.region ?_
  refine AOps.cons rfl rfl (q_assign) ?_
  refine AOps.nil ?_
  refine AWp.seq ?_
  refine AWp.region ?_
  refine AOps.cons rfl rfl (q_makeMap 200 MInt (fun b : Bool => tf b)) ?_
  refine AOps.cons rfl rfl (q_assign) ?_
  refine AOps.nil ?_
  refine AWp.seq ?_
  refine AWp.seq ?_
  refine AWp.region ?_
  refine AOps.cons rfl rfl (q_move) ?_
  refine AOps.cons rfl rfl (q_len) ?_
  refine AOps.cons rfl rfl (q_move) ?_
  refine AOps.nil ?_
  refine AWp.block ?_
  refine AWp.loopR (α := Nat × List (Int × Bool) × List Bool) [2, 4, 5, 6, 7, 8, 12, 13, 14, 15, 16, 17, 18, 19, 20, 21, 22, 23, 24, 25, 26, 27, 28, 29, 30, 31, 32, 33, 34, 35, 36, 37, 38, 39, 40, 41, 42, 43, 44, 45, 46, 47, 48, 49, 50, 51, 52, 53, 54, 55, 56, 57, 58, 59] (fun x_ => [(12, i64 (x_.1))]) (fun x_ => [(200, .map (me MInt (fun b : Bool => tf b) (x_.2.1)))]) (fun x_ => (x_.1) ≤ l.length ∧ Open l (x_.1) (x_.2.1) (x_.2.2) ∧ prdF l (l.length - (x_.1)) (x_.1) (x_.2.2) = prd l) (fun x_ => l.length - (x_.1)) (0, [], List.replicate l.length false) ?_ (Back.mk' (HasT.cons HasT.nil) (HasH.cons HasH.nil (h2 := by exact objIn_me (fun _ => rfl)) )) ?_
  · exact ⟨Nat.zero_le _, Open.start l, rfl⟩
  · rintro ⟨i, m, done⟩ hI3
    change i ≤ l.length ∧ Open l i m done ∧ prdF l (l.length - i) i done = prd l at hI3
    obtain ⟨hi, ho, hp⟩ := hI3
    refine AWp.as (s' := AS.over _ [2, 4, 5, 6, 7, 8, 12, 13, 14, 15, 16, 17, 18, 19, 20, 21, 22, 23, 24, 25, 26, 27, 28, 29, 30, 31, 32, 33, 34, 35, 36, 37, 38, 39, 40, 41, 42, 43, 44, 45, 46, 47, 48, 49, 50, 51, 52, 53, 54, 55, 56, 57, 58, 59] [(12, i64 i)] [(200, .map (me MInt (fun b : Bool => tf b) m))]) rfl ?_
    refine AWp.seq ?_
    refine AWp.region ?_
    refine AOps.dec rfl rfl (q_lss) (fun h3_0 => ?_) (fun h3_0 => ?_)
    · skip
      refine AOps.nil ?_
      refine AWp.seq ?_
      refine AWp.cond_t rfl ?_
      refine AWp.skip ?_
      refine AWp.seq ?_
      refine AWp.block ?_
      refine AWp.seq ?_
      refine AWp.region ?_
      have hsub : l.length - i = (l.length - (i + 1)) + 1 := by omega
      have hmi : MsgOk (l.getD i default).m := hm _ (getD_mem (by omega))
      refine AOps.cons rfl rfl (q_move) ?_
      refine AOps.cons rfl rfl (q_ix) ?_
      refine AOps.cons rfl rfl (q_load) ?_
      refine AOps.cons rfl rfl (q_alloc 503) ?_
      refine AOps.cons rfl rfl (q_assign) ?_
      refine AOps.cons rfl rfl (q_store) ?_
      refine AOps.nil ?_
      refine AWp.seq ?_
      refine AWp.seq ?_
      refine AWp.region ?_
      refine AOps.cons rfl rfl (q_fa) ?_
      refine AOps.bool rfl rfl (q_load) (fun h5_1 => ?_) (fun h5_1 => ?_)
      · skip
        refine AOps.cons rfl rfl (q_not) ?_
        refine AOps.nil ?_
        refine AWp.cond_f rfl ?_
        refine AWp.skip ?_
        refine AWp.seq ?_
        refine AWp.region ?_
        refine AOps.cons rfl rfl (q_assign) ?_
        refine AOps.nil ?_
        refine AWp.seq ?_
        refine AWp.seq ?_
        refine AWp.region ?_
        refine AOps.cons rfl rfl (q_move) ?_
        refine AOps.cons rfl rfl (q_move) ?_
        refine AOps.cons rfl rfl (q_sl) ?_
        refine AOps.cons rfl rfl (q_len) ?_
        refine AOps.cons rfl rfl (q_move) ?_
        refine AOps.nil ?_
        refine AWp.block ?_
        refine AWp.loopR (α := Nat) [6, 7, 8, 26, 27, 28, 29, 30, 31, 32, 33, 34, 35, 36, 37, 38, 39, 40] (fun j => [(26, i64 j), (6, i64 (-1))]) (fun j => []) (fun j => j ≤ i ∧ ∀ k, k < j → fitB l done (l.getD i default) k = false) (fun j => i - j) 0 ?_ (Back.mk' (HasT.cons (HasT.cons HasT.nil)) HasH.nil) ?_
        · exact ⟨Nat.zero_le _, fun k hk => absurd hk (Nat.not_lt_zero k)⟩
        · rintro j ⟨hji0, hj⟩
          refine AWp.seq ?_
          refine AWp.region ?_
          refine AOps.dec rfl rfl (q_lss) (fun h9_0 => ?_) (fun h9_0 => ?_)
          · skip
            refine AOps.nil ?_
            refine AWp.seq ?_
            refine AWp.cond_t rfl ?_
            refine AWp.skip ?_
            refine AWp.seq ?_
            refine AWp.block ?_
            refine AWp.seq ?_
            refine AWp.region ?_
            have hji : j < i := by have := h9_0; simp at this; omega
            have hgj : (l.take i).getD j default = l.getD j default := by rw [List.getD_eq_getElem?_getD, List.getD_eq_getElem?_getD, List.getElem?_take_of_lt hji]
            have hmj : MsgOk (l.getD j default).m := hm _ (getD_mem (by omega))
            refine AOps.cons rfl rfl (q_move) ?_
            refine AOps.cons rfl rfl (q_ix) ?_
            refine AOps.cons rfl rfl (q_load) ?_
            refine AOps.cons rfl rfl (q_alloc 1103) ?_
            refine AOps.cons rfl rfl (q_assign) ?_
            refine AOps.cons rfl rfl (q_store) ?_
            refine AOps.nil ?_
            refine AWp.seq ?_
            refine AWp.region ?_
            refine AOps.cons rfl rfl (q_move) ?_
            refine AOps.cons rfl rfl (q_move) ?_
            refine AOps.bool rfl rfl (q_lookup MInt) (fun h11_2 => ?_) (fun h11_2 => ?_)
            · skip
              refine AOps.cons rfl rfl (q_move) ?_
              refine AOps.gcons rfl rfl rfl rfl rfl (q_load) ?_
              refine AOps.gcons rfl rfl rfl rfl rfl (q_load) ?_
              refine AOps.gbool rfl rfl rfl rfl rfl (q_call (lv) (hc := (c_audit_answers ((l.take i).getD j default) (l.getD i default) (by rw [hgj]; exact hmj)))) (fun h11_6 => ?_) (fun h11_6 => ?_)
              · skip
                refine AOps.cons rfl rfl (q_pick) ?_
                refine AOps.nil ?_
                refine AWp.cond_t rfl ?_
                refine AWp.seq ?_
                refine AWp.region ?_
                refine AOps.cons rfl rfl (q_move) ?_
                refine AOps.cons rfl rfl (q_assign) ?_
                refine AOps.nil ?_
                refine AWp.exit ?_
                refine AWp.seq ?_
                refine AWp.seq ?_
                refine AWp.region ?_
                rw [hgj] at h11_6
                have hfj : fitB l done (l.getD i default) j = true := by rw [ho.fit hji, h11_2, h11_6]; rfl
                refine AOps.cons rfl rfl (q_move) ?_
                refine AOps.dec rfl rfl (q_lss) (fun h14_1 => ?_) (fun h14_1 => ?_)
                · exfalso; omega
                · skip
                  refine AOps.cons rfl rfl (q_move) ?_
                  refine AOps.gcons rfl rfl rfl rfl rfl (q_fa) ?_
                  refine AOps.gcons rfl rfl rfl rfl rfl (q_fa) ?_
                  refine AOps.gcons rfl rfl rfl rfl rfl (q_fa) ?_
                  refine AOps.gbool rfl rfl rfl rfl rfl (q_load) (fun h14_6 => ?_) (fun h14_6 => ?_)
                  · skip
                    refine AOps.gcons rfl rfl rfl rfl rfl (q_not) ?_
                    refine AOps.cons rfl rfl (q_pick) ?_
                    refine AOps.cons rfl rfl (q_move) ?_
                    refine AOps.gcons rfl rfl rfl rfl rfl (q_fa) ?_
                    refine AOps.gcons rfl rfl rfl rfl rfl (q_fa) ?_
                    refine AOps.gcons rfl rfl rfl rfl rfl (q_fa) ?_
                    refine AOps.gbool rfl rfl rfl rfl rfl (q_load) (fun h14_13 => ?_) (fun h14_13 => ?_)
                    · skip
                      refine AOps.gcons rfl rfl rfl rfl rfl (q_not) ?_
                      refine AOps.cons rfl rfl (q_pick) ?_
                      refine AOps.nil ?_
                      refine AWp.cond_f rfl ?_
                      refine AWp.skip ?_
                      refine AWp.region ?_
                      have hok : okB (l.getD i default) = true := by
                        have e6 : (l.getD i default).m.h.resp = true := h14_6
                        have e7 : (l.getD i default).m.h.ra = true := h14_13
                        rw [okB, e6, e7]; rfl
                      refine AOps.cons rfl rfl (q_move) ?_
                      refine AOps.cons rfl rfl (q_move) ?_
                      refine AOps.cons rfl rfl (q_delete MInt) ?_
                      refine AOps.nil ?_
                      refine AWp.region ?_
                      refine AOps.cons rfl rfl (q_add) ?_
                      refine AOps.cons rfl rfl (q_move) ?_
                      refine AOps.nil ?_
                      refine ⟨(i + 1, mdel m j, done.set j true), ?_, Back.mk' (HasT.cons HasT.nil) (HasH.cons HasH.nil (h2 := by exact objIn_me (fun _ => rfl)) ), ?_⟩
                      · try dsimp only
                        exact ⟨by omega, ho.reply hji (by omega) h5_1, by rw [← hp, hsub, prdF_yes (i := i) h5_1 hji hfj hj, hok, if_pos rfl]⟩
                      · try dsimp only
                        first | omega | (simp; omega)
                    · skip
                      refine AOps.gcons rfl rfl rfl rfl rfl (q_not) ?_
                      refine AOps.cons rfl rfl (q_pick) ?_
                      refine AOps.nil ?_
                      refine AWp.cond_t rfl ?_
                      refine AWp.seq ?_
                      refine AWp.region ?_
                      refine AOps.cons rfl rfl (q_assign) ?_
                      refine AOps.nil ?_
                      refine AWp.ret ?_
                      show Fin te Try.f10 _ _
                      have hok : okB (l.getD i default) = false := by
                        have e6 := h14_13
                        simp only [okB]
                        first | (have e7 : (l.getD i default).m.h.resp = false := e6; rw [e7]; rfl) | (have e7 : (l.getD i default).m.h.ra = false := e6; rw [e7, Bool.and_false])
                      rw [← hp, hsub, prdF_yes (i := i) h5_1 hji hfj hj, hok]
                      refine q_ret (lv) [_] [_] ?_
                      rfl
                  · skip
                    refine AOps.gcons rfl rfl rfl rfl rfl (q_not) ?_
                    refine AOps.cons rfl rfl (q_pick) ?_
                    refine AOps.cons rfl rfl (q_move) ?_
                    refine AOps.gskip rfl rfl rfl rfl rfl rfl rfl rfl ?_
                    refine AOps.gskip rfl rfl rfl rfl rfl rfl rfl rfl ?_
                    refine AOps.gskip rfl rfl rfl rfl rfl rfl rfl rfl ?_
                    refine AOps.gskip rfl rfl rfl rfl rfl rfl rfl rfl ?_
                    refine AOps.gskip rfl rfl rfl rfl rfl rfl rfl rfl ?_
                    refine AOps.cons rfl rfl (q_pick) ?_
                    refine AOps.nil ?_
                    refine AWp.cond_t rfl ?_
                    refine AWp.seq ?_
                    refine AWp.region ?_
                    refine AOps.cons rfl rfl (q_assign) ?_
                    refine AOps.nil ?_
                    refine AWp.ret ?_
                    show Fin te Try.f10 _ _
                    have hok : okB (l.getD i default) = false := by
                      have e6 := h14_6
                      simp only [okB]
                      first | (have e7 : (l.getD i default).m.h.resp = false := e6; rw [e7]; rfl) | (have e7 : (l.getD i default).m.h.ra = false := e6; rw [e7, Bool.and_false])
                    rw [← hp, hsub, prdF_yes (i := i) h5_1 hji hfj hj, hok]
                    refine q_ret (lv) [_] [_] ?_
                    rfl
              · skip
                refine AOps.cons rfl rfl (q_pick) ?_
                refine AOps.nil ?_
                refine AWp.cond_f rfl ?_
                refine AWp.skip ?_
                refine AWp.region ?_
                refine AOps.cons rfl rfl (q_add) ?_
                refine AOps.cons rfl rfl (q_move) ?_
                refine AOps.nil ?_
                rw [hgj] at h11_6
                refine ⟨j + 1, ?_, Back.mk' (HasT.cons (HasT.cons HasT.nil)) HasH.nil, ?_⟩
                · refine ⟨by omega, fun k hk => ?_⟩
                  by_cases e : k = j
                  · subst e; rw [ho.fit hji, h11_2, h11_6]; rfl
                  · exact hj k (by omega)
                · first | omega | (simp; omega)
            · skip
              refine AOps.cons rfl rfl (q_move) ?_
              refine AOps.gskip rfl rfl rfl rfl rfl rfl rfl rfl ?_
              refine AOps.gskip rfl rfl rfl rfl rfl rfl rfl rfl ?_
              refine AOps.gskip rfl rfl rfl rfl rfl rfl rfl rfl ?_
              refine AOps.cons rfl rfl (q_pick) ?_
              refine AOps.nil ?_
              refine AWp.cond_f rfl ?_
              refine AWp.skip ?_
              refine AWp.region ?_
              refine AOps.cons rfl rfl (q_add) ?_
              refine AOps.cons rfl rfl (q_move) ?_
              refine AOps.nil ?_
              refine ⟨j + 1, ?_, Back.mk' (HasT.cons (HasT.cons HasT.nil)) HasH.nil, ?_⟩
              · refine ⟨by omega, fun k hk => ?_⟩
                by_cases e : k = j
                · subst e; rw [ho.fit hji, h11_2]; rfl
                · exact hj k (by omega)
              · first | omega | (simp; omega)
          · skip
            refine AOps.nil ?_
            refine AWp.seq ?_
            refine AWp.cond_f rfl ?_
            refine AWp.exit ?_
            refine AWp.seq ?_
            refine AWp.seq ?_
            refine AWp.region ?_
            refine AOps.cons rfl rfl (q_move) ?_
            refine AOps.dec rfl rfl (q_lss) (fun h14_1 => ?_) (fun h14_1 => ?_)
            · skip
              refine AOps.cons rfl rfl (q_move) ?_
              refine AOps.gskip rfl rfl rfl rfl rfl rfl rfl rfl ?_
              refine AOps.gskip rfl rfl rfl rfl rfl rfl rfl rfl ?_
              refine AOps.gskip rfl rfl rfl rfl rfl rfl rfl rfl ?_
              refine AOps.gskip rfl rfl rfl rfl rfl rfl rfl rfl ?_
              refine AOps.gskip rfl rfl rfl rfl rfl rfl rfl rfl ?_
              refine AOps.cons rfl rfl (q_pick) ?_
              refine AOps.cons rfl rfl (q_move) ?_
              refine AOps.gskip rfl rfl rfl rfl rfl rfl rfl rfl ?_
              refine AOps.gskip rfl rfl rfl rfl rfl rfl rfl rfl ?_
              refine AOps.gskip rfl rfl rfl rfl rfl rfl rfl rfl ?_
              refine AOps.gskip rfl rfl rfl rfl rfl rfl rfl rfl ?_
              refine AOps.gskip rfl rfl rfl rfl rfl rfl rfl rfl ?_
              refine AOps.cons rfl rfl (q_pick) ?_
              refine AOps.nil ?_
              refine AWp.cond_t rfl ?_
              refine AWp.seq ?_
              refine AWp.region ?_
              refine AOps.cons rfl rfl (q_assign) ?_
              refine AOps.nil ?_
              refine AWp.ret ?_
              show Fin te Try.f10 _ _
              obtain rfl : j = i := by simp at h9_0; omega
              rw [← hp, hsub, prdF_no (i := j) h5_1 hj]
              refine q_ret (lv) [_] [_] ?_
              rfl
            · exfalso; exact h14_1 (by decide)
      · skip
        refine AOps.cons rfl rfl (q_not) ?_
        refine AOps.nil ?_
        refine AWp.cond_t rfl ?_
        refine AWp.seq ?_
        refine AWp.region ?_
        refine AOps.cons rfl rfl (q_move) ?_
        refine AOps.cons rfl rfl (q_move) ?_
        refine AOps.cons rfl rfl (q_mapUpdate MInt true) ?_
        refine AOps.nil ?_
        refine AWp.exit ?_
        refine AWp.region ?_
        refine AOps.cons rfl rfl (q_add) ?_
        refine AOps.cons rfl rfl (q_move) ?_
        refine AOps.nil ?_
        refine ⟨(i + 1, mput m i true, done), ?_, Back.mk' (HasT.cons HasT.nil) (HasH.cons HasH.nil (h2 := by exact objIn_me (fun _ => rfl)) ), ?_⟩
        · try dsimp only
          exact ⟨by omega, ho.query h5_1, by rw [← hp, hsub, prdF_q (i := i) h5_1]⟩
        · try dsimp only
          first | omega | (simp; omega)
    · skip
      refine AOps.nil ?_
      refine AWp.seq ?_
      refine AWp.cond_f rfl ?_
      refine AWp.exit ?_
      refine AWp.seq ?_
      refine AWp.region ?_
      refine AOps.cons rfl rfl (q_assign) ?_
      refine AOps.nil ?_
      refine AWp.ret ?_
      show Fin te Try.f10 _ _
      obtain rfl : i = l.length := by omega
      rw [← hp, Nat.sub_self]
      refine q_ret (lv) [_] [_] ?_
      rfl

end Go.Proofs.Ytaemmklgofddmaa.Fw

/- Messages as arguments of laws. -/
set_option linter.unusedVariables false
set_option linter.unusedSimpArgs false
namespace Go.Proofs.Ytaemmklgofddmaa.Fw
open Go.RowKit


section
variable {d : Nat} {s n b u : TypeId} {is in' ib iu : TI}
theorem has_rr {t y : TypeId} {it iy : TI} {cs : List AV} (h : Has te (d + 2) t cs) (ht : te.get t = some it) (kt : it.k = .struct [(0, s), (1, n), (2, n), (3, n), (4, y)]) (hs : te.get s = some is) (ks : is.k = .str) (hn : te.get n = some in') (kn : in'.k = .int .i64)
    (hy : te.get y = some iy) (ky : iy.k = .slice u) (hu : te.get u = some iu) (ku : iu.k = .int .u8) (bu : iu.bytes = 1) : ∃ x : Rr, cs = rrc x ∧ x.da.length ≤ 140737488351232 := by
  obtain ⟨_, w, rfl, q, hh⟩ := has_struct h ht kt
  obtain ⟨a1, rfl, _⟩ := has_str q hs ks
  obtain ⟨_, w, rfl, q, hh⟩ := hh
  obtain ⟨a2, rfl, _⟩ := has_int q hn kn
  obtain ⟨_, w, rfl, q, hh⟩ := hh
  obtain ⟨a3, rfl, _⟩ := has_int q hn kn
  obtain ⟨_, w, rfl, q, hh⟩ := hh
  obtain ⟨a4, rfl, _⟩ := has_int q hn kn
  obtain ⟨_, w, rfl, q, hh⟩ := hh
  obtain ⟨a5, rfl, h5⟩ := has_bytes q hy ky hu ku bu
  cases hh
  exact ⟨⟨a1, a2, a3, a4, a5⟩, rfl, h5⟩
theorem has_qu {t : TypeId} {it : TI} {cs : List AV} (h : Has te (d + 1) t cs) (ht : te.get t = some it) (kt : it.k = .struct [(0, s), (1, n), (2, n)]) (hs : te.get s = some is) (ks : is.k = .str) (hn : te.get n = some in') (kn : in'.k = .int .i64) : ∃ x : Qu, cs = quc x ∧ True := by
  obtain ⟨_, w, rfl, q, hh⟩ := has_struct h ht kt
  obtain ⟨a1, rfl, _⟩ := has_str q hs ks
  obtain ⟨_, w, rfl, q, hh⟩ := hh
  obtain ⟨a2, rfl, _⟩ := has_int q hn kn
  obtain ⟨_, w, rfl, q, hh⟩ := hh
  obtain ⟨a3, rfl, _⟩ := has_int q hn kn
  cases hh
  exact ⟨⟨a1, a2, a3⟩, rfl, trivial⟩
theorem has_rrs {t r y : TypeId} {it ir iy : TI} {cs : List AV} (h : Has te (d + 3) t cs) (ht : te.get t = some it) (kt : it.k = .slice r) (hr : te.get r = some ir) (kr : ir.k = .struct [(0, s), (1, n), (2, n), (3, n), (4, y)]) (br : ir.bytes = 64)
    (hs : te.get s = some is) (ks : is.k = .str) (hn : te.get n = some in') (kn : in'.k = .int .i64) (hy : te.get y = some iy) (ky : iy.k = .slice u) (hu : te.get u = some iu) (ku : iu.k = .int .u8) (bu : iu.bytes = 1) : ∃ l : List Rr, cs = [.fz 0 l.length (cl rrc l)] ∧ RrsOk l := by
  obtain ⟨l, h1, h2, h3⟩ := has_sl (f := rrc) (q := fun x => x.da.length ≤ 140737488351232) h ht kt hr fun c hc => has_rr hc hr kr hs ks hn kn hy ky hu ku bu
  exact ⟨l, h1, by rw [br] at h2; exact h2, h3⟩
theorem has_qus {t r : TypeId} {it ir : TI} {cs : List AV} (h : Has te (d + 2) t cs) (ht : te.get t = some it) (kt : it.k = .slice r) (hr : te.get r = some ir) (kr : ir.k = .struct [(0, s), (1, n), (2, n)]) (br : ir.bytes = 32)
    (hs : te.get s = some is) (ks : is.k = .str) (hn : te.get n = some in') (kn : in'.k = .int .i64) : ∃ l : List Qu, cs = [.fz 0 l.length (cl quc l)] ∧ l.length * 32 ≤ 140737488351232 := by
  obtain ⟨l, h1, h2, h3⟩ := has_sl (f := quc) (q := fun _ => True) h ht kt hr fun c hc => has_qu hc hr kr hs ks hn kn
  exact ⟨l, h1, by rw [br] at h2; exact h2⟩
theorem has_hdr {t : TypeId} {it : TI} {cs : List AV} (h : Has te (d + 1) t cs) (ht : te.get t = some it) (kt : it.k = .struct [(0, n), (1, b), (2, n), (3, b), (4, b), (5, b), (6, b), (7, n)]) (hn : te.get n = some in') (kn : in'.k = .int .i64) (hb : te.get b = some ib) (kb : ib.k = .bool) :
    ∃ x : Hdr, cs = [i64 x.id, tf x.resp, i64 x.op, tf x.aa, tf x.tc, tf x.rd, tf x.ra, i64 x.code] ∧ (-9223372036854775808 ≤ x.id ∧ x.id ≤ 9223372036854775807) ∧ (-9223372036854775808 ≤ x.op ∧ x.op ≤ 9223372036854775807) ∧ (-9223372036854775808 ≤ x.code ∧ x.code ≤ 9223372036854775807) := by
  obtain ⟨_, w, rfl, q, hh⟩ := has_struct h ht kt
  obtain ⟨a1, rfl, b1⟩ := has_int q hn kn
  obtain ⟨_, w, rfl, q, hh⟩ := hh
  obtain ⟨a2, rfl⟩ := has_bool q hb kb
  obtain ⟨_, w, rfl, q, hh⟩ := hh
  obtain ⟨a3, rfl, b3⟩ := has_int q hn kn
  obtain ⟨_, w, rfl, q, hh⟩ := hh
  obtain ⟨a4, rfl⟩ := has_bool q hb kb
  obtain ⟨_, w, rfl, q, hh⟩ := hh
  obtain ⟨a5, rfl⟩ := has_bool q hb kb
  obtain ⟨_, w, rfl, q, hh⟩ := hh
  obtain ⟨a6, rfl⟩ := has_bool q hb kb
  obtain ⟨_, w, rfl, q, hh⟩ := hh
  obtain ⟨a7, rfl⟩ := has_bool q hb kb
  obtain ⟨_, w, rfl, q, hh⟩ := hh
  obtain ⟨a8, rfl, b8⟩ := has_int q hn kn
  cases hh
  exact ⟨⟨a1, a2, a3, a4, a5, a6, a7, a8⟩, rfl, b1, b3, b8⟩
theorem has_msg {t th tq tr r q y : TypeId} {it ith itq itr ir iq iy : TI} {cs : List AV} (h : Has te (d + 4) t cs) (ht : te.get t = some it) (kt : it.k = .struct [(0, th), (8, tq), (9, tr), (10, tr), (11, tr)])
    (hth : te.get th = some ith) (kth : ith.k = .struct [(0, n), (1, b), (2, n), (3, b), (4, b), (5, b), (6, b), (7, n)]) (htq : te.get tq = some itq) (ktq : itq.k = .slice q) (hq : te.get q = some iq) (kq : iq.k = .struct [(0, s), (1, n), (2, n)]) (bq : iq.bytes = 32)
    (htr : te.get tr = some itr) (ktr : itr.k = .slice r) (hr : te.get r = some ir) (kr : ir.k = .struct [(0, s), (1, n), (2, n), (3, n), (4, y)]) (br : ir.bytes = 64)
    (hs : te.get s = some is) (ks : is.k = .str) (hn : te.get n = some in') (kn : in'.k = .int .i64) (hb : te.get b = some ib) (kb : ib.k = .bool) (hy : te.get y = some iy) (ky : iy.k = .slice u) (hu : te.get u = some iu) (ku : iu.k = .int .u8) (bu : iu.bytes = 1) :
    ∃ m : Msg, cs = msgC m ∧ MsgOk m := by
  obtain ⟨_, w, rfl, q1, hh⟩ := has_struct h ht kt
  obtain ⟨a1, rfl, _⟩ := has_hdr q1 hth kth hn kn hb kb
  obtain ⟨_, w, rfl, q1, hh⟩ := hh
  obtain ⟨a2, rfl, b2⟩ := has_qus q1 htq ktq hq kq bq hs ks hn kn
  obtain ⟨_, w, rfl, q1, hh⟩ := hh
  obtain ⟨a3, rfl, b3⟩ := has_rrs q1 htr ktr hr kr br hs ks hn kn hy ky hu ku bu
  obtain ⟨_, w, rfl, q1, hh⟩ := hh
  obtain ⟨a4, rfl, b4⟩ := has_rrs q1 htr ktr hr kr br hs ks hn kn hy ky hu ku bu
  obtain ⟨_, w, rfl, q1, hh⟩ := hh
  obtain ⟨a5, rfl, b5⟩ := has_rrs q1 htr ktr hr kr br hs ks hn kn hy ky hu ku bu
  cases hh
  exact ⟨⟨a1, a2, a3, a4, a5⟩, rfl, b2, b3, b4, b5⟩
end

end Go.Proofs.Ytaemmklgofddmaa.Fw

/- Walk of layer 24's law AuditBare. -/
set_option linter.unusedVariables false
set_option linter.unusedSimpArgs false
namespace Go.Proofs.Ytaemmklgofddmaa.Fw
open Go.RowKit


theorem prdF_bare {l : List Ev} (h : ∀ x ∈ l, x.rp = false) : ∀ (n i : Nat) (done : List Bool), prdF l n i done = true
  | 0, _, _ => rfl
  | n + 1, i, done => by
    have hq : (l.getD i default).rp = false := by
      by_cases hi : i < l.length
      · exact h _ (getD_mem hi)
      · rw [List.getD_eq_getElem?_getD, List.getElem?_eq_none (by omega)]; rfl
    rw [prdF_q hq]; exact prdF_bare h n (i + 1) done
theorem prd_bare {l : List Ev} (h : ∀ x ∈ l, x.rp = false) : prd l = true := prdF_bare h _ _ _
theorem has_any {d : Nat} {t e : TypeId} {i : TI} {cs : List AV} (h : Has te (d + 1) t cs) (ht : te.get t = some i) (kt : i.k = .slice e) : ∃ (n : Nat) (c : List AV), cs = [.fz 0 n c] := by
  simp only [Has, ht, kt] at h
  obtain ⟨es, _, _, h3⟩ := h
  exact ⟨_, _, h3⟩
def bareE (x : Ev) : Ev := ⟨false, x.st, x.tm, x.m⟩

set_option maxRecDepth 20000 in
set_option maxHeartbeats 2000000 in
theorem c_Backed_bare (l : List Ev) (lv n : Nat) (cs : List AV) (h : ∀ x ∈ l, x.rp = false) (hl : l.length ≤ 140737488351232) : AC Try.prog 11 [.fz lv l.length (cl evC l), .fz 0 n cs] emp (Ret (tf true)) := by
  refine AC.intro te_ok (fn := Try.f11) ⟨Try.func11, rfl, rfl⟩ (Nat.le_of_ble_eq_true rfl) ?_
  refine AWp.seq ?_
  refine AWp.region ?_
  refine AOps.cons rfl rfl (q_box 100) ?_
  refine AOps.cons rfl rfl (q_assign) ?_
  refine AOps.nil ?_
  refine AWp.seq ?_
  refine AWp.seq ?_
  refine AWp.region ?_
  refine AOps.cons rfl rfl (q_move) ?_
  refine AOps.cons rfl rfl (q_len) ?_
  refine AOps.cons rfl rfl (q_move) ?_
  refine AOps.nil ?_
  refine AWp.block ?_
  refine AWp.loopR (α := Nat) [4, 6, 7, 10, 11, 12, 13, 14, 15, 16, 17, 18, 19, 20, 21, 22, 23, 24, 25, 26, 27, 28, 29] (fun i => [(10, i64 i)]) (fun i => []) (fun i => i ≤ l.length) (fun i => l.length - i) 0 ?_ (Back.mk' (HasT.cons HasT.nil) HasH.nil) ?_
  · exact Nat.zero_le _
  · rintro i hi
    refine AWp.seq ?_
    refine AWp.region ?_
    refine AOps.dec rfl rfl (q_lss) (fun h2_0 => ?_) (fun h2_0 => ?_)
    · skip
      refine AOps.nil ?_
      refine AWp.seq ?_
      refine AWp.cond_t rfl ?_
      refine AWp.skip ?_
      refine AWp.seq ?_
      refine AWp.block ?_
      refine AWp.seq ?_
      refine AWp.region ?_
      refine AOps.cons rfl rfl (q_ix) ?_
      refine AOps.cons rfl rfl (q_load) ?_
      refine AOps.cons rfl rfl (q_alloc 402) ?_
      refine AOps.cons rfl rfl (q_store) ?_
      refine AOps.nil ?_
      refine AWp.seq ?_
      refine AWp.region ?_
      refine AOps.cons rfl rfl (q_makeFunc [] [_, _]) ?_
      refine AOps.cons rfl rfl (q_assign) ?_
      refine AOps.nil ?_
      refine AWp.seq ?_
      refine AWp.region ?_
      have hr : (l.getD (i : Int).toNat default).rp = false := h _ (getD_mem (by simpa using h2_0))
      refine AOps.cons rfl rfl (q_fa) ?_
      refine AOps.cons rfl rfl ((OpOk.bool_is (c := false) (q_load) (hr))) ?_
      refine AOps.cons rfl rfl (q_move) ?_
      refine AOps.gskip rfl rfl rfl rfl rfl rfl rfl rfl ?_
      refine AOps.gskip rfl rfl rfl rfl rfl rfl rfl rfl ?_
      refine AOps.gskip rfl rfl rfl rfl rfl rfl rfl rfl ?_
      refine AOps.gskip rfl rfl rfl rfl rfl rfl rfl rfl ?_
      refine AOps.gskip rfl rfl rfl rfl rfl rfl rfl rfl ?_
      refine AOps.gskip rfl rfl rfl rfl rfl rfl rfl rfl ?_
      refine AOps.gskip rfl rfl rfl rfl rfl rfl rfl rfl ?_
      refine AOps.gskip rfl rfl rfl rfl rfl rfl rfl rfl ?_
      refine AOps.gskip rfl rfl rfl rfl rfl rfl rfl rfl ?_
      refine AOps.gskip rfl rfl rfl rfl rfl rfl rfl rfl ?_
      refine AOps.cons rfl rfl (q_pick) ?_
      refine AOps.nil ?_
      refine AWp.cond_f rfl ?_
      refine AWp.skip ?_
      refine AWp.region ?_
      refine AOps.cons rfl rfl (q_add) ?_
      refine AOps.cons rfl rfl (q_move) ?_
      refine AOps.nil ?_
      refine ⟨i + 1, ?_, Back.mk' (HasT.cons HasT.nil) HasH.nil, ?_⟩
      · first | assumption | omega | decide | (simp; omega) | (simp [*]; done)
      · first | omega | (simp; omega)
    · skip
      refine AOps.nil ?_
      refine AWp.seq ?_
      refine AWp.cond_f rfl ?_
      refine AWp.exit ?_
      refine AWp.seq ?_
      refine AWp.region ?_
      refine AOps.cons rfl rfl (q_assign) ?_
      refine AOps.nil ?_
      refine AWp.ret ?_
      show Fin te Try.f11 _ _
      refine q_ret (0) [_] [_] ?_
      rfl

set_option maxRecDepth 20000 in
set_option maxHeartbeats 2000000 in
theorem c_ciceronelaw24_AuditBare (l : List Ev) (n : Nat) (cs : List AV) (h : EvsOk l) : AC Try.prog 3 [.fz 0 l.length (cl evC l), .fz 0 n cs] emp (Ret (tf true)) := by
  obtain ⟨hb, hm⟩ := id h
  refine AC.intro te_ok (fn := Try.f3) ⟨Try.func3, rfl, rfl⟩ (Nat.le_of_ble_eq_true rfl) ?_
  refine AWp.seq ?_
  refine AWp.region ?_
  refine AOps.cons rfl rfl (q_assign) ?_
  refine AOps.nil ?_
  refine AWp.seq ?_
  refine AWp.region ?_
  refine AOps.cons rfl rfl (q_nilrow 200 15 evC) ?_
  refine AOps.nil ?_
  refine AWp.seq ?_
  refine AWp.seq ?_
  refine AWp.region ?_
  refine AOps.cons rfl rfl (q_move) ?_
  refine AOps.cons rfl rfl (q_len) ?_
  refine AOps.cons rfl rfl (q_move) ?_
  refine AOps.nil ?_
  refine AWp.block ?_
  refine AWp.loopR (α := Nat × List Ev × Nat) [5, 6, 7, 10, 11, 12, 13, 14, 15, 16, 17, 18, 19, 20, 21, 22] (fun x_ => [(10, i64 (x_.1)), (5, .sl 200 (x_.2.2) 0 (x_.2.1).length 15)]) (fun x_ => [(200, .row (cl evC (x_.2.1)) 15 (x_.2.2))]) (fun x_ => (x_.1) ≤ l.length ∧ (x_.2.1).length ≤ 40 ∧ (x_.2.1).length ≤ (x_.1) ∧ ∀ x ∈ (x_.2.1), x.rp = false ∧ MsgOk x.m) (fun x_ => l.length - (x_.1)) (0, [], 0) ?_ (Back.mk' (HasT.cons (HasT.cons HasT.nil)) (HasH.cons HasH.nil)) ?_
  · exact ⟨Nat.zero_le _, by simp, by simp, by intro x hx; cases hx⟩
  · rintro ⟨i, acc, v⟩ hI3
    change i ≤ l.length ∧ acc.length ≤ 40 ∧ acc.length ≤ i ∧ ∀ x ∈ acc, x.rp = false ∧ MsgOk x.m at hI3
    obtain ⟨hi, ha, hai, hx⟩ := hI3
    refine AWp.as (s' := AS.over _ [5, 6, 7, 10, 11, 12, 13, 14, 15, 16, 17, 18, 19, 20, 21, 22] [(10, i64 i), (5, .sl 200 v 0 acc.length 15)] [(200, .row (cl evC acc) 15 v)]) rfl ?_
    refine AWp.seq ?_
    refine AWp.region ?_
    refine AOps.dec rfl rfl (q_lss) (fun h3_0 => ?_) (fun h3_0 => ?_)
    · skip
      refine AOps.nil ?_
      refine AWp.seq ?_
      refine AWp.cond_t rfl ?_
      refine AWp.skip ?_
      refine AWp.seq ?_
      refine AWp.block ?_
      refine AWp.seq ?_
      refine AWp.region ?_
      refine AOps.cons rfl rfl (q_move) ?_
      refine AOps.cons rfl rfl (q_ix) ?_
      refine AOps.cons rfl rfl (q_load) ?_
      refine AOps.cons rfl rfl (q_alloc 503) ?_
      refine AOps.cons rfl rfl (q_assign) ?_
      refine AOps.cons rfl rfl (q_store) ?_
      refine AOps.nil ?_
      refine AWp.seq ?_
      refine AWp.region ?_
      refine AOps.cons rfl rfl (q_move) ?_
      refine AOps.dec rfl rfl (q_lss) (fun h5_1 => ?_) (fun h5_1 => ?_)
      · skip
        refine AOps.nil ?_
        refine AWp.cond_t rfl ?_
        refine AWp.seq ?_
        refine AWp.region ?_
        refine AOps.cons rfl rfl (q_fa) ?_
        refine AOps.cons rfl rfl (q_store) ?_
        refine AOps.nil ?_
        refine AWp.region ?_
        refine AOps.cons rfl rfl (q_move) ?_
        refine AOps.cons rfl rfl (q_load) ?_
        refine AOps.cons rfl rfl (q_bs 802 evC [bareE (l.getD i default)] [(_, _)]) ?_
        refine AOps.cons rfl rfl (q_app) ?_
        refine AOps.cons rfl rfl (q_assign) ?_
        refine AOps.nil ?_
        refine AWp.region ?_
        refine AOps.cons rfl rfl (q_add) ?_
        refine AOps.cons rfl rfl (q_move) ?_
        refine AOps.nil ?_
        refine ⟨(i + 1, acc ++ [bareE (l.getD i default)], v + 1), ?_, Back.mk' (HasT.cons (HasT.cons HasT.nil)) (HasH.cons HasH.nil), ?_⟩
        · try dsimp only
          exact ⟨by omega, by simp; omega, by simp; omega, fun x hq => by
            rcases List.mem_append.1 hq with hq | hq
            · exact hx x hq
            · rw [List.mem_singleton] at hq; subst hq; exact ⟨rfl, hm (l.getD i default) (getD_mem (by omega))⟩⟩
        · try dsimp only
          first | omega | (simp; omega)
      · skip
        refine AOps.nil ?_
        refine AWp.cond_f rfl ?_
        refine AWp.skip ?_
        refine AWp.region ?_
        refine AOps.cons rfl rfl (q_add) ?_
        refine AOps.cons rfl rfl (q_move) ?_
        refine AOps.nil ?_
        refine ⟨(i + 1, acc, v), ?_, Back.mk' (HasT.cons (HasT.cons HasT.nil)) (HasH.cons HasH.nil), ?_⟩
        · try dsimp only
          exact ⟨by omega, ha, by omega, hx⟩
        · try dsimp only
          first | omega | (simp; omega)
    · skip
      refine AOps.nil ?_
      refine AWp.seq ?_
      refine AWp.cond_f rfl ?_
      refine AWp.exit ?_
      refine AWp.seq ?_
      refine AWp.region ?_
      have hev : EvsOk acc := ⟨by omega, fun x hq => (hx x hq).2⟩
      refine AOps.cons rfl rfl (q_move) ?_
      refine AOps.cons rfl rfl ((OpOk.bool_is (c := true) (q_call (0) (hc := (c_audit_Paired acc 1 hev))) (prd_bare (fun x hq => (hx x hq).1)))) ?_
      refine AOps.cons rfl rfl (q_move) ?_
      refine AOps.gcons rfl rfl rfl rfl rfl (q_move) ?_
      refine AOps.gcons rfl rfl rfl rfl rfl (q_move) ?_
      refine AOps.gcons rfl rfl rfl rfl rfl ((OpOk.bool_is (c := true) (q_call (0) (hc := (c_Backed_bare acc 1 n cs (fun x hq => (hx x hq).1) (by omega)))) (rfl))) ?_
      refine AOps.cons rfl rfl (q_pick) ?_
      refine AOps.cons rfl rfl (q_assign) ?_
      refine AOps.nil ?_
      refine AWp.ret ?_
      show Fin te Try.f3 _ _
      refine q_ret (0) [_] [_] ?_
      rfl

end Go.Proofs.Ytaemmklgofddmaa.Fw

/- Events as arguments of laws. -/
set_option linter.unusedVariables false
set_option linter.unusedSimpArgs false
namespace Go.Proofs.Ytaemmklgofddmaa.Fw
open Go.RowKit


theorem has_evs {d : Nat} {tl e t th tq tr r q y s n b u : TypeId} {itl ie it ith itq itr ir iq iy is in' ib iu : TI} {cs : List AV} (h : Has te (d + 6) tl cs) (htl : te.get tl = some itl) (ktl : itl.k = .slice e) (he : te.get e = some ie) (ke : ie.k = .struct [(0, b), (1, n), (2, n), (3, t)]) (be : ie.bytes = 160)
    (ht : te.get t = some it) (kt : it.k = .struct [(0, th), (8, tq), (9, tr), (10, tr), (11, tr)])
    (hth : te.get th = some ith) (kth : ith.k = .struct [(0, n), (1, b), (2, n), (3, b), (4, b), (5, b), (6, b), (7, n)]) (htq : te.get tq = some itq) (ktq : itq.k = .slice q) (hq : te.get q = some iq) (kq : iq.k = .struct [(0, s), (1, n), (2, n)]) (bq : iq.bytes = 32)
    (htr : te.get tr = some itr) (ktr : itr.k = .slice r) (hr : te.get r = some ir) (kr : ir.k = .struct [(0, s), (1, n), (2, n), (3, n), (4, y)]) (br : ir.bytes = 64)
    (hs : te.get s = some is) (ks : is.k = .str) (hn : te.get n = some in') (kn : in'.k = .int .i64) (hb : te.get b = some ib) (kb : ib.k = .bool) (hy : te.get y = some iy) (ky : iy.k = .slice u) (hu : te.get u = some iu) (ku : iu.k = .int .u8) (bu : iu.bytes = 1) :
    ∃ l : List Ev, cs = [.fz 0 l.length (cl evC l)] ∧ EvsOk l := by
  obtain ⟨l, h1, h2, h3⟩ := has_sl (f := evC) (q := fun x => MsgOk x.m) h htl ktl he fun c hc => by
    obtain ⟨_, w, rfl, q1, hh⟩ := has_struct hc he ke
    obtain ⟨a1, rfl⟩ := has_bool q1 hb kb
    obtain ⟨_, w, rfl, q1, hh⟩ := hh
    obtain ⟨a2, rfl, _⟩ := has_int q1 hn kn
    obtain ⟨_, w, rfl, q1, hh⟩ := hh
    obtain ⟨a3, rfl, _⟩ := has_int q1 hn kn
    obtain ⟨_, w, rfl, q1, hh⟩ := hh
    obtain ⟨m, rfl, hm⟩ := has_msg q1 ht kt hth kth htq ktq hq kq bq htr ktr hr kr br hs ks hn kn hb kb hy ky hu ku bu
    cases hh
    exact ⟨⟨a1, a2, a3, m⟩, by rw [List.append_nil]; rfl, hm⟩
  exact ⟨l, h1, by rw [be] at h2; exact h2, h3⟩

end Go.Proofs.Ytaemmklgofddmaa.Fw

