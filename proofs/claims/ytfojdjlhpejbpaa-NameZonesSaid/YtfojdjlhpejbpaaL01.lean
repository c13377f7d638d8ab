/- Walks of layer 1's laws. -/
import Derived.Test.YtfojdjlhpejbpaaW01c
import Derived.Test.YtfojdjlhpejbpaaQ7
set_option linter.unusedVariables false
set_option linter.unusedSimpArgs false
namespace Go.Proofs.Ytfojdjlhpejbpaa.Fw
open Go.RowKit

theorem bl_irrefl : ∀ x : List UInt8, Op.bytesLess x x = false
  | [] => rfl
  | a :: x => by simp [Op.bytesLess, bl_irrefl x]
theorem bl_total : ∀ {x y : List UInt8}, Op.bytesLess x y = false → Op.bytesLess y x = false → x = y
  | [], [], _, _ => rfl
  | [], _ :: _, h, _ => by simp [Op.bytesLess] at h
  | _ :: _, [], _, h => by simp [Op.bytesLess] at h
  | a :: x, b :: y, h1, h2 => by
    simp only [Op.bytesLess, Bool.or_eq_false_iff, Bool.and_eq_false_imp, decide_eq_false_iff_not, beq_iff_eq] at h1 h2
    have e : a = b := by
      have h3 := h1.1; have h4 := h2.1
      rw [UInt8.lt_iff_toNat_lt] at h3 h4
      exact UInt8.toNat_inj.1 (by omega)
    subst e
    rw [bl_total (h1.2 rfl) (h2.2 rfl)]
theorem bl_trans : ∀ {x y z : List UInt8}, Op.bytesLess x y = true → Op.bytesLess y z = true → Op.bytesLess x z = true
  | _, [], _, h, _ => by simp [Op.bytesLess] at h
  | _, _ :: _, [], _, h => by simp [Op.bytesLess] at h
  | [], _ :: _, _ :: _, _, _ => by simp [Op.bytesLess]
  | a :: x, b :: y, c :: z, h1, h2 => by
    simp only [Op.bytesLess, Bool.or_eq_true, Bool.and_eq_true, decide_eq_true_eq, beq_iff_eq, UInt8.lt_iff_toNat_lt] at h1 h2 ⊢
    rcases h1 with h1 | ⟨rfl, h1⟩
    · rcases h2 with h2 | ⟨rfl, h2⟩
      · exact Or.inl (by omega)
      · exact Or.inl h1
    · rcases h2 with h2 | ⟨rfl, h2⟩
      · exact Or.inl h2
      · exact Or.inr ⟨rfl, bl_trans h1 h2⟩
theorem bl_asymm {x y : List UInt8} (h : Op.bytesLess x y = true) : Op.bytesLess y x = false := by
  cases h2 : Op.bytesLess y x with
  | false => rfl
  | true => have := bl_trans h h2; rw [bl_irrefl] at this; cases this
theorem cmpS_lt {x y : List UInt8} (h : Op.bytesLess x y = true) : cmpS x y = -1 := if_pos h
theorem cmpS_gt {x y : List UInt8} (h : Op.bytesLess y x = true) : cmpS x y = 1 := by
  have h1 := bl_asymm h
  have h2 : x ≠ y := fun e => by subst e; rw [bl_irrefl] at h; cases h
  simp [cmpS, h1, h2]
theorem cmpS_self (x : List UInt8) : cmpS x x = 0 := by simp [cmpS, bl_irrefl]
theorem cmpS_cases (x y : List UInt8) : (x = y ∧ cmpS x y = 0) ∨ (Op.bytesLess x y = true ∧ cmpS x y = -1) ∨ (Op.bytesLess y x = true ∧ cmpS x y = 1) := by
  cases h1 : Op.bytesLess x y with
  | true => exact Or.inr (Or.inl ⟨rfl, cmpS_lt h1⟩)
  | false =>
    cases h2 : Op.bytesLess y x with
    | true => exact Or.inr (Or.inr ⟨rfl, cmpS_gt h2⟩)
    | false => have := bl_total h1 h2; subst this; exact Or.inl ⟨rfl, cmpS_self x⟩
theorem cmpS_swap (x y : List UInt8) : cmpS y x = -cmpS x y := by
  rcases cmpS_cases x y with ⟨rfl, h⟩ | ⟨h, e⟩ | ⟨h, e⟩
  · rw [h]; rfl
  · rw [e, cmpS_gt h]; rfl
  · rw [e, cmpS_lt h]
theorem cmpS_zero {x y : List UInt8} : cmpS x y = 0 ↔ x = y := by
  rcases cmpS_cases x y with ⟨rfl, h⟩ | ⟨h, e⟩ | ⟨h, e⟩
  · simp [h]
  · rw [e]; exact ⟨fun h => by omega, fun h2 => by subst h2; rw [bl_irrefl] at h; cases h⟩
  · rw [e]; exact ⟨fun h => by omega, fun h2 => by subst h2; rw [bl_irrefl] at h; cases h⟩
theorem cmpL_swap : ∀ a b : List (List UInt8), cmpL b a = -cmpL a b
  | [], [] => rfl
  | [], _ :: _ => rfl
  | _ :: _, [] => rfl
  | x :: a, y :: b => by
    have h1 := cmpS_swap x y
    have h2 := cmpL_swap a b
    simp only [cmpL]
    split <;> split <;> omega
theorem cmpL_zero : ∀ {a b : List (List UInt8)}, cmpL a b = 0 ↔ a = b
  | [], [] => by simp [cmpL]
  | [], _ :: _ => by simp [cmpL]
  | _ :: _, [] => by simp [cmpL]
  | x :: a, y :: b => by
    have h1 := @cmpS_zero x y
    have h2 := @cmpL_zero a b
    simp only [cmpL]
    split
    · rename_i h; rw [h2, List.cons.injEq, ← h1]; simp [h]
    · rename_i h; rw [List.cons.injEq, ← h1]; simp [h]
theorem cmpL_trans : ∀ {a b c : List (List UInt8)}, cmpL a b ≤ 0 → cmpL b c ≤ 0 → cmpL a c ≤ 0
  | [], _, [], _, _ => by simp [cmpL]
  | [], _, _ :: _, _, _ => by simp [cmpL]
  | _ :: _, [], _, h, _ => by simp [cmpL] at h
  | _ :: _, _ :: _, [], _, h => by simp [cmpL] at h
  | x :: a, y :: b, z :: c, h1, h2 => by
    simp only [cmpL] at h1 h2 ⊢
    rcases cmpS_cases x y with ⟨rfl, e⟩ | ⟨h, e⟩ | ⟨h, e⟩
    · rw [if_pos e] at h1
      split at h2
      · rename_i h; rw [if_pos h]; exact cmpL_trans h1 h2
      · rename_i h; rw [if_neg h]; exact h2
    · rcases cmpS_cases y z with ⟨rfl, e2⟩ | ⟨h', e2⟩ | ⟨h', e2⟩
      · rw [e]; simp
      · rw [cmpS_lt (bl_trans h h')]; simp
      · rw [e2] at h2; simp at h2
    · rw [e] at h1; simp at h1
theorem cmpL_prefix : ∀ {a b : List (List UInt8)}, a <+: b → cmpL a b ≤ 0
  | [], [], _ => by simp [cmpL]
  | [], _ :: _, _ => by simp [cmpL]
  | _ :: _, [], h => by simp at h
  | x :: a, y :: b, h => by
    obtain ⟨e, h2⟩ := List.cons_prefix_cons.1 h
    subst e
    simp only [cmpL, cmpS_self, if_true]
    exact cmpL_prefix h2
/-- What a name's labels are: good, and not too long. -/
def Nm (ls : List (List UInt8)) : Prop := GoodN ls ∧ (joinN ls).length ≤ 255
theorem can_nm {n : List UInt8} (h : canN n = true) : ∃ ls, Nm ls ∧ n = joinN ls := by
  obtain ⟨ls, g, e, hl⟩ := canN_iff.1 h
  exact ⟨ls, ⟨g, hl⟩, e⟩
theorem Nm.can {ls : List (List UInt8)} (h : Nm ls) : canN (joinN ls) = true := can_join h.1 h.2
theorem Nm.lab {ls : List (List UInt8)} (h : Nm ls) : labN (joinN ls) = ls := labN_join h.1 h.2
theorem Nm.low {ls : List (List UInt8)} (h : Nm ls) : Nm (lowL ls) := ⟨h.1.low, by rw [low_length h.1]; exact h.2⟩
theorem Nm.lowN {ls : List (List UInt8)} (h : Nm ls) : lowN (joinN ls) = joinN (lowL ls) := lowN_join h.1 h.2
theorem Nm.cnt {ls : List (List UInt8)} (h : Nm ls) : cntN (joinN ls) = ls.length := by rw [cntN, h.lab]
theorem Nm.drop {ls : List (List UInt8)} (h : Nm ls) (j : Nat) : Nm (ls.drop j) := by
  refine ⟨fun x hx => h.1 x (List.mem_of_mem_drop hx), ?_⟩
  have h2 := h.2
  induction j generalizing ls with
  | zero => exact h.2
  | succ j ih =>
    cases ls with
    | nil => simpa using h.2
    | cons l ls =>
      have := joinN_le (l := l) (ls := ls)
      exact ih (ls := ls) ⟨h.1.tail, by omega⟩ (by omega)
theorem Nm.inj {a b : List (List UInt8)} (ha : Nm a) (hb : Nm b) : joinN a = joinN b ↔ a = b := ⟨joinN_inj ha.1 hb.1, fun e => by rw [e]⟩
theorem lowL_idem (ls : List (List UInt8)) : lowL (lowL ls) = lowL ls := by
  simp only [lowL, List.map_map]
  apply List.map_congr_left
  intro l _
  simp only [Function.comp, List.map_map]
  apply List.map_congr_left
  intro c _
  exact lowC_idem c
theorem lowL_length (ls : List (List UInt8)) : (lowL ls).length = ls.length := by simp [lowL]
theorem Nm.same {a b : List (List UInt8)} (ha : Nm a) (hb : Nm b) : sameN (joinN a) (joinN b) = decide (lowL a = lowL b) := by
  rw [sameN, ha.can, hb.can, ha.lowN, hb.lowN, decide_eq_decide.2 (ha.low.inj hb.low)]
  rfl
theorem Nm.cmp {a b : List (List UInt8)} (ha : Nm a) (hb : Nm b) : cmpN (joinN a) (joinN b) = cmpL (lowL a).reverse (lowL b).reverse := by
  rw [cmpN, if_pos (by rw [ha.can, hb.can]; rfl), ha.lowN, hb.lowN, ha.low.lab, hb.low.lab]
theorem Nm.tail {a : List (List UInt8)} (ha : Nm a) (k : Int) : tailN (joinN a) k = joinN (a.drop (a.length - min (max k 0).toNat a.length)) := by
  rw [tailN, if_pos ha.can, ha.lab]
theorem lowL_drop (ls : List (List UInt8)) (j : Nat) : lowL (ls.drop j) = (lowL ls).drop j := by simp [lowL, List.map_drop]
theorem Nm.within {a b : List (List UInt8)} (ha : Nm a) (hb : Nm b) : withN (joinN a) (joinN b) = true ↔ lowL b <:+ lowL a := by
  rw [withN, ha.can, hb.can, ha.cnt, hb.cnt, ha.tail, (ha.drop _).same hb, lowL_drop]
  simp only [Bool.true_and, Bool.and_eq_true, decide_eq_true_eq]
  rw [List.suffix_iff_eq_drop, lowL_length, lowL_length]
  constructor
  · rintro ⟨h1, h2⟩
    rw [← h2]
    congr 1
    omega
  · intro h
    have h3 := congrArg List.length h
    rw [List.length_drop, lowL_length, lowL_length] at h3
    refine ⟨by omega, ?_⟩
    conv => rhs; rw [h]
    congr 1
    omega
theorem Nm.within_eq {a b : List (List UInt8)} (ha : Nm a) (hb : Nm b) : withN (joinN a) (joinN b) = decide (lowL b <:+ lowL a) := by
  rw [Bool.eq_iff_iff, ha.within hb, decide_eq_true_iff]
theorem Nm.par {a : List (List UInt8)} (ha : Nm a) : parS (joinN a) = (if a = [] then [] else joinN (a.drop 1)) ∧ hasP (joinN a) = decide (a ≠ []) := by
  have h : hasP (joinN a) = decide (a ≠ []) := by rw [hasP, ha.lab]
  refine ⟨?_, h⟩
  rw [parS, h, parN, ha.lab]
  by_cases e : a = [] <;> simp [e]
theorem plain_nm (b : List UInt8) : ∃ ls, Nm ls ∧ plainN b = joinN ls ∧ ls.length ≤ 4 := by
  have h := plain_good b
  have h2 : (joinN ((b.take 4).map pickN)).length ≤ 17 := h.2
  exact ⟨_, ⟨h.1, by omega⟩, rfl, by rw [List.length_map, List.length_take]; omega⟩
theorem nm_root : Nm [] := ⟨GoodN.nil, by decide⟩
theorem nm_one {c : UInt8} : Nm [[c]] := ⟨fun l h => by simp at h; subst h; simp, by simp [joinN]⟩
theorem one_eq (c : UInt8) : [1, c, 0] = joinN [[c]] := rfl
theorem root_eq : [0] = joinN [] := rfl
theorem cnt_1a : cntN [1, 97, 0] = 1 := nm_one.cnt
theorem same_aA : sameN [1, 97, 0] [1, 65, 0] = true := (nm_one.same nm_one).trans (by decide)
theorem same_bB : sameN [1, 98, 0] [1, 66, 0] = true := (nm_one.same nm_one).trans (by decide)
theorem cmp_0a : cmpN [0] [1, 97, 0] = -1 := (nm_root.cmp nm_one).trans (by decide)
-- climbs
theorem climb_tail {ls : List (List UInt8)} (h : Nm ls) {k : Int} (hk : k = ls.length) : tailN (joinN ls) k = joinN ls := by
  rw [h.tail, show ls.length - min (max k 0).toNat ls.length = 0 by omega, List.drop_zero]
theorem climb_up {l : List UInt8} {ls : List (List UInt8)} (h : Nm (l :: ls)) : Nm ls := h.drop 1
theorem climb_in {l : List UInt8} {ls : List (List UInt8)} (h : Nm (l :: ls)) : withN (joinN (l :: ls)) (joinN ls) = true ∧ withN (joinN ls) (joinN (l :: ls)) = false := by
  refine ⟨(h.within (climb_up h)).2 (by simp [lowL, List.suffix_cons]), ?_⟩
  cases e : withN (joinN ls) (joinN (l :: ls)) with
  | false => rfl
  | true =>
    have := (((climb_up h).within h).1 e).length_le
    simp [lowL] at this
    omega
-- orders
theorem ord_swap {a b : List (List UInt8)} (ha : Nm a) (hb : Nm b) : cmpN (joinN b) (joinN a) = -cmpN (joinN a) (joinN b) := by rw [ha.cmp hb, hb.cmp ha]; exact cmpL_swap _ _
theorem ord_same {a b : List (List UInt8)} (ha : Nm a) (hb : Nm b) : decide (cmpN (joinN a) (joinN b) = 0) = sameN (joinN a) (joinN b) := by
  rw [ha.cmp hb, ha.same hb, decide_eq_decide, cmpL_zero, List.reverse_inj]
theorem ord_trans {a b c : List (List UInt8)} (ha : Nm a) (hb : Nm b) (hc : Nm c) (h1 : cmpN (joinN a) (joinN b) ≤ 0) (h2 : cmpN (joinN b) (joinN c) ≤ 0) : cmpN (joinN a) (joinN c) ≤ 0 := by
  rw [ha.cmp hb] at h1
  rw [hb.cmp hc] at h2
  rw [ha.cmp hc]
  exact cmpL_trans h1 h2
theorem sq_le {p : Int} (h : -1 ≤ p ∧ p ≤ 1) : ¬ p * p > 1 := by
  have : p = -1 ∨ p = 0 ∨ p = 1 := by omega
  rcases this with rfl | rfl | rfl <;> decide
-- cases
theorem case_same {a : List (List UInt8)} (ha : Nm a) : sameN (joinN a) (lowN (joinN a)) = true := by
  rw [ha.lowN, ha.same ha.low, lowL_idem]; simp
theorem case_cmp {a b : List (List UInt8)} (ha : Nm a) (hb : Nm b) : cmpN (joinN a) (joinN b) = cmpN (lowN (joinN a)) (lowN (joinN b)) := by
  rw [ha.lowN, hb.lowN, ha.cmp hb, ha.low.cmp hb.low, lowL_idem, lowL_idem]
theorem case_with {a b : List (List UInt8)} (ha : Nm a) (hb : Nm b) : withN (joinN a) (joinN b) = withN (lowN (joinN a)) (lowN (joinN b)) := by
  rw [ha.lowN, hb.lowN, ha.within_eq hb, ha.low.within_eq hb.low, lowL_idem, lowL_idem]
theorem case_low {a : List (List UInt8)} (ha : Nm a) : lowN (lowN (joinN a)) = lowN (joinN a) := by
  rw [ha.lowN, ha.low.lowN, lowL_idem]
theorem no_same {a b : List UInt8} (h : canN a = false ∨ canN b = false) : sameN a b = false ∧ cmpN a b = 0 := by
  rcases h with h | h <;> simp [sameN, cmpN, h]
-- zones
theorem zone_root {a : List (List UInt8)} (ha : Nm a) : withN (joinN a) [0] = true := (ha.within nm_root).2 (List.nil_suffix)
theorem zone_self {a : List (List UInt8)} (ha : Nm a) : withN (joinN a) (joinN a) = true := (ha.within ha).2 (List.suffix_refl _)
theorem zone_cmp {a b : List (List UInt8)} (ha : Nm a) (hb : Nm b) (h : withN (joinN a) (joinN b) = true) : cmpN (joinN b) (joinN a) ≤ 0 := by
  rw [hb.cmp ha]
  exact cmpL_prefix (List.reverse_prefix.2 ((ha.within hb).1 h))
theorem zone_par {a b : List (List UInt8)} (ha : Nm a) (hb : Nm b) (h : withN (joinN a) (joinN b) = true) (hp : hasP (joinN b) = true) : withN (joinN a) (parS (joinN b)) = true := by
  obtain ⟨e1, e2⟩ := hb.par
  rw [e2, decide_eq_true_eq] at hp
  rw [e1, if_neg hp, ha.within (hb.drop 1), lowL_drop]
  exact (List.drop_suffix _ _).trans ((ha.within hb).1 h)
theorem zone_tail {a b : List UInt8} (h : withN a b = true) : sameN (tailN a (cntN b)) b = true := by
  simp only [withN, Bool.and_eq_true] at h
  exact h.2

theorem climb_in' {ls : List (List UInt8)} (h : Nm ls) (hp : hasP (joinN ls) = true) : withN (joinN ls) (parS (joinN ls)) = true ∧ withN (parS (joinN ls)) (joinN ls) = false ∧ parS (joinN ls) = joinN (ls.drop 1) ∧ ls ≠ [] := by
  obtain ⟨e1, e2⟩ := h.par
  match ls, h, hp, e1, e2 with
  | [], h, hp, e1, e2 => rw [e2] at hp; simp at hp
  | l :: ls, h, hp, e1, e2 =>
    rw [if_neg (by simp)] at e1
    rw [e1]
    exact ⟨(climb_in h).1, (climb_in h).2, rfl, by simp⟩
theorem hasP_no {ls : List (List UInt8)} (h : Nm ls) (hp : hasP (joinN ls) = false) : ls = [] := by
  rw [h.par.2] at hp
  simpa using hp

set_option maxRecDepth 20000 in
theorem c_ciceronelaw01_NameParts (n m : List UInt8) (hn : n.length ≤ 140737488355328) (hm : m.length ≤ 140737488355328) (k : Int) (hk : -9223372036854775808 ≤ k ∧ k ≤ 9223372036854775807) : AC Try.prog 3 [str n, str m, i64 k] emp (Ret (tf true)) := by
  have c1 := cntN_le n
  have c2 := cntN_le [1, 97, 0]
  refine AC.intro te_ok (fn := Try.f3) ⟨Try.func3, rfl, rfl⟩ (Nat.le_of_ble_eq_true rfl) ?_
  refine AWp.seq ?_
  refine AWp.region ?_
  refine AOps.cons rfl rfl (q_assign) ?_
  refine AOps.nil ?_
  refine AWp.seq ?_
  refine AWp.region ?_
  refine AOps.cons rfl rfl (q_move) ?_
  refine AOps.cons rfl rfl (q_call (0) (hc := c_name_Parent _ (by first | assumption | omega | decide | (simp; omega) | (simp [*]; done)))) ?_
  refine AOps.cons rfl rfl (q_move) ?_
  refine AOps.cons rfl rfl (q_extract) ?_
  refine AOps.cons rfl rfl (q_extract) ?_
  refine AOps.cons rfl rfl (q_assign) ?_
  refine AOps.cons rfl rfl (q_assign) ?_
  refine AOps.nil ?_
  refine AWp.seq ?_
  refine AWp.region ?_
  refine AOps.cons rfl rfl (q_move) ?_
  refine AOps.cons rfl rfl (q_call (0) (hc := c_ciceroneref01_Parent _ (by first | assumption | omega | decide | (simp; omega) | (simp [*]; done)))) ?_
  refine AOps.cons rfl rfl (q_move) ?_
  refine AOps.cons rfl rfl (q_extract) ?_
  refine AOps.cons rfl rfl (q_extract) ?_
  refine AOps.cons rfl rfl (q_assign) ?_
  refine AOps.cons rfl rfl (q_assign) ?_
  refine AOps.nil ?_
  refine AWp.seq ?_
  refine AWp.region ?_
  refine AOps.cons rfl rfl (q_move) ?_
  refine AOps.cons rfl rfl (q_call (0) (hc := c_name_Count _ (by first | assumption | omega | decide | (simp; omega) | (simp [*]; done)))) ?_
  refine AOps.cons rfl rfl (q_move) ?_
  refine AOps.cons rfl rfl (q_call (0) (hc := c_ciceroneref01_Count _ (by first | assumption | omega | decide | (simp; omega) | (simp [*]; done)))) ?_
  refine AOps.dec rfl rfl (q_eql) (fun h3_4 => ?_) (fun h3_4 => ?_)
  · skip
    refine AOps.cons rfl rfl (q_move) ?_
    refine AOps.gcons rfl rfl rfl rfl rfl (q_move) ?_
    refine AOps.gcons rfl rfl rfl rfl rfl (q_move) ?_
    refine AOps.gdec rfl rfl rfl rfl rfl (q_seql) (fun h3_8 => ?_) (fun h3_8 => ?_)
    · skip
      refine AOps.cons rfl rfl (q_pick) ?_
      refine AOps.cons rfl rfl (q_move) ?_
      refine AOps.gcons rfl rfl rfl rfl rfl (q_move) ?_
      refine AOps.gcons rfl rfl rfl rfl rfl (q_move) ?_
      refine AOps.gbool rfl rfl rfl rfl rfl (q_beql) (fun h3_13 => ?_) (fun h3_13 => ?_)
      · skip
        refine AOps.cons rfl rfl (q_pick) ?_
        refine AOps.cons rfl rfl (q_move) ?_
        refine AOps.gcons rfl rfl rfl rfl rfl (q_move) ?_
        refine AOps.gcons rfl rfl rfl rfl rfl (q_move) ?_
        refine AOps.gcons rfl rfl rfl rfl rfl (q_call (0) (hc := c_name_Tail _ (by first | assumption | omega | decide | (simp; omega) | (simp [*]; done)) _ (by first | assumption | omega | decide | (simp; omega) | (simp [*]; done)))) ?_
        refine AOps.gcons rfl rfl rfl rfl rfl (q_move) ?_
        refine AOps.gcons rfl rfl rfl rfl rfl (q_move) ?_
        refine AOps.gcons rfl rfl rfl rfl rfl (q_call (0) (hc := c_ciceroneref01_Tail _ (by first | assumption | omega | decide | (simp; omega) | (simp [*]; done)) _ (by first | assumption | omega | decide | (simp; omega) | (simp [*]; done)))) ?_
        refine AOps.gdec rfl rfl rfl rfl rfl (q_seql) (fun h3_22 => ?_) (fun h3_22 => ?_)
        · skip
          refine AOps.cons rfl rfl (q_pick) ?_
          refine AOps.cons rfl rfl (q_move) ?_
          refine AOps.gcons rfl rfl rfl rfl rfl (q_move) ?_
          refine AOps.gcons rfl rfl rfl rfl rfl (q_move) ?_
          refine AOps.gcons rfl rfl rfl rfl rfl (q_call (0) (hc := c_name_Within _ _ (by first | assumption | omega | decide | (simp; omega) | (simp [*]; done)) (by first | assumption | omega | decide | (simp; omega) | (simp [*]; done)))) ?_
          refine AOps.gcons rfl rfl rfl rfl rfl (q_move) ?_
          refine AOps.gcons rfl rfl rfl rfl rfl (q_move) ?_
          refine AOps.gcons rfl rfl rfl rfl rfl (q_call (0) (hc := c_ciceroneref01_Within _ _ (by first | assumption | omega | decide | (simp; omega) | (simp [*]; done)) (by first | assumption | omega | decide | (simp; omega) | (simp [*]; done)))) ?_
          refine AOps.gbool rfl rfl rfl rfl rfl (q_beql) (fun h3_31 => ?_) (fun h3_31 => ?_)
          · skip
            refine AOps.cons rfl rfl (q_pick) ?_
            refine AOps.cons rfl rfl (q_move) ?_
            refine AOps.gcons rfl rfl rfl rfl rfl (q_call (0) (hc := c_name_Count _ (by first | assumption | omega | decide | (simp; omega) | (simp [*]; done)))) ?_
            refine AOps.gcons rfl rfl rfl rfl rfl (q_eql) ?_
            refine AOps.cons rfl rfl (q_pick) ?_
            refine AOps.cons rfl rfl (q_assign) ?_
            refine AOps.nil ?_
            refine AWp.ret ?_
            show Fin te Try.f3 _ _
            refine q_ret (0) [_] [_] ?_
            exact congrArg tf (decide_eq_true cnt_1a)
          · exfalso; first | exact h3_31 rfl | omega | (rw [eqV_same rfl] at h3_31; cases h3_31) | (simp at h3_31; done) | (simp_all; done)
        · exfalso; first | exact h3_22 rfl | omega | (rw [eqV_same rfl] at h3_22; cases h3_22) | (simp at h3_22; done) | (simp_all; done)
      · exfalso; first | exact h3_13 rfl | omega | (rw [eqV_same rfl] at h3_13; cases h3_13) | (simp at h3_13; done) | (simp_all; done)
    · exfalso; first | exact h3_8 rfl | omega | (rw [eqV_same rfl] at h3_8; cases h3_8) | (simp at h3_8; done) | (simp_all; done)
  · exfalso; first | exact h3_4 rfl | omega | (rw [eqV_same rfl] at h3_4; cases h3_4) | (simp at h3_4; done) | (simp_all; done)

set_option maxRecDepth 20000 in
theorem c_ciceronelaw01_NameClimbs (b : List UInt8) (hb : b.length ≤ 140737488351232) : AC Try.prog 4 [.fz 0 b.length (cl bc b)] emp (Ret (tf true)) := by
  obtain ⟨L, hL, eL, hL4⟩ := plain_nm b
  have lL : (plainN b).length ≤ 255 := by rw [eL]; exact hL.2
  have hcnt : cntN (plainN b) = L.length := by rw [eL]; exact hL.cnt
  refine AC.intro te_ok (fn := Try.f4) ⟨Try.func4, rfl, rfl⟩ (Nat.le_of_ble_eq_true rfl) ?_
  refine AWp.seq ?_
  refine AWp.region ?_
  refine AOps.cons rfl rfl (q_assign) ?_
  refine AOps.nil ?_
  refine AWp.seq ?_
  refine AWp.region ?_
  refine AOps.cons rfl rfl (q_move) ?_
  refine AOps.cons rfl rfl (q_call (0) (hc := c_ciceroneplain_Name _ _ (by first | assumption | omega | decide | (simp; omega) | (simp [*]; done)))) ?_
  refine AOps.cons rfl rfl (q_assign) ?_
  refine AOps.nil ?_
  refine AWp.seq ?_
  refine AWp.region ?_
  refine AOps.cons rfl rfl (q_move) ?_
  refine AOps.cons rfl rfl (q_call (0) (hc := c_name_Count _ (by first | assumption | omega | decide | (simp; omega) | (simp [*]; done)))) ?_
  refine AOps.cons rfl rfl (q_assign) ?_
  refine AOps.nil ?_
  refine AWp.seq ?_
  refine AWp.seq ?_
  refine AWp.region ?_
  refine AOps.cons rfl rfl (q_move) ?_
  refine AOps.nil ?_
  refine AWp.block ?_
  refine AWp.loopR (α := Nat) [2, 3, 5, 6, 7, 12, 13, 14, 15, 16, 17, 18, 19, 20, 21, 22, 23, 24, 25, 26, 27, 28, 29, 30, 31, 32, 33, 34, 35, 36, 37, 38, 39, 40, 41, 42, 43, 44, 45, 46, 47, 48, 49, 50, 51, 52, 53, 54] (fun i => [(12, i64 i), (3, str (joinN (L.drop i)))]) (fun i => []) (fun i => i ≤ L.length) (fun i => L.length - i) 0 ?_ (Back.mk' (HasT.cons (HasT.cons HasT.nil (h1 := by rw [List.drop_zero, ← eL]; rfl) )) HasH.nil) ?_
  · exact Nat.zero_le _
  · rintro i hi
    have hnd := hL.drop i
    have hl := hnd.2
    have hcd := hnd.cnt
    rw [List.length_drop] at hcd
    refine AWp.seq ?_
    refine AWp.region ?_
    refine AOps.dec rfl rfl (q_lss) (fun h4_0 => ?_) (fun h4_0 => ?_)
    · skip
      refine AOps.nil ?_
      refine AWp.seq ?_
      refine AWp.cond_t rfl ?_
      refine AWp.skip ?_
      refine AWp.seq ?_
      refine AWp.block ?_
      refine AWp.seq ?_
      refine AWp.region ?_
      refine AOps.cons rfl rfl (q_move) ?_
      refine AOps.cons rfl rfl (q_assign) ?_
      refine AOps.nil ?_
      refine AWp.seq ?_
      refine AWp.seq ?_
      refine AWp.region ?_
      refine AOps.cons rfl rfl (q_move) ?_
      refine AOps.cons rfl rfl (q_call (0) (hc := c_name_Count _ (by first | assumption | omega | decide | (simp; omega) | (simp [*]; done)))) ?_
      refine AOps.cons rfl rfl (q_move) ?_
      refine AOps.cons rfl rfl (q_move) ?_
      refine AOps.cons rfl rfl (q_sub) ?_
      refine AOps.dec rfl rfl (q_neq) (fun h6_5 => ?_) (fun h6_5 => ?_)
      · exfalso; omega
      · skip
        refine AOps.cons rfl rfl (q_move) ?_
        refine AOps.gcons rfl rfl rfl rfl rfl (q_move) ?_
        refine AOps.gcons rfl rfl rfl rfl rfl (q_move) ?_
        refine AOps.gcons rfl rfl rfl rfl rfl (q_move) ?_
        refine AOps.gcons rfl rfl rfl rfl rfl (q_sub) ?_
        refine AOps.gcons rfl rfl rfl rfl rfl (q_call (0) (hc := c_name_Tail _ (by first | assumption | omega | decide | (simp; omega) | (simp [*]; done)) _ (by first | assumption | omega | decide | (simp; omega) | (simp [*]; done)))) ?_
        refine AOps.gcons rfl rfl rfl rfl rfl (q_move) ?_
        refine AOps.gdec rfl rfl rfl rfl rfl (q_sneq) (fun h6_13 => ?_) (fun h6_13 => ?_)
        · exfalso; exact h6_13 (climb_tail hnd (by rw [List.length_drop]; omega))
        · skip
          refine AOps.cons rfl rfl (q_pick) ?_
          refine AOps.nil ?_
          refine AWp.cond_f rfl ?_
          refine AWp.skip ?_
          refine AWp.seq ?_
          refine AWp.region ?_
          refine AOps.cons rfl rfl (q_move) ?_
          refine AOps.cons rfl rfl (q_call (0) (hc := c_name_Parent _ (by first | assumption | omega | decide | (simp; omega) | (simp [*]; done)))) ?_
          refine AOps.cons rfl rfl (q_move) ?_
          refine AOps.cons rfl rfl (q_extract) ?_
          refine AOps.bool rfl rfl (q_extract) (fun h8_4 => ?_) (fun h8_4 => ?_)
          · skip
            refine AOps.cons rfl rfl (q_assign) ?_
            refine AOps.cons rfl rfl (q_assign) ?_
            refine AOps.nil ?_
            refine AWp.seq ?_
            refine AWp.seq ?_
            refine AWp.region ?_
            refine AOps.cons rfl rfl (q_move) ?_
            refine AOps.cons rfl rfl (q_not) ?_
            refine AOps.nil ?_
            refine AWp.cond_f rfl ?_
            refine AWp.skip ?_
            refine AWp.seq ?_
            refine AWp.seq ?_
            refine AWp.region ?_
            have hpl : (parS (joinN (L.drop i))).length ≤ 255 := by rw [(climb_in' hnd (by simpa using h8_4)).2.2.1]; exact (hnd.drop 1).2
            refine AOps.cons rfl rfl (q_move) ?_
            refine AOps.cons rfl rfl (q_move) ?_
            refine AOps.bool rfl rfl (q_call (0) (hc := c_name_Within _ _ (by first | assumption | omega | decide | (simp; omega) | (simp [*]; done)) (by first | assumption | omega | decide | (simp; omega) | (simp [*]; done)))) (fun h11_2 => ?_) (fun h11_2 => ?_)
            · skip
              refine AOps.cons rfl rfl (q_not) ?_
              refine AOps.cons rfl rfl (q_move) ?_
              refine AOps.gcons rfl rfl rfl rfl rfl (q_move) ?_
              refine AOps.gcons rfl rfl rfl rfl rfl (q_move) ?_
              refine AOps.gbool rfl rfl rfl rfl rfl (q_call (0) (hc := c_name_Within _ _ (by first | assumption | omega | decide | (simp; omega) | (simp [*]; done)) (by first | assumption | omega | decide | (simp; omega) | (simp [*]; done)))) (fun h11_7 => ?_) (fun h11_7 => ?_)
              · exfalso; rw [(climb_in' hnd (by simpa using h8_4)).2.1] at h11_7; cases h11_7
              · skip
                refine AOps.cons rfl rfl (q_pick) ?_
                refine AOps.nil ?_
                refine AWp.cond_f rfl ?_
                refine AWp.skip ?_
                refine AWp.region ?_
                refine AOps.cons rfl rfl (q_move) ?_
                refine AOps.cons rfl rfl (q_assign) ?_
                refine AOps.nil ?_
                refine AWp.region ?_
                refine AOps.cons rfl rfl (q_add) ?_
                refine AOps.cons rfl rfl (q_move) ?_
                refine AOps.nil ?_
                obtain ⟨w1, w2, w3, w4⟩ := climb_in' hnd (by simpa using h8_4)
                have hlt : i < L.length := by
                  refine Nat.lt_of_not_le fun h => w4 (List.drop_of_length_le h)
                refine ⟨i + 1, ?_, Back.mk' (HasT.cons (HasT.cons HasT.nil (h1 := by rw [← List.drop_drop, ← w3]; rfl) )) HasH.nil, ?_⟩
                · omega
                · omega
            · exfalso; rw [(climb_in' hnd (by simpa using h8_4)).1] at h11_2; cases h11_2
          · skip
            refine AOps.cons rfl rfl (q_assign) ?_
            refine AOps.cons rfl rfl (q_assign) ?_
            refine AOps.nil ?_
            refine AWp.seq ?_
            refine AWp.seq ?_
            refine AWp.region ?_
            refine AOps.cons rfl rfl (q_move) ?_
            refine AOps.cons rfl rfl (q_not) ?_
            refine AOps.nil ?_
            refine AWp.cond_t rfl ?_
            refine AWp.seq ?_
            refine AWp.region ?_
            refine AOps.cons rfl rfl (q_move) ?_
            refine AOps.dec rfl rfl (q_seql) (fun h10_1 => ?_) (fun h10_1 => ?_)
            · skip
              refine AOps.cons rfl rfl (q_move) ?_
              refine AOps.gcons rfl rfl rfl rfl rfl (q_move) ?_
              refine AOps.gcons rfl rfl rfl rfl rfl (q_move) ?_
              refine AOps.gcons rfl rfl rfl rfl rfl (q_eql) ?_
              refine AOps.cons rfl rfl (q_pick) ?_
              refine AOps.cons rfl rfl (q_assign) ?_
              refine AOps.nil ?_
              refine AWp.ret ?_
              show Fin te Try.f4 _ _
              refine q_ret (0) [_] [_] ?_
              have e := hasP_no hnd (by simpa using h8_4)
              have e2 := congrArg List.length e
              rw [List.length_drop, List.length_nil] at e2
              exact congrArg tf (decide_eq_true (by omega))
            · exfalso; exact h10_1 (by rw [hasP_no hnd (by simpa using h8_4)]; rfl)
    · exfalso; omega

set_option maxRecDepth 20000 in
theorem c_ciceronelaw01_NameCompares (a b : List UInt8) (ha : a.length ≤ 140737488355328) (hb : b.length ≤ 140737488355328) : AC Try.prog 5 [str a, str b] emp (Ret (tf true)) := by
  refine AC.intro te_ok (fn := Try.f5) ⟨Try.func5, rfl, rfl⟩ (Nat.le_of_ble_eq_true rfl) ?_
  refine AWp.seq ?_
  refine AWp.region ?_
  refine AOps.cons rfl rfl (q_assign) ?_
  refine AOps.nil ?_
  refine AWp.seq ?_
  refine AWp.region ?_
  refine AOps.cons rfl rfl (q_move) ?_
  refine AOps.cons rfl rfl (q_call (0) (hc := c_name_Lower _ (by first | assumption | omega | decide | (simp; omega) | (simp [*]; done)))) ?_
  refine AOps.cons rfl rfl (q_move) ?_
  refine AOps.cons rfl rfl (q_call (0) (hc := c_ciceroneref01_Lower _ (by first | assumption | omega | decide | (simp; omega) | (simp [*]; done)))) ?_
  refine AOps.dec rfl rfl (q_seql) (fun h1_4 => ?_) (fun h1_4 => ?_)
  · skip
    refine AOps.cons rfl rfl (q_move) ?_
    refine AOps.gcons rfl rfl rfl rfl rfl (q_move) ?_
    refine AOps.gcons rfl rfl rfl rfl rfl (q_move) ?_
    refine AOps.gcons rfl rfl rfl rfl rfl (q_call (0) (hc := c_name_Same _ _ (by first | assumption | omega | decide | (simp; omega) | (simp [*]; done)) (by first | assumption | omega | decide | (simp; omega) | (simp [*]; done)))) ?_
    refine AOps.gcons rfl rfl rfl rfl rfl (q_move) ?_
    refine AOps.gcons rfl rfl rfl rfl rfl (q_move) ?_
    refine AOps.gcons rfl rfl rfl rfl rfl (q_call (0) (hc := c_ciceroneref01_Same _ _ (by first | assumption | omega | decide | (simp; omega) | (simp [*]; done)) (by first | assumption | omega | decide | (simp; omega) | (simp [*]; done)))) ?_
    refine AOps.gbool rfl rfl rfl rfl rfl (q_beql) (fun h1_12 => ?_) (fun h1_12 => ?_)
    · skip
      refine AOps.cons rfl rfl (q_pick) ?_
      refine AOps.cons rfl rfl (q_move) ?_
      refine AOps.gcons rfl rfl rfl rfl rfl (q_move) ?_
      refine AOps.gcons rfl rfl rfl rfl rfl (q_move) ?_
      refine AOps.gcons rfl rfl rfl rfl rfl (q_call (0) (hc := c_name_Compare _ _ (by first | assumption | omega | decide | (simp; omega) | (simp [*]; done)) (by first | assumption | omega | decide | (simp; omega) | (simp [*]; done)))) ?_
      refine AOps.gcons rfl rfl rfl rfl rfl (q_move) ?_
      refine AOps.gcons rfl rfl rfl rfl rfl (q_move) ?_
      refine AOps.gcons rfl rfl rfl rfl rfl (q_call (0) (hc := c_ciceroneref01_Compare _ _ (by first | assumption | omega | decide | (simp; omega) | (simp [*]; done)) (by first | assumption | omega | decide | (simp; omega) | (simp [*]; done)))) ?_
      refine AOps.gdec rfl rfl rfl rfl rfl (q_eql) (fun h1_21 => ?_) (fun h1_21 => ?_)
      · skip
        refine AOps.cons rfl rfl (q_pick) ?_
        refine AOps.cons rfl rfl (q_move) ?_
        refine AOps.gcons rfl rfl rfl rfl rfl (q_call (0) (hc := c_name_Same _ _ (by first | assumption | omega | decide | (simp; omega) | (simp [*]; done)) (by first | assumption | omega | decide | (simp; omega) | (simp [*]; done)))) ?_
        refine AOps.cons rfl rfl (q_pick) ?_
        refine AOps.cons rfl rfl (q_assign) ?_
        refine AOps.nil ?_
        refine AWp.ret ?_
        show Fin te Try.f5 _ _
        refine q_ret (0) [_] [_] ?_
        exact congrArg tf same_aA
      · exfalso; first | exact h1_21 rfl | omega | (rw [eqV_same rfl] at h1_21; cases h1_21) | (simp at h1_21; done) | (simp_all; done)
    · exfalso; first | exact h1_12 rfl | omega | (rw [eqV_same rfl] at h1_12; cases h1_12) | (simp at h1_12; done) | (simp_all; done)
  · exfalso; first | exact h1_4 rfl | omega | (rw [eqV_same rfl] at h1_4; cases h1_4) | (simp at h1_4; done) | (simp_all; done)

set_option maxRecDepth 20000 in
theorem c_ciceronelaw01_NameOrders (x y z : List UInt8) (hx : x.length ≤ 140737488351232) (hy : y.length ≤ 140737488351232) (hz : z.length ≤ 140737488351232) : AC Try.prog 6 [.fz 0 x.length (cl bc x), .fz 0 y.length (cl bc y), .fz 0 z.length (cl bc z)] emp (Ret (tf true)) := by
  obtain ⟨A, hA, eA, hA4⟩ := plain_nm x
  have lA : (plainN x).length ≤ 255 := by rw [eA]; exact hA.2
  obtain ⟨B, hB, eB, hB4⟩ := plain_nm y
  have lB : (plainN y).length ≤ 255 := by rw [eB]; exact hB.2
  obtain ⟨C, hC, eC, hC4⟩ := plain_nm z
  have lC : (plainN z).length ≤ 255 := by rw [eC]; exact hC.2
  have c1 := cmpN_le (plainN x) (plainN y)
  have c2 := sq_le c1
  have c3 : 0 ≤ cmpN (plainN x) (plainN y) * cmpN (plainN x) (plainN y) := by rcases (show cmpN (plainN x) (plainN y) = -1 ∨ cmpN (plainN x) (plainN y) = 0 ∨ cmpN (plainN x) (plainN y) = 1 by omega) with e | e | e <;> rw [e] <;> decide
  refine AC.intro te_ok (fn := Try.f6) ⟨Try.func6, rfl, rfl⟩ (Nat.le_of_ble_eq_true rfl) ?_
  refine AWp.seq ?_
  refine AWp.region ?_
  refine AOps.cons rfl rfl (q_assign) ?_
  refine AOps.nil ?_
  refine AWp.seq ?_
  refine AWp.region ?_
  refine AOps.cons rfl rfl (q_move) ?_
  refine AOps.cons rfl rfl (q_call (0) (hc := c_ciceroneplain_Name _ _ (by first | assumption | omega | decide | (simp; omega) | (simp [*]; done)))) ?_
  refine AOps.cons rfl rfl (q_move) ?_
  refine AOps.cons rfl rfl (q_call (0) (hc := c_ciceroneplain_Name _ _ (by first | assumption | omega | decide | (simp; omega) | (simp [*]; done)))) ?_
  refine AOps.cons rfl rfl (q_move) ?_
  refine AOps.cons rfl rfl (q_call (0) (hc := c_ciceroneplain_Name _ _ (by first | assumption | omega | decide | (simp; omega) | (simp [*]; done)))) ?_
  refine AOps.cons rfl rfl (q_assign) ?_
  refine AOps.cons rfl rfl (q_assign) ?_
  refine AOps.cons rfl rfl (q_assign) ?_
  refine AOps.nil ?_
  refine AWp.seq ?_
  refine AWp.region ?_
  refine AOps.cons rfl rfl (q_move) ?_
  refine AOps.cons rfl rfl (q_move) ?_
  refine AOps.cons rfl rfl (q_call (0) (hc := c_name_Compare _ _ (by first | assumption | omega | decide | (simp; omega) | (simp [*]; done)) (by first | assumption | omega | decide | (simp; omega) | (simp [*]; done)))) ?_
  refine AOps.cons rfl rfl (q_move) ?_
  refine AOps.cons rfl rfl (q_move) ?_
  refine AOps.cons rfl rfl (q_call (0) (hc := c_name_Compare _ _ (by first | assumption | omega | decide | (simp; omega) | (simp [*]; done)) (by first | assumption | omega | decide | (simp; omega) | (simp [*]; done)))) ?_
  refine AOps.cons rfl rfl (q_move) ?_
  refine AOps.cons rfl rfl (q_move) ?_
  refine AOps.cons rfl rfl (q_call (0) (hc := c_name_Compare _ _ (by first | assumption | omega | decide | (simp; omega) | (simp [*]; done)) (by first | assumption | omega | decide | (simp; omega) | (simp [*]; done)))) ?_
  refine AOps.cons rfl rfl (q_assign) ?_
  refine AOps.cons rfl rfl (q_assign) ?_
  refine AOps.cons rfl rfl (q_assign) ?_
  refine AOps.nil ?_
  refine AWp.seq ?_
  refine AWp.seq ?_
  refine AWp.region ?_
  refine AOps.cons rfl rfl (q_move) ?_
  refine AOps.cons rfl rfl (q_move) ?_
  refine AOps.cons rfl rfl (q_call (0) (hc := c_name_Compare _ _ (by first | assumption | omega | decide | (simp; omega) | (simp [*]; done)) (by first | assumption | omega | decide | (simp; omega) | (simp [*]; done)))) ?_
  refine AOps.cons rfl rfl (q_move) ?_
  refine AOps.cons rfl rfl (q_neg) ?_
  refine AOps.dec rfl rfl (q_neq) (fun h3_5 => ?_) (fun h3_5 => ?_)
  · exfalso; exact h3_5 (by rw [eA, eB]; exact ord_swap hA hB)
  · skip
    refine AOps.cons rfl rfl (q_move) ?_
    refine AOps.gcons rfl rfl rfl rfl rfl (q_move) ?_
    refine AOps.gcons rfl rfl rfl rfl rfl (q_move) ?_
    refine AOps.gcons rfl rfl rfl rfl rfl (q_mul) ?_
    refine AOps.gdec rfl rfl rfl rfl rfl (q_gtr) (fun h3_10 => ?_) (fun h3_10 => ?_)
    · exfalso; omega
    · skip
      refine AOps.cons rfl rfl (q_pick) ?_
      refine AOps.cons rfl rfl (q_move) ?_
      refine AOps.gcons rfl rfl rfl rfl rfl (q_move) ?_
      refine AOps.gcons rfl rfl rfl rfl rfl (q_eql) ?_
      refine AOps.gcons rfl rfl rfl rfl rfl (q_move) ?_
      refine AOps.gcons rfl rfl rfl rfl rfl (q_move) ?_
      refine AOps.gcons rfl rfl rfl rfl rfl (q_call (0) (hc := c_name_Same _ _ (by first | assumption | omega | decide | (simp; omega) | (simp [*]; done)) (by first | assumption | omega | decide | (simp; omega) | (simp [*]; done)))) ?_
      refine AOps.gbool rfl rfl rfl rfl rfl (q_bneq) (fun h3_18 => ?_) (fun h3_18 => ?_)
      · exfalso; rw [eA, eB, ord_same hA hB] at h3_18; simp at h3_18
      · skip
        refine AOps.cons rfl rfl (q_pick) ?_
        refine AOps.nil ?_
        refine AWp.cond_f rfl ?_
        refine AWp.skip ?_
        refine AWp.seq ?_
        refine AWp.region ?_
        refine AOps.cons rfl rfl (q_move) ?_
        refine AOps.dec rfl rfl (q_leq) (fun h5_1 => ?_) (fun h5_1 => ?_)
        · skip
          refine AOps.cons rfl rfl (q_move) ?_
          refine AOps.gcons rfl rfl rfl rfl rfl (q_move) ?_
          refine AOps.gdec rfl rfl rfl rfl rfl (q_leq) (fun h5_4 => ?_) (fun h5_4 => ?_)
          · skip
            refine AOps.cons rfl rfl (q_pick) ?_
            refine AOps.cons rfl rfl (q_not) ?_
            refine AOps.cons rfl rfl (q_move) ?_
            refine AOps.gcons rfl rfl rfl rfl rfl (q_move) ?_
            refine AOps.gdec rfl rfl rfl rfl rfl (q_leq) (fun h5_9 => ?_) (fun h5_9 => ?_)
            · skip
              refine AOps.gcons rfl rfl rfl rfl rfl (q_move) ?_
              refine AOps.gcons rfl rfl rfl rfl rfl (q_call (0) (hc := c_name_Compare _ _ (by first | assumption | omega | decide | (simp; omega) | (simp [*]; done)) (by first | assumption | omega | decide | (simp; omega) | (simp [*]; done)))) ?_
              refine AOps.gcons rfl rfl rfl rfl rfl (q_eql) ?_
              refine AOps.gcons rfl rfl rfl rfl rfl (q_pick) ?_
              refine AOps.cons rfl rfl (q_pick) ?_
              refine AOps.cons rfl rfl (q_assign) ?_
              refine AOps.nil ?_
              refine AWp.ret ?_
              show Fin te Try.f6 _ _
              refine q_ret (0) [_] [_] ?_
              exact congrArg tf (decide_eq_true cmp_0a)
            · exfalso; exact h5_9 (by rw [eA, eC]; rw [eA, eB] at h5_1; rw [eB, eC] at h5_4; exact ord_trans hA hB hC h5_1 h5_4)
          · skip
            refine AOps.cons rfl rfl (q_pick) ?_
            refine AOps.cons rfl rfl (q_not) ?_
            refine AOps.cons rfl rfl (q_move) ?_
            refine AOps.gskip rfl rfl rfl rfl rfl rfl rfl rfl ?_
            refine AOps.gskip rfl rfl rfl rfl rfl rfl rfl rfl ?_
            refine AOps.gskip rfl rfl rfl rfl rfl rfl rfl rfl ?_
            refine AOps.gskipu rfl rfl rfl rfl rfl rfl rfl ?_
            refine AOps.gskipu rfl rfl rfl rfl rfl rfl rfl ?_
            refine AOps.gskip rfl rfl rfl rfl rfl rfl rfl rfl ?_
            refine AOps.cons rfl rfl (q_pick) ?_
            refine AOps.cons rfl rfl (q_assign) ?_
            refine AOps.nil ?_
            refine AWp.ret ?_
            show Fin te Try.f6 _ _
            refine q_ret (0) [_] [_] ?_
            rfl
        · skip
          refine AOps.cons rfl rfl (q_move) ?_
          refine AOps.gskip rfl rfl rfl rfl rfl rfl rfl rfl ?_
          refine AOps.gskip rfl rfl rfl rfl rfl rfl rfl rfl ?_
          refine AOps.cons rfl rfl (q_pick) ?_
          refine AOps.cons rfl rfl (q_not) ?_
          refine AOps.cons rfl rfl (q_move) ?_
          refine AOps.gskip rfl rfl rfl rfl rfl rfl rfl rfl ?_
          refine AOps.gskip rfl rfl rfl rfl rfl rfl rfl rfl ?_
          refine AOps.gskip rfl rfl rfl rfl rfl rfl rfl rfl ?_
          refine AOps.gskipu rfl rfl rfl rfl rfl rfl rfl ?_
          refine AOps.gskipu rfl rfl rfl rfl rfl rfl rfl ?_
          refine AOps.gskip rfl rfl rfl rfl rfl rfl rfl rfl ?_
          refine AOps.cons rfl rfl (q_pick) ?_
          refine AOps.cons rfl rfl (q_assign) ?_
          refine AOps.nil ?_
          refine AWp.ret ?_
          show Fin te Try.f6 _ _
          refine q_ret (0) [_] [_] ?_
          rfl

set_option maxRecDepth 20000 in
theorem c_ciceronelaw01_NameCases (a b : List UInt8) (ha : a.length ≤ 140737488355328) (hb : b.length ≤ 140737488355328) : AC Try.prog 7 [str a, str b] emp (Ret (tf true)) := by
  have q1 := lowN_len a
  have q2 := lowN_len b
  refine AC.intro te_ok (fn := Try.f7) ⟨Try.func7, rfl, rfl⟩ (Nat.le_of_ble_eq_true rfl) ?_
  refine AWp.seq ?_
  refine AWp.region ?_
  refine AOps.cons rfl rfl (q_assign) ?_
  refine AOps.nil ?_
  refine AWp.seq ?_
  refine AWp.region ?_
  refine AOps.cons rfl rfl (q_move) ?_
  refine AOps.cons rfl rfl (q_call (0) (hc := c_name_Lower _ (by first | assumption | omega | decide | (simp; omega) | (simp [*]; done)))) ?_
  refine AOps.cons rfl rfl (q_move) ?_
  refine AOps.cons rfl rfl (q_call (0) (hc := c_name_Lower _ (by first | assumption | omega | decide | (simp; omega) | (simp [*]; done)))) ?_
  refine AOps.cons rfl rfl (q_assign) ?_
  refine AOps.cons rfl rfl (q_assign) ?_
  refine AOps.nil ?_
  refine AWp.seq ?_
  refine AWp.seq ?_
  refine AWp.region ?_
  refine AOps.cons rfl rfl (q_move) ?_
  refine AOps.bool rfl rfl (q_call (0) (hc := c_ciceroneref01_Can _ (by first | assumption | omega | decide | (simp; omega) | (simp [*]; done)))) (fun h2_1 => ?_) (fun h2_1 => ?_)
  · skip
    refine AOps.cons rfl rfl (q_not) ?_
    refine AOps.cons rfl rfl (q_move) ?_
    refine AOps.gcons rfl rfl rfl rfl rfl (q_move) ?_
    refine AOps.gbool rfl rfl rfl rfl rfl (q_call (0) (hc := c_ciceroneref01_Can _ (by first | assumption | omega | decide | (simp; omega) | (simp [*]; done)))) (fun h2_5 => ?_) (fun h2_5 => ?_)
    · skip
      refine AOps.gcons rfl rfl rfl rfl rfl (q_not) ?_
      refine AOps.cons rfl rfl (q_pick) ?_
      refine AOps.nil ?_
      refine AWp.cond_f rfl ?_
      refine AWp.skip ?_
      refine AWp.seq ?_
      refine AWp.region ?_
      obtain ⟨A, hA, eA⟩ := can_nm h2_1
      obtain ⟨B, hB, eB⟩ := can_nm h2_5
      refine AOps.cons rfl rfl (q_move) ?_
      refine AOps.cons rfl rfl (q_move) ?_
      refine AOps.bool rfl rfl (q_call (0) (hc := c_name_Same _ _ (by first | assumption | omega | decide | (simp; omega) | (simp [*]; done)) (by first | assumption | omega | decide | (simp; omega) | (simp [*]; done)))) (fun h4_2 => ?_) (fun h4_2 => ?_)
      · skip
        refine AOps.cons rfl rfl (q_move) ?_
        refine AOps.gcons rfl rfl rfl rfl rfl (q_move) ?_
        refine AOps.gcons rfl rfl rfl rfl rfl (q_move) ?_
        refine AOps.gcons rfl rfl rfl rfl rfl (q_call (0) (hc := c_name_Compare _ _ (by first | assumption | omega | decide | (simp; omega) | (simp [*]; done)) (by first | assumption | omega | decide | (simp; omega) | (simp [*]; done)))) ?_
        refine AOps.gcons rfl rfl rfl rfl rfl (q_move) ?_
        refine AOps.gcons rfl rfl rfl rfl rfl (q_move) ?_
        refine AOps.gcons rfl rfl rfl rfl rfl (q_call (0) (hc := c_name_Compare _ _ (by first | assumption | omega | decide | (simp; omega) | (simp [*]; done)) (by first | assumption | omega | decide | (simp; omega) | (simp [*]; done)))) ?_
        refine AOps.gdec rfl rfl rfl rfl rfl (q_eql) (fun h4_10 => ?_) (fun h4_10 => ?_)
        · skip
          refine AOps.cons rfl rfl (q_pick) ?_
          refine AOps.cons rfl rfl (q_move) ?_
          refine AOps.gcons rfl rfl rfl rfl rfl (q_move) ?_
          refine AOps.gcons rfl rfl rfl rfl rfl (q_move) ?_
          refine AOps.gcons rfl rfl rfl rfl rfl (q_call (0) (hc := c_name_Within _ _ (by first | assumption | omega | decide | (simp; omega) | (simp [*]; done)) (by first | assumption | omega | decide | (simp; omega) | (simp [*]; done)))) ?_
          refine AOps.gcons rfl rfl rfl rfl rfl (q_move) ?_
          refine AOps.gcons rfl rfl rfl rfl rfl (q_move) ?_
          refine AOps.gcons rfl rfl rfl rfl rfl (q_call (0) (hc := c_name_Within _ _ (by first | assumption | omega | decide | (simp; omega) | (simp [*]; done)) (by first | assumption | omega | decide | (simp; omega) | (simp [*]; done)))) ?_
          refine AOps.gbool rfl rfl rfl rfl rfl (q_beql) (fun h4_19 => ?_) (fun h4_19 => ?_)
          · skip
            refine AOps.cons rfl rfl (q_pick) ?_
            refine AOps.cons rfl rfl (q_move) ?_
            refine AOps.gcons rfl rfl rfl rfl rfl (q_move) ?_
            refine AOps.gcons rfl rfl rfl rfl rfl (q_call (0) (hc := c_name_Lower _ (by first | assumption | omega | decide | (simp; omega) | (simp [*]; done)))) ?_
            refine AOps.gcons rfl rfl rfl rfl rfl (q_move) ?_
            refine AOps.gcons rfl rfl rfl rfl rfl (q_seql) ?_
            refine AOps.cons rfl rfl (q_pick) ?_
            refine AOps.cons rfl rfl (q_assign) ?_
            refine AOps.nil ?_
            refine AWp.ret ?_
            show Fin te Try.f7 _ _
            refine q_ret (0) [_] [_] ?_
            exact congrArg tf (decide_eq_true (by rw [eA]; exact case_low hA))
          · exfalso; rw [eA, eB, ← case_with hA hB] at h4_19; simp at h4_19
        · exfalso; exact h4_10 (by rw [eA, eB]; exact case_cmp hA hB)
      · exfalso; rw [eA, case_same hA] at h4_2; cases h4_2
    · skip
      refine AOps.gcons rfl rfl rfl rfl rfl (q_not) ?_
      refine AOps.cons rfl rfl (q_pick) ?_
      refine AOps.nil ?_
      refine AWp.cond_t rfl ?_
      refine AWp.seq ?_
      refine AWp.region ?_
      have hno := no_same (a := a) (b := b) (Or.inr h2_5)
      refine AOps.cons rfl rfl (q_move) ?_
      refine AOps.cons rfl rfl (q_move) ?_
      refine AOps.bool rfl rfl (q_call (0) (hc := c_name_Same _ _ (by first | assumption | omega | decide | (simp; omega) | (simp [*]; done)) (by first | assumption | omega | decide | (simp; omega) | (simp [*]; done)))) (fun h3_2 => ?_) (fun h3_2 => ?_)
      · exfalso; rw [hno.1] at h3_2; cases h3_2
      · skip
        refine AOps.cons rfl rfl (q_not) ?_
        refine AOps.cons rfl rfl (q_move) ?_
        refine AOps.gcons rfl rfl rfl rfl rfl (q_move) ?_
        refine AOps.gcons rfl rfl rfl rfl rfl (q_move) ?_
        refine AOps.gcons rfl rfl rfl rfl rfl (q_call (0) (hc := c_name_Compare _ _ (by first | assumption | omega | decide | (simp; omega) | (simp [*]; done)) (by first | assumption | omega | decide | (simp; omega) | (simp [*]; done)))) ?_
        refine AOps.gdec rfl rfl rfl rfl rfl (q_eql) (fun h3_8 => ?_) (fun h3_8 => ?_)
        · skip
          refine AOps.cons rfl rfl (q_pick) ?_
          refine AOps.cons rfl rfl (q_move) ?_
          refine AOps.gcons rfl rfl rfl rfl rfl (q_call (0) (hc := c_name_Same _ _ (by first | assumption | omega | decide | (simp; omega) | (simp [*]; done)) (by first | assumption | omega | decide | (simp; omega) | (simp [*]; done)))) ?_
          refine AOps.cons rfl rfl (q_pick) ?_
          refine AOps.cons rfl rfl (q_assign) ?_
          refine AOps.nil ?_
          refine AWp.ret ?_
          show Fin te Try.f7 _ _
          refine q_ret (0) [_] [_] ?_
          exact congrArg tf same_bB
        · exfalso; exact h3_8 hno.2
  · skip
    refine AOps.cons rfl rfl (q_not) ?_
    refine AOps.cons rfl rfl (q_move) ?_
    refine AOps.gskip rfl rfl rfl rfl rfl rfl rfl rfl ?_
    refine AOps.gskip rfl rfl rfl rfl rfl rfl rfl rfl ?_
    refine AOps.gskip rfl rfl rfl rfl rfl rfl rfl rfl ?_
    refine AOps.cons rfl rfl (q_pick) ?_
    refine AOps.nil ?_
    refine AWp.cond_t rfl ?_
    refine AWp.seq ?_
    refine AWp.region ?_
    have hno := no_same (a := a) (b := b) (Or.inl h2_1)
    refine AOps.cons rfl rfl (q_move) ?_
    refine AOps.cons rfl rfl (q_move) ?_
    refine AOps.bool rfl rfl (q_call (0) (hc := c_name_Same _ _ (by first | assumption | omega | decide | (simp; omega) | (simp [*]; done)) (by first | assumption | omega | decide | (simp; omega) | (simp [*]; done)))) (fun h3_2 => ?_) (fun h3_2 => ?_)
    · exfalso; rw [hno.1] at h3_2; cases h3_2
    · skip
      refine AOps.cons rfl rfl (q_not) ?_
      refine AOps.cons rfl rfl (q_move) ?_
      refine AOps.gcons rfl rfl rfl rfl rfl (q_move) ?_
      refine AOps.gcons rfl rfl rfl rfl rfl (q_move) ?_
      refine AOps.gcons rfl rfl rfl rfl rfl (q_call (0) (hc := c_name_Compare _ _ (by first | assumption | omega | decide | (simp; omega) | (simp [*]; done)) (by first | assumption | omega | decide | (simp; omega) | (simp [*]; done)))) ?_
      refine AOps.gdec rfl rfl rfl rfl rfl (q_eql) (fun h3_8 => ?_) (fun h3_8 => ?_)
      · skip
        refine AOps.cons rfl rfl (q_pick) ?_
        refine AOps.cons rfl rfl (q_move) ?_
        refine AOps.gcons rfl rfl rfl rfl rfl (q_call (0) (hc := c_name_Same _ _ (by first | assumption | omega | decide | (simp; omega) | (simp [*]; done)) (by first | assumption | omega | decide | (simp; omega) | (simp [*]; done)))) ?_
        refine AOps.cons rfl rfl (q_pick) ?_
        refine AOps.cons rfl rfl (q_assign) ?_
        refine AOps.nil ?_
        refine AWp.ret ?_
        show Fin te Try.f7 _ _
        refine q_ret (0) [_] [_] ?_
        exact congrArg tf same_bB
      · exfalso; exact h3_8 hno.2

set_option maxRecDepth 20000 in
theorem c_ciceronelaw01_NameZones (b z : List UInt8) (hb : b.length ≤ 140737488351232) (hz : z.length ≤ 140737488351232) : AC Try.prog 8 [.fz 0 b.length (cl bc b), .fz 0 z.length (cl bc z)] emp (Ret (tf true)) := by
  obtain ⟨B, hB, eB, hB4⟩ := plain_nm b
  have lB : (plainN b).length ≤ 255 := by rw [eB]; exact hB.2
  obtain ⟨Z, hZ, eZ, hZ4⟩ := plain_nm z
  have lZ : (plainN z).length ≤ 255 := by rw [eZ]; exact hZ.2
  have c1 := cntN_le (plainN z)
  have t1 := tailN_len (plainN b) (cntN (plainN z))
  have p1 : (parS (plainN z)).length ≤ 255 := by
    rw [eZ, hZ.par.1]
    split
    · simp
    · exact (hZ.drop 1).2
  refine AC.intro te_ok (fn := Try.f8) ⟨Try.func8, rfl, rfl⟩ (Nat.le_of_ble_eq_true rfl) ?_
  refine AWp.seq ?_
  refine AWp.region ?_
  refine AOps.cons rfl rfl (q_assign) ?_
  refine AOps.nil ?_
  refine AWp.seq ?_
  refine AWp.region ?_
  refine AOps.cons rfl rfl (q_move) ?_
  refine AOps.cons rfl rfl (q_call (0) (hc := c_ciceroneplain_Name _ _ (by first | assumption | omega | decide | (simp; omega) | (simp [*]; done)))) ?_
  refine AOps.cons rfl rfl (q_move) ?_
  refine AOps.cons rfl rfl (q_call (0) (hc := c_ciceroneplain_Name _ _ (by first | assumption | omega | decide | (simp; omega) | (simp [*]; done)))) ?_
  refine AOps.cons rfl rfl (q_assign) ?_
  refine AOps.cons rfl rfl (q_assign) ?_
  refine AOps.nil ?_
  refine AWp.seq ?_
  refine AWp.seq ?_
  refine AWp.region ?_
  refine AOps.cons rfl rfl (q_move) ?_
  refine AOps.bool rfl rfl (q_call (0) (hc := c_name_Within _ _ (by first | assumption | omega | decide | (simp; omega) | (simp [*]; done)) (by first | assumption | omega | decide | (simp; omega) | (simp [*]; done)))) (fun h2_1 => ?_) (fun h2_1 => ?_)
  · skip
    refine AOps.cons rfl rfl (q_not) ?_
    refine AOps.cons rfl rfl (q_move) ?_
    refine AOps.gcons rfl rfl rfl rfl rfl (q_move) ?_
    refine AOps.gcons rfl rfl rfl rfl rfl (q_move) ?_
    refine AOps.gbool rfl rfl rfl rfl rfl (q_call (0) (hc := c_name_Within _ _ (by first | assumption | omega | decide | (simp; omega) | (simp [*]; done)) (by first | assumption | omega | decide | (simp; omega) | (simp [*]; done)))) (fun h2_6 => ?_) (fun h2_6 => ?_)
    · skip
      refine AOps.gcons rfl rfl rfl rfl rfl (q_not) ?_
      refine AOps.cons rfl rfl (q_pick) ?_
      refine AOps.nil ?_
      refine AWp.cond_f rfl ?_
      refine AWp.skip ?_
      refine AWp.seq ?_
      refine AWp.seq ?_
      refine AWp.region ?_
      refine AOps.cons rfl rfl (q_move) ?_
      refine AOps.cons rfl rfl (q_move) ?_
      refine AOps.bool rfl rfl (q_call (0) (hc := c_name_Within _ _ (by first | assumption | omega | decide | (simp; omega) | (simp [*]; done)) (by first | assumption | omega | decide | (simp; omega) | (simp [*]; done)))) (fun h4_2 => ?_) (fun h4_2 => ?_)
      · skip
        refine AOps.cons rfl rfl (q_not) ?_
        refine AOps.nil ?_
        refine AWp.cond_f rfl ?_
        refine AWp.skip ?_
        refine AWp.seq ?_
        refine AWp.region ?_
        refine AOps.cons rfl rfl (q_move) ?_
        refine AOps.cons rfl rfl (q_call (0) (hc := c_name_Parent _ (by first | assumption | omega | decide | (simp; omega) | (simp [*]; done)))) ?_
        refine AOps.cons rfl rfl (q_move) ?_
        refine AOps.cons rfl rfl (q_extract) ?_
        refine AOps.bool rfl rfl (q_extract) (fun h6_4 => ?_) (fun h6_4 => ?_)
        · skip
          refine AOps.cons rfl rfl (q_assign) ?_
          refine AOps.cons rfl rfl (q_assign) ?_
          refine AOps.nil ?_
          refine AWp.seq ?_
          refine AWp.region ?_
          refine AOps.cons rfl rfl (q_move) ?_
          refine AOps.cons rfl rfl (q_move) ?_
          refine AOps.cons rfl rfl (q_call (0) (hc := c_name_Compare _ _ (by first | assumption | omega | decide | (simp; omega) | (simp [*]; done)) (by first | assumption | omega | decide | (simp; omega) | (simp [*]; done)))) ?_
          refine AOps.dec rfl rfl (q_leq) (fun h7_3 => ?_) (fun h7_3 => ?_)
          · skip
            refine AOps.cons rfl rfl (q_move) ?_
            refine AOps.gcons rfl rfl rfl rfl rfl (q_move) ?_
            refine AOps.gcons rfl rfl rfl rfl rfl (q_not) ?_
            refine AOps.gcons rfl rfl rfl rfl rfl (q_move) ?_
            refine AOps.gcons rfl rfl rfl rfl rfl (q_move) ?_
            refine AOps.gcons rfl rfl rfl rfl rfl (q_move) ?_
            refine AOps.gbool rfl rfl rfl rfl rfl (q_call (0) (hc := c_name_Within _ _ (by first | assumption | omega | decide | (simp; omega) | (simp [*]; done)) (by first | assumption | omega | decide | (simp; omega) | (simp [*]; done)))) (fun h7_10 => ?_) (fun h7_10 => ?_)
            · skip
              refine AOps.gcons rfl rfl rfl rfl rfl (q_pick) ?_
              refine AOps.cons rfl rfl (q_pick) ?_
              refine AOps.cons rfl rfl (q_move) ?_
              refine AOps.gcons rfl rfl rfl rfl rfl (q_move) ?_
              refine AOps.gcons rfl rfl rfl rfl rfl (q_move) ?_
              refine AOps.gcons rfl rfl rfl rfl rfl (q_call (0) (hc := c_name_Count _ (by first | assumption | omega | decide | (simp; omega) | (simp [*]; done)))) ?_
              refine AOps.gcons rfl rfl rfl rfl rfl (q_call (0) (hc := c_name_Tail _ (by first | assumption | omega | decide | (simp; omega) | (simp [*]; done)) _ (by first | assumption | omega | decide | (simp; omega) | (simp [*]; done)))) ?_
              refine AOps.gcons rfl rfl rfl rfl rfl (q_move) ?_
              refine AOps.gcons rfl rfl rfl rfl rfl (q_call (0) (hc := c_name_Same _ _ (by first | assumption | omega | decide | (simp; omega) | (simp [*]; done)) (by first | assumption | omega | decide | (simp; omega) | (simp [*]; done)))) ?_
              refine AOps.cons rfl rfl (q_pick) ?_
              refine AOps.cons rfl rfl (q_assign) ?_
              refine AOps.nil ?_
              refine AWp.ret ?_
              show Fin te Try.f8 _ _
              refine q_ret (0) [_] [_] ?_
              exact congrArg tf (zone_tail h4_2)
            · exfalso; rw [eB, eZ] at h4_2
              rw [eB, eZ, zone_par hB hZ h4_2 (by rw [← eZ]; simpa using h6_4)] at h7_10; cases h7_10
          · exfalso; exact h7_3 (by rw [eB, eZ]; rw [eB, eZ] at h4_2; exact zone_cmp hB hZ h4_2)
        · skip
          refine AOps.cons rfl rfl (q_assign) ?_
          refine AOps.cons rfl rfl (q_assign) ?_
          refine AOps.nil ?_
          refine AWp.seq ?_
          refine AWp.region ?_
          refine AOps.cons rfl rfl (q_move) ?_
          refine AOps.cons rfl rfl (q_move) ?_
          refine AOps.cons rfl rfl (q_call (0) (hc := c_name_Compare _ _ (by first | assumption | omega | decide | (simp; omega) | (simp [*]; done)) (by first | assumption | omega | decide | (simp; omega) | (simp [*]; done)))) ?_
          refine AOps.dec rfl rfl (q_leq) (fun h7_3 => ?_) (fun h7_3 => ?_)
          · skip
            refine AOps.cons rfl rfl (q_move) ?_
            refine AOps.gcons rfl rfl rfl rfl rfl (q_move) ?_
            refine AOps.gcons rfl rfl rfl rfl rfl (q_not) ?_
            refine AOps.gcons rfl rfl rfl rfl rfl (q_move) ?_
            refine AOps.gskip rfl rfl rfl rfl rfl rfl rfl rfl ?_
            refine AOps.gskip rfl rfl rfl rfl rfl rfl rfl rfl ?_
            refine AOps.gskip rfl rfl rfl rfl rfl rfl rfl rfl ?_
            refine AOps.gcons rfl rfl rfl rfl rfl (q_pick) ?_
            refine AOps.cons rfl rfl (q_pick) ?_
            refine AOps.cons rfl rfl (q_move) ?_
            refine AOps.gcons rfl rfl rfl rfl rfl (q_move) ?_
            refine AOps.gcons rfl rfl rfl rfl rfl (q_move) ?_
            refine AOps.gcons rfl rfl rfl rfl rfl (q_call (0) (hc := c_name_Count _ (by first | assumption | omega | decide | (simp; omega) | (simp [*]; done)))) ?_
            refine AOps.gcons rfl rfl rfl rfl rfl (q_call (0) (hc := c_name_Tail _ (by first | assumption | omega | decide | (simp; omega) | (simp [*]; done)) _ (by first | assumption | omega | decide | (simp; omega) | (simp [*]; done)))) ?_
            refine AOps.gcons rfl rfl rfl rfl rfl (q_move) ?_
            refine AOps.gcons rfl rfl rfl rfl rfl (q_call (0) (hc := c_name_Same _ _ (by first | assumption | omega | decide | (simp; omega) | (simp [*]; done)) (by first | assumption | omega | decide | (simp; omega) | (simp [*]; done)))) ?_
            refine AOps.cons rfl rfl (q_pick) ?_
            refine AOps.cons rfl rfl (q_assign) ?_
            refine AOps.nil ?_
            refine AWp.ret ?_
            show Fin te Try.f8 _ _
            refine q_ret (0) [_] [_] ?_
            exact congrArg tf (zone_tail h4_2)
          · exfalso; exact h7_3 (by rw [eB, eZ]; rw [eB, eZ] at h4_2; exact zone_cmp hB hZ h4_2)
      · skip
        refine AOps.cons rfl rfl (q_not) ?_
        refine AOps.nil ?_
        refine AWp.cond_t rfl ?_
        refine AWp.seq ?_
        refine AWp.region ?_
        refine AOps.cons rfl rfl (q_move) ?_
        refine AOps.cons rfl rfl (q_move) ?_
        refine AOps.cons rfl rfl (q_call (0) (hc := c_ciceroneref01_Within _ _ (by first | assumption | omega | decide | (simp; omega) | (simp [*]; done)) (by first | assumption | omega | decide | (simp; omega) | (simp [*]; done)))) ?_
        refine AOps.cons rfl rfl (q_not) ?_
        refine AOps.cons rfl rfl (q_assign) ?_
        refine AOps.nil ?_
        refine AWp.ret ?_
        show Fin te Try.f8 _ _
        refine q_ret (0) [_] [_] ?_
        rw [h4_2]; rfl
    · exfalso; rw [eB, zone_self hB] at h2_6; cases h2_6
  · exfalso; rw [eB, zone_root hB] at h2_1; cases h2_1

end Go.Proofs.Ytfojdjlhpejbpaa.Fw
