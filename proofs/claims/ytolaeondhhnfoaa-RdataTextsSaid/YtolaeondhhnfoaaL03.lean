/- Walks of layer 3's laws on texts, other types and names. -/
import Derived.Test.YtolaeondhhnfoaaW03
set_option linter.unusedVariables false
set_option linter.unusedSimpArgs false
namespace Go.Proofs.Ytolaeondhhnfoaa.Fw
open Go.RowKit

theorem bl_irrefl : ∀ x : List UInt8, Op.bytesLess x x = false
  | [] => rfl
  | a :: x => by simp [Op.bytesLess, bl_irrefl x]
theorem bl_total : ∀ {x y : List UInt8}, Op.bytesLess x y = false → Op.bytesLess y x = false → x = y
  | [], [], _, _ => rfl
  | [], _ :: _, h, _ => by simp [Op.bytesLess] at h
  | _ :: _, [], _, h => by simp [Op.bytesLess] at h
  | a :: x, b :: y, h1, h2 => by
    simp only [Op.bytesLess, Bool.or_eq_false_iff, Bool.and_eq_false_imp, decide_eq_false_iff_not, beq_iff_eq] at h1 h2
    have e : a = b := by
      have h3 := h1.1; have h4 := h2.1
      rw [UInt8.lt_iff_toNat_lt] at h3 h4
      exact UInt8.toNat_inj.1 (by omega)
    subst e
    rw [bl_total (h1.2 rfl) (h2.2 rfl)]
theorem bl_trans : ∀ {x y z : List UInt8}, Op.bytesLess x y = true → Op.bytesLess y z = true → Op.bytesLess x z = true
  | _, [], _, h, _ => by simp [Op.bytesLess] at h
  | _, _ :: _, [], _, h => by simp [Op.bytesLess] at h
  | [], _ :: _, _ :: _, _, _ => by simp [Op.bytesLess]
  | a :: x, b :: y, c :: z, h1, h2 => by
    simp only [Op.bytesLess, Bool.or_eq_true, Bool.and_eq_true, decide_eq_true_eq, beq_iff_eq, UInt8.lt_iff_toNat_lt] at h1 h2 ⊢
    rcases h1 with h1 | ⟨rfl, h1⟩
    · rcases h2 with h2 | ⟨rfl, h2⟩
      · exact Or.inl (by omega)
      · exact Or.inl h1
    · rcases h2 with h2 | ⟨rfl, h2⟩
      · exact Or.inl h2
      · exact Or.inr ⟨rfl, bl_trans h1 h2⟩
theorem bl_asymm {x y : List UInt8} (h : Op.bytesLess x y = true) : Op.bytesLess y x = false := by
  cases h2 : Op.bytesLess y x with
  | false => rfl
  | true => have := bl_trans h h2; rw [bl_irrefl] at this; cases this
theorem cmpS_lt {x y : List UInt8} (h : Op.bytesLess x y = true) : cmpS x y = -1 := if_pos h
theorem cmpS_gt {x y : List UInt8} (h : Op.bytesLess y x = true) : cmpS x y = 1 := by
  have h1 := bl_asymm h
  have h2 : x ≠ y := fun e => by subst e; rw [bl_irrefl] at h; cases h
  simp [cmpS, h1, h2]
theorem cmpS_self (x : List UInt8) : cmpS x x = 0 := by simp [cmpS, bl_irrefl]
theorem cmpS_cases (x y : List UInt8) : (x = y ∧ cmpS x y = 0) ∨ (Op.bytesLess x y = true ∧ cmpS x y = -1) ∨ (Op.bytesLess y x = true ∧ cmpS x y = 1) := by
  cases h1 : Op.bytesLess x y with
  | true => exact Or.inr (Or.inl ⟨rfl, cmpS_lt h1⟩)
  | false =>
    cases h2 : Op.bytesLess y x with
    | true => exact Or.inr (Or.inr ⟨rfl, cmpS_gt h2⟩)
    | false => have := bl_total h1 h2; subst this; exact Or.inl ⟨rfl, cmpS_self x⟩
theorem cmpS_swap (x y : List UInt8) : cmpS y x = -cmpS x y := by
  rcases cmpS_cases x y with ⟨rfl, h⟩ | ⟨h, e⟩ | ⟨h, e⟩
  · rw [h]; rfl
  · rw [e, cmpS_gt h]; rfl
  · rw [e, cmpS_lt h]
theorem cmpS_zero {x y : List UInt8} : cmpS x y = 0 ↔ x = y := by
  rcases cmpS_cases x y with ⟨rfl, h⟩ | ⟨h, e⟩ | ⟨h, e⟩
  · simp [h]
  · rw [e]; exact ⟨fun h => by omega, fun h2 => by subst h2; rw [bl_irrefl] at h; cases h⟩
  · rw [e]; exact ⟨fun h => by omega, fun h2 => by subst h2; rw [bl_irrefl] at h; cases h⟩
theorem cmpL_swap : ∀ a b : List (List UInt8), cmpL b a = -cmpL a b
  | [], [] => rfl
  | [], _ :: _ => rfl
  | _ :: _, [] => rfl
  | x :: a, y :: b => by
    have h1 := cmpS_swap x y
    have h2 := cmpL_swap a b
    simp only [cmpL]
    split <;> split <;> omega
theorem cmpL_zero : ∀ {a b : List (List UInt8)}, cmpL a b = 0 ↔ a = b
  | [], [] => by simp [cmpL]
  | [], _ :: _ => by simp [cmpL]
  | _ :: _, [] => by simp [cmpL]
  | x :: a, y :: b => by
    have h1 := @cmpS_zero x y
    have h2 := @cmpL_zero a b
    simp only [cmpL]
    split
    · rename_i h; rw [h2, List.cons.injEq, ← h1]; simp [h]
    · rename_i h; rw [List.cons.injEq, ← h1]; simp [h]
theorem cmpL_trans : ∀ {a b c : List (List UInt8)}, cmpL a b ≤ 0 → cmpL b c ≤ 0 → cmpL a c ≤ 0
  | [], _, [], _, _ => by simp [cmpL]
  | [], _, _ :: _, _, _ => by simp [cmpL]
  | _ :: _, [], _, h, _ => by simp [cmpL] at h
  | _ :: _, _ :: _, [], _, h => by simp [cmpL] at h
  | x :: a, y :: b, z :: c, h1, h2 => by
    simp only [cmpL] at h1 h2 ⊢
    rcases cmpS_cases x y with ⟨rfl, e⟩ | ⟨h, e⟩ | ⟨h, e⟩
    · rw [if_pos e] at h1
      split at h2
      · rename_i h; rw [if_pos h]; exact cmpL_trans h1 h2
      · rename_i h; rw [if_neg h]; exact h2
    · rcases cmpS_cases y z with ⟨rfl, e2⟩ | ⟨h', e2⟩ | ⟨h', e2⟩
      · rw [e]; simp
      · rw [cmpS_lt (bl_trans h h')]; simp
      · rw [e2] at h2; simp at h2
    · rw [e] at h1; simp at h1
theorem cmpL_prefix : ∀ {a b : List (List UInt8)}, a <+: b → cmpL a b ≤ 0
  | [], [], _ => by simp [cmpL]
  | [], _ :: _, _ => by simp [cmpL]
  | _ :: _, [], h => by simp at h
  | x :: a, y :: b, h => by
    obtain ⟨e, h2⟩ := List.cons_prefix_cons.1 h
    subst e
    simp only [cmpL, cmpS_self, if_true]
    exact cmpL_prefix h2
/-- What a name's labels are: good, and not too long. -/
def Nm (ls : List (List UInt8)) : Prop := GoodN ls ∧ (joinN ls).length ≤ 255
theorem can_nm {n : List UInt8} (h : canN n = true) : ∃ ls, Nm ls ∧ n = joinN ls := by
  obtain ⟨ls, g, e, hl⟩ := canN_iff.1 h
  exact ⟨ls, ⟨g, hl⟩, e⟩
theorem Nm.can {ls : List (List UInt8)} (h : Nm ls) : canN (joinN ls) = true := can_join h.1 h.2
theorem Nm.lab {ls : List (List UInt8)} (h : Nm ls) : labN (joinN ls) = ls := labN_join h.1 h.2
theorem Nm.low {ls : List (List UInt8)} (h : Nm ls) : Nm (lowL ls) := ⟨h.1.low, by rw [low_length h.1]; exact h.2⟩
theorem Nm.lowN {ls : List (List UInt8)} (h : Nm ls) : lowN (joinN ls) = joinN (lowL ls) := lowN_join h.1 h.2
theorem Nm.cnt {ls : List (List UInt8)} (h : Nm ls) : cntN (joinN ls) = ls.length := by rw [cntN, h.lab]
theorem Nm.drop {ls : List (List UInt8)} (h : Nm ls) (j : Nat) : Nm (ls.drop j) := by
  refine ⟨fun x hx => h.1 x (List.mem_of_mem_drop hx), ?_⟩
  have h2 := h.2
  induction j generalizing ls with
  | zero => exact h.2
  | succ j ih =>
    cases ls with
    | nil => simpa using h.2
    | cons l ls =>
      have := joinN_le (l := l) (ls := ls)
      exact ih (ls := ls) ⟨h.1.tail, by omega⟩ (by omega)
theorem Nm.inj {a b : List (List UInt8)} (ha : Nm a) (hb : Nm b) : joinN a = joinN b ↔ a = b := ⟨joinN_inj ha.1 hb.1, fun e => by rw [e]⟩
theorem lowL_idem (ls : List (List UInt8)) : lowL (lowL ls) = lowL ls := by
  simp only [lowL, List.map_map]
  apply List.map_congr_left
  intro l _
  simp only [Function.comp, List.map_map]
  apply List.map_congr_left
  intro c _
  exact lowC_idem c
theorem lowL_length (ls : List (List UInt8)) : (lowL ls).length = ls.length := by simp [lowL]
theorem Nm.same {a b : List (List UInt8)} (ha : Nm a) (hb : Nm b) : sameN (joinN a) (joinN b) = decide (lowL a = lowL b) := by
  rw [sameN, ha.can, hb.can, ha.lowN, hb.lowN, decide_eq_decide.2 (ha.low.inj hb.low)]
  rfl
theorem Nm.cmp {a b : List (List UInt8)} (ha : Nm a) (hb : Nm b) : cmpN (joinN a) (joinN b) = cmpL (lowL a).reverse (lowL b).reverse := by
  rw [cmpN, if_pos (by rw [ha.can, hb.can]; rfl), ha.lowN, hb.lowN, ha.low.lab, hb.low.lab]
theorem Nm.tail {a : List (List UInt8)} (ha : Nm a) (k : Int) : tailN (joinN a) k = joinN (a.drop (a.length - min (max k 0).toNat a.length)) := by
  rw [tailN, if_pos ha.can, ha.lab]
theorem lowL_drop (ls : List (List UInt8)) (j : Nat) : lowL (ls.drop j) = (lowL ls).drop j := by simp [lowL, List.map_drop]
theorem Nm.within {a b : List (List UInt8)} (ha : Nm a) (hb : Nm b) : withN (joinN a) (joinN b) = true ↔ lowL b <:+ lowL a := by
  rw [withN, ha.can, hb.can, ha.cnt, hb.cnt, ha.tail, (ha.drop _).same hb, lowL_drop]
  simp only [Bool.true_and, Bool.and_eq_true, decide_eq_true_eq]
  rw [List.suffix_iff_eq_drop, lowL_length, lowL_length]
  constructor
  · rintro ⟨h1, h2⟩
    rw [← h2]
    congr 1
    omega
  · intro h
    have h3 := congrArg List.length h
    rw [List.length_drop, lowL_length, lowL_length] at h3
    refine ⟨by omega, ?_⟩
    conv => rhs; rw [h]
    congr 1
    omega
theorem Nm.within_eq {a b : List (List UInt8)} (ha : Nm a) (hb : Nm b) : withN (joinN a) (joinN b) = decide (lowL b <:+ lowL a) := by
  rw [Bool.eq_iff_iff, ha.within hb, decide_eq_true_iff]
theorem Nm.par {a : List (List UInt8)} (ha : Nm a) : parS (joinN a) = (if a = [] then [] else joinN (a.drop 1)) ∧ hasP (joinN a) = decide (a ≠ []) := by
  have h : hasP (joinN a) = decide (a ≠ []) := by rw [hasP, ha.lab]
  refine ⟨?_, h⟩
  rw [parS, h, parN, ha.lab]
  by_cases e : a = [] <;> simp [e]
theorem plain_nm (b : List UInt8) : ∃ ls, Nm ls ∧ plainN b = joinN ls ∧ ls.length ≤ 4 := by
  have h := plain_good b
  have h2 : (joinN ((b.take 4).map pickN)).length ≤ 17 := h.2
  exact ⟨_, ⟨h.1, by omega⟩, rfl, by rw [List.length_map, List.length_take]; omega⟩
theorem nm_root : Nm [] := ⟨GoodN.nil, by decide⟩
theorem nm_one {c : UInt8} : Nm [[c]] := ⟨fun l h => by simp at h; subst h; simp, by simp [joinN]⟩
theorem one_eq (c : UInt8) : [1, c, 0] = joinN [[c]] := rfl
theorem root_eq : [0] = joinN [] := rfl
theorem cnt_1a : cntN [1, 97, 0] = 1 := nm_one.cnt
theorem same_aA : sameN [1, 97, 0] [1, 65, 0] = true := (nm_one.same nm_one).trans (by decide)
theorem same_bB : sameN [1, 98, 0] [1, 66, 0] = true := (nm_one.same nm_one).trans (by decide)
theorem cmp_0a : cmpN [0] [1, 97, 0] = -1 := (nm_root.cmp nm_one).trans (by decide)
-- climbs
theorem climb_tail {ls : List (List UInt8)} (h : Nm ls) {k : Int} (hk : k = ls.length) : tailN (joinN ls) k = joinN ls := by
  rw [h.tail, show ls.length - min (max k 0).toNat ls.length = 0 by omega, List.drop_zero]
theorem climb_up {l : List UInt8} {ls : List (List UInt8)} (h : Nm (l :: ls)) : Nm ls := h.drop 1
theorem climb_in {l : List UInt8} {ls : List (List UInt8)} (h : Nm (l :: ls)) : withN (joinN (l :: ls)) (joinN ls) = true ∧ withN (joinN ls) (joinN (l :: ls)) = false := by
  refine ⟨(h.within (climb_up h)).2 (by simp [lowL, List.suffix_cons]), ?_⟩
  cases e : withN (joinN ls) (joinN (l :: ls)) with
  | false => rfl
  | true =>
    have := (((climb_up h).within h).1 e).length_le
    simp [lowL] at this
    omega
-- orders
theorem ord_swap {a b : List (List UInt8)} (ha : Nm a) (hb : Nm b) : cmpN (joinN b) (joinN a) = -cmpN (joinN a) (joinN b) := by rw [ha.cmp hb, hb.cmp ha]; exact cmpL_swap _ _
theorem ord_same {a b : List (List UInt8)} (ha : Nm a) (hb : Nm b) : decide (cmpN (joinN a) (joinN b) = 0) = sameN (joinN a) (joinN b) := by
  rw [ha.cmp hb, ha.same hb, decide_eq_decide, cmpL_zero, List.reverse_inj]
theorem ord_trans {a b c : List (List UInt8)} (ha : Nm a) (hb : Nm b) (hc : Nm c) (h1 : cmpN (joinN a) (joinN b) ≤ 0) (h2 : cmpN (joinN b) (joinN c) ≤ 0) : cmpN (joinN a) (joinN c) ≤ 0 := by
  rw [ha.cmp hb] at h1
  rw [hb.cmp hc] at h2
  rw [ha.cmp hc]
  exact cmpL_trans h1 h2
theorem sq_le {p : Int} (h : -1 ≤ p ∧ p ≤ 1) : ¬ p * p > 1 := by
  have : p = -1 ∨ p = 0 ∨ p = 1 := by omega
  rcases this with rfl | rfl | rfl <;> decide
-- cases
theorem case_same {a : List (List UInt8)} (ha : Nm a) : sameN (joinN a) (lowN (joinN a)) = true := by
  rw [ha.lowN, ha.same ha.low, lowL_idem]; simp
theorem case_cmp {a b : List (List UInt8)} (ha : Nm a) (hb : Nm b) : cmpN (joinN a) (joinN b) = cmpN (lowN (joinN a)) (lowN (joinN b)) := by
  rw [ha.lowN, hb.lowN, ha.cmp hb, ha.low.cmp hb.low, lowL_idem, lowL_idem]
theorem case_with {a b : List (List UInt8)} (ha : Nm a) (hb : Nm b) : withN (joinN a) (joinN b) = withN (lowN (joinN a)) (lowN (joinN b)) := by
  rw [ha.lowN, hb.lowN, ha.within_eq hb, ha.low.within_eq hb.low, lowL_idem, lowL_idem]
theorem case_low {a : List (List UInt8)} (ha : Nm a) : lowN (lowN (joinN a)) = lowN (joinN a) := by
  rw [ha.lowN, ha.low.lowN, lowL_idem]
theorem no_same {a b : List UInt8} (h : canN a = false ∨ canN b = false) : sameN a b = false ∧ cmpN a b = 0 := by
  rcases h with h | h <;> simp [sameN, cmpN, h]
-- zones
theorem zone_root {a : List (List UInt8)} (ha : Nm a) : withN (joinN a) [0] = true := (ha.within nm_root).2 (List.nil_suffix)
theorem zone_self {a : List (List UInt8)} (ha : Nm a) : withN (joinN a) (joinN a) = true := (ha.within ha).2 (List.suffix_refl _)
theorem zone_cmp {a b : List (List UInt8)} (ha : Nm a) (hb : Nm b) (h : withN (joinN a) (joinN b) = true) : cmpN (joinN b) (joinN a) ≤ 0 := by
  rw [hb.cmp ha]
  exact cmpL_prefix (List.reverse_prefix.2 ((ha.within hb).1 h))
theorem zone_par {a b : List (List UInt8)} (ha : Nm a) (hb : Nm b) (h : withN (joinN a) (joinN b) = true) (hp : hasP (joinN b) = true) : withN (joinN a) (parS (joinN b)) = true := by
  obtain ⟨e1, e2⟩ := hb.par
  rw [e2, decide_eq_true_eq] at hp
  rw [e1, if_neg hp, ha.within (hb.drop 1), lowL_drop]
  exact (List.drop_suffix _ _).trans ((ha.within hb).1 h)
theorem zone_tail {a b : List UInt8} (h : withN a b = true) : sameN (tailN a (cntN b)) b = true := by
  simp only [withN, Bool.and_eq_true] at h
  exact h.2

theorem climb_in' {ls : List (List UInt8)} (h : Nm ls) (hp : hasP (joinN ls) = true) : withN (joinN ls) (parS (joinN ls)) = true ∧ withN (parS (joinN ls)) (joinN ls) = false ∧ parS (joinN ls) = joinN (ls.drop 1) ∧ ls ≠ [] := by
  obtain ⟨e1, e2⟩ := h.par
  match ls, h, hp, e1, e2 with
  | [], h, hp, e1, e2 => rw [e2] at hp; simp at hp
  | l :: ls, h, hp, e1, e2 =>
    rw [if_neg (by simp)] at e1
    rw [e1]
    exact ⟨(climb_in h).1, (climb_in h).2, rfl, by simp⟩
theorem hasP_no {ls : List (List UInt8)} (h : Nm ls) (hp : hasP (joinN ls) = false) : ls = [] := by
  rw [h.par.2] at hp
  simpa using hp


theorem canR_other {t : Int} {d : List UInt8} (h : 256 ≤ t ∧ t ≤ 65535) (hd : d.length ≤ 65535) : canR t d = true ∧ namR t d = [] := by
  have e : canR t d = true := by
    rw [canR, if_neg (by omega), if_neg (by omega), if_neg (by omega), if_neg (by omega), if_neg (by omega), if_neg (by omega), if_neg (by omega)]
  exact ⟨e, by rw [namR, if_pos e, if_neg (by omega), if_neg (by omega)]⟩
theorem canR_out {t : Int} {d : List UInt8} (h : t < 0 ∨ 65535 < t) : canR t d = false := by rw [canR, if_pos (by omega)]
theorem canR_name {t : Int} {d : List UInt8} (h : t = 2 ∨ t = 5 ∨ t = 12) (hd : d.length ≤ 65535) : canR t d = canN d := by
  rw [canR, if_neg (by omega), if_neg (by omega), if_neg (by omega), if_pos h]
theorem namR_name {t : Int} {d : List UInt8} (h : t = 2 ∨ t = 5 ∨ t = 12) (hd : d.length ≤ 65535) (hc : canN d = true) : namR t d = [d] := by
  rw [namR, if_pos (by rw [canR_name h hd, hc]), if_pos h]
theorem labs_more : ∀ {ls : List (List UInt8)} {r : List UInt8}, GoodN ls → r ≠ [] → labs (joinN ls ++ r) = none
  | [], r, _, hr => by
    rw [joinN_nil, List.singleton_append, labs, if_pos rfl, if_neg hr]
  | l :: ls, r, g, hr => by
    have h1 := byte_len g.head.2
    rw [joinN_cons, List.cons_append, List.append_assoc, labs, if_neg (byte_ne g.head), h1, if_neg (by simp; have := g.head; omega), List.drop_left, labs_more g.tail hr]
    rfl
theorem canN_more {n : List UInt8} {c : UInt8} (h : canN n = true) : canN (n ++ [c]) = false := by
  obtain ⟨ls, g, rfl, _⟩ := canN_iff.1 h
  rw [canN, labs_more g (by simp)]; rfl
theorem plain_can (a : List UInt8) : canN (plainN a) = true := by
  obtain ⟨ls, h, e, _⟩ := plain_nm a
  rw [e]; exact h.can
def bT (xs : List (List UInt8)) : List UInt8 := xs.flatMap fun x => byte (x.length : Int) :: x
def oT (xs : List (List UInt8)) : List UInt8 := xs.flatMap fun x => 0 :: 9 :: 0 :: byte (x.length : Int) :: x
def Sh (xs : List (List UInt8)) : Prop := ∀ x ∈ xs, x.length ≤ 255
theorem byte_255 {x : List UInt8} (h : x.length ≤ 255) : (byte (x.length : Int)).toNat = x.length := byte_nat (by omega)
theorem bT_len : ∀ {xs : List (List UInt8)}, Sh xs → (bT xs).length ≤ 256 * xs.length
  | [], _ => by simp [bT]
  | x :: xs, h => by
    have := bT_len (xs := xs) fun y hy => h y (by simp [hy])
    have := h x (by simp)
    simp only [bT, List.flatMap_cons, List.length_append, List.length_cons] at *
    omega
theorem oT_len : ∀ {xs : List (List UInt8)}, Sh xs → (oT xs).length ≤ 259 * xs.length
  | [], _ => by simp [oT]
  | x :: xs, h => by
    have := oT_len (xs := xs) fun y hy => h y (by simp [hy])
    have := h x (by simp)
    simp only [oT, List.flatMap_cons, List.length_append, List.length_cons] at *
    omega
theorem txt_more : ∀ {xs : List (List UInt8)} {r : List UInt8}, Sh xs → txtW (bT xs ++ r) = txtW r
  | [], r, _ => rfl
  | x :: xs, r, h => by
    have hx := h x (by simp)
    have hb := byte_255 hx
    have e : bT (x :: xs) ++ r = byte (x.length : Int) :: (x ++ (bT xs ++ r)) := by simp [bT]
    have e0 : (byte (x.length : Int) :: (x ++ (bT xs ++ r))).getD 0 default = byte (x.length : Int) := rfl
    rw [e, txtW_step (by simp) (by rw [e0, hb]; simp; omega), e0, hb, Nat.add_comm, List.drop_succ_cons, List.drop_left]
    exact txt_more fun y hy => h y (by simp [hy])
theorem opt_all : ∀ {xs : List (List UInt8)}, Sh xs → optR (oT xs) = true
  | [], _ => by rw [optR_end (by simp [oT])]
  | x :: xs, h => by
    have hx := h x (by simp)
    have hb := byte_255 hx
    have e : oT (x :: xs) = 0 :: 9 :: 0 :: byte (x.length : Int) :: (x ++ oT xs) := by simp [oT]
    have e0 : optK (0 :: 9 :: 0 :: byte (x.length : Int) :: (x ++ oT xs)) = 4 + x.length := by
      show 4 + ((0 : UInt8).toNat * 256 + (byte (x.length : Int)).toNat) = _
      rw [hb]; simp
    rw [e, optR_step (by simp) (by simp only [List.length_cons]; omega) (by rw [e0]; simp only [List.length_cons, List.length_append]; omega), e0, Nat.add_comm]
    simp only [List.drop_succ_cons, List.drop_left]
    exact opt_all fun y hy => h y (by simp [hy])
theorem txt_one : txtW [1] = false := txtW_no (by decide) (by decide)
theorem bT_nil {xs : List (List UInt8)} : 0 < (bT xs).length ↔ 0 < xs.length := by
  cases xs with
  | nil => simp [bT]
  | cons x xs => simp [bT]
theorem canR_txt {d : List UInt8} (h : d.length ≤ 65535) : canR 16 d = txtR d := by
  rw [canR, if_neg (by omega), if_neg (by decide), if_neg (by decide), if_neg (by decide), if_neg (by decide), if_pos rfl]
theorem canR_opt {d : List UInt8} (h : d.length ≤ 65535) : canR 41 d = optR d := by
  rw [canR, if_neg (by omega), if_neg (by decide), if_neg (by decide), if_neg (by decide), if_neg (by decide), if_neg (by decide), if_pos rfl]
theorem canR_mx {d : List UInt8} (h : d.length ≤ 65535) : canR 15 d = (decide (2 < d.length) && canN (d.drop 2)) := by
  rw [canR, if_neg (by omega), if_neg (by decide), if_neg (by decide), if_neg (by decide), if_pos rfl]
def cut255 (x : List UInt8) : List UInt8 := x.take (min (x.length : Int) 255).toNat
theorem sh_cut (l : List (List UInt8)) : Sh (l.map cut255) := fun x hx => by
  obtain ⟨y, _, rfl⟩ := List.mem_map.1 hx
  rw [cut255, List.length_take]
  omega
theorem three {k : Nat} (h : k < 3) : ([2, 5, 12] : List Int).getD k default = 2 ∨ ([2, 5, 12] : List Int).getD k default = 5 ∨ ([2, 5, 12] : List Int).getD k default = 12 := by
  match k, h with
  | 0, _ => exact Or.inl rfl
  | 1, _ => exact Or.inr (Or.inl rfl)
  | 2, _ => exact Or.inr (Or.inr rfl)

set_option maxRecDepth 20000 in
theorem c_ciceronelaw03_RdataOthers (t : Int) (b : List UInt8) (ht : -9223372036854775808 ≤ t ∧ t ≤ 9223372036854775807) (h : b.length ≤ 140737488351232) : AC Try.prog 7 [i64 t, .fz 0 b.length (cl bc b)] emp (Ret (tf true)) := by
  refine AC.intro te_ok (fn := Try.f7) ⟨Try.func7, rfl, rfl⟩ (Nat.le_of_ble_eq_true rfl) ?_
  refine AWp.seq ?_
  refine AWp.region ?_
  refine AOps.cons rfl rfl (q_assign) ?_
  refine AOps.nil ?_
  refine AWp.seq ?_
  refine AWp.region ?_
  refine AOps.cons rfl rfl (q_move) ?_
  refine AOps.cons rfl rfl (q_conv_u64) ?_
  refine AOps.cons rfl rfl (q_rem) ?_
  refine AOps.cons rfl rfl (q_conv_i64) ?_
  refine AOps.cons rfl rfl (q_add) ?_
  refine AOps.cons rfl rfl (q_assign) ?_
  refine AOps.nil ?_
  refine AWp.seq ?_
  refine AWp.region ?_
  refine AOps.cons rfl rfl (q_move) ?_
  refine AOps.cons rfl rfl (q_move) ?_
  refine AOps.cons rfl rfl (q_len) ?_
  refine AOps.cons rfl rfl (q_min) ?_
  refine AOps.cons rfl rfl (q_sl) ?_
  refine AOps.cons rfl rfl (q_assign) ?_
  refine AOps.nil ?_
  refine AWp.seq ?_
  refine AWp.region ?_
  have hT : 256 ≤ 256 + t % 18446744073709551616 % 65280 ∧ 256 + t % 18446744073709551616 % 65280 ≤ 65535 := by omega
  have hd : (b.take (min (b.length : Int) 65535).toNat).length ≤ 65535 := by rw [List.length_take]; omega
  have ho := canR_other hT hd
  refine AOps.cons rfl rfl (q_move) ?_
  refine AOps.cons rfl rfl (q_move) ?_
  refine AOps.bool rfl rfl (q_call (0) (hc := c_rdata_Can _ _ _ (by first | assumption | omega | decide | (simp; omega) | (simp [*]; done)) (by first | assumption | omega | decide | (simp; omega) | (simp [*]; done)))) (fun h3_2 => ?_) (fun h3_2 => ?_)
  · skip
    refine AOps.cons rfl rfl (q_move) ?_
    refine AOps.gcons rfl rfl rfl rfl rfl (q_move) ?_
    refine AOps.gcons rfl rfl rfl rfl rfl (q_move) ?_
    refine AOps.gcons rfl rfl rfl rfl rfl (q_call (0) (hc := c_rdata_Names _ _ _ (by first | assumption | omega | decide | (simp; omega) | (simp [*]; done)) (by first | assumption | omega | decide | (simp; omega) | (simp [*]; done)))) ?_
    refine AOps.gcons rfl rfl rfl rfl rfl (q_len) ?_
    refine AOps.gdec rfl rfl rfl rfl rfl (q_eql) (fun h3_8 => ?_) (fun h3_8 => ?_)
    · skip
      refine AOps.cons rfl rfl (q_pick) ?_
      refine AOps.cons rfl rfl (q_move) ?_
      refine AOps.gcons rfl rfl rfl rfl rfl (q_move) ?_
      refine AOps.gbool rfl rfl rfl rfl rfl (q_call (0) (hc := c_rdata_Can _ _ _ (by first | assumption | omega | decide | (simp; omega) | (simp [*]; done)) (by first | assumption | omega | decide | (simp; omega) | (simp [*]; done)))) (fun h3_12 => ?_) (fun h3_12 => ?_)
      · exfalso; rw [canR_out (by omega)] at h3_12; cases h3_12
      · skip
        refine AOps.gcons rfl rfl rfl rfl rfl (q_not) ?_
        refine AOps.cons rfl rfl (q_pick) ?_
        refine AOps.cons rfl rfl (q_move) ?_
        refine AOps.gcons rfl rfl rfl rfl rfl (q_move) ?_
        refine AOps.gcons rfl rfl rfl rfl rfl (q_call (0) (hc := c_rdata_Can _ _ _ (by first | assumption | omega | decide | (simp; omega) | (simp [*]; done)) (by first | assumption | omega | decide | (simp; omega) | (simp [*]; done)))) ?_
        refine AOps.gcons rfl rfl rfl rfl rfl (q_not) ?_
        refine AOps.cons rfl rfl (q_pick) ?_
        refine AOps.cons rfl rfl (q_assign) ?_
        refine AOps.nil ?_
        refine AWp.ret ?_
        show Fin te Try.f7 _ _
        refine q_ret (0) [_] [_] ?_
        exact congrArg tf (by rw [canR_out (by omega)]; rfl)
    · exfalso; exact h3_8 (by rw [ho.2]; rfl)
  · exfalso; rw [ho.1] at h3_2; cases h3_2

set_option maxRecDepth 20000 in
theorem c_ciceronelaw03_RdataNamed (a : List UInt8) (t : Int) (ht : -9223372036854775808 ≤ t ∧ t ≤ 9223372036854775807) (ha : a.length ≤ 140737488351232) : AC Try.prog 10 [.fz 0 a.length (cl bc a), i64 t] emp (Ret (tf true)) := by
  obtain ⟨N, hN, eN, _⟩ := plain_nm a
  have lN : (plainN a).length ≤ 255 := by rw [eN]; exact hN.2
  have cN := plain_can a
  refine AC.intro te_ok (fn := Try.f10) ⟨Try.func10, rfl, rfl⟩ (Nat.le_of_ble_eq_true rfl) ?_
  refine AWp.seq ?_
  refine AWp.region ?_
  refine AOps.cons rfl rfl (q_assign) ?_
  refine AOps.nil ?_
  refine AWp.seq ?_
  refine AWp.region ?_
  refine AOps.cons rfl rfl (q_move) ?_
  refine AOps.cons rfl rfl (q_call (0) (hc := c_ciceroneplain_Name _ _ (by first | assumption | omega | decide | (simp; omega) | (simp [*]; done)))) ?_
  refine AOps.cons rfl rfl (q_assign) ?_
  refine AOps.nil ?_
  refine AWp.seq ?_
  refine AWp.region ?_
  refine AOps.cons rfl rfl (q_bs 300 ic [2, 5, 12] [(_, _), (_, _), (_, _)]) ?_
  refine AOps.cons rfl rfl (q_move) ?_
  refine AOps.cons rfl rfl (q_conv_u64) ?_
  refine AOps.cons rfl rfl (q_rem) ?_
  refine AOps.cons rfl rfl (q_conv_i64) ?_
  refine AOps.cons rfl rfl (q_ix) ?_
  refine AOps.cons rfl rfl (q_load) ?_
  refine AOps.cons rfl rfl (q_assign) ?_
  refine AOps.nil ?_
  refine AWp.seq ?_
  refine AWp.region ?_
  have hT := three (k := (t % 18446744073709551616 % 3).toNat) (by omega)
  generalize ([2, 5, 12] : List Int).getD (t % 18446744073709551616 % 3).toNat default = T at hT ⊢
  have hnl : (namR T (plainN a)).length ≤ 1 := by rw [namR_name hT (by omega) cN]; simp
  refine AOps.cons rfl rfl (q_move) ?_
  refine AOps.cons rfl rfl (q_move) ?_
  refine AOps.cons rfl rfl (q_conv_sl 402) ?_
  refine AOps.bool rfl rfl (q_call (0) (hc := c_rdata_Can _ _ _ (by first | assumption | omega | decide | (simp; omega) | (simp [*]; done)) (by first | assumption | omega | decide | (simp; omega) | (simp [*]; done)))) (fun h3_3 => ?_) (fun h3_3 => ?_)
  · skip
    refine AOps.cons rfl rfl (q_move) ?_
    refine AOps.gcons rfl rfl rfl rfl rfl (q_move) ?_
    refine AOps.gcons rfl rfl rfl rfl rfl (q_move) ?_
    refine AOps.gcons rfl rfl rfl rfl rfl (q_conv_sl 407) ?_
    refine AOps.gcons rfl rfl rfl rfl rfl (q_call (0) (hc := c_rdata_Names _ _ _ (by first | assumption | omega | decide | (simp; omega) | (simp [*]; done)) (by first | assumption | omega | decide | (simp; omega) | (simp [*]; done)))) ?_
    refine AOps.gcons rfl rfl rfl rfl rfl (q_move) ?_
    refine AOps.gcons rfl rfl rfl rfl rfl (q_bs 410 sc [_] [(_, _)]) ?_
    refine AOps.gbool rfl rfl rfl rfl rfl (q_call (0) (hc := c_slices_Equal_string_string _ _ _ _ (by first | assumption | omega | decide | (simp; omega) | (simp [*]; done)))) (fun h3_11 => ?_) (fun h3_11 => ?_)
    · skip
      refine AOps.cons rfl rfl (q_pick) ?_
      refine AOps.cons rfl rfl (q_move) ?_
      refine AOps.gcons rfl rfl rfl rfl rfl (q_move) ?_
      refine AOps.gcons rfl rfl rfl rfl rfl (q_move) ?_
      refine AOps.gcons rfl rfl rfl rfl rfl (q_sadd) ?_
      refine AOps.gcons rfl rfl rfl rfl rfl (q_conv_sl 417) ?_
      refine AOps.gbool rfl rfl rfl rfl rfl (q_call (0) (hc := c_rdata_Can _ _ _ (by first | assumption | omega | decide | (simp; omega) | (simp [*]; done)) (by first | assumption | omega | decide | (simp; omega) | (simp [*]; done)))) (fun h3_18 => ?_) (fun h3_18 => ?_)
      · exfalso; rw [canR_name hT (by simp; omega), canN_more cN] at h3_18; cases h3_18
      · skip
        refine AOps.gcons rfl rfl rfl rfl rfl (q_not) ?_
        refine AOps.cons rfl rfl (q_pick) ?_
        refine AOps.cons rfl rfl (q_move) ?_
        refine AOps.gcons rfl rfl rfl rfl rfl (q_move) ?_
        refine AOps.gcons rfl rfl rfl rfl rfl (q_sadd) ?_
        refine AOps.gcons rfl rfl rfl rfl rfl (q_conv_sl 424) ?_
        refine AOps.gbool rfl rfl rfl rfl rfl (q_call (0) (hc := c_rdata_Can _ _ _ (by first | assumption | omega | decide | (simp; omega) | (simp [*]; done)) (by first | assumption | omega | decide | (simp; omega) | (simp [*]; done)))) (fun h3_25 => ?_) (fun h3_25 => ?_)
        · skip
          refine AOps.cons rfl rfl (q_pick) ?_
          refine AOps.cons rfl rfl (q_move) ?_
          refine AOps.gcons rfl rfl rfl rfl rfl (q_move) ?_
          refine AOps.gcons rfl rfl rfl rfl rfl (q_call (0) (hc := c_ciceroneref01_Can _ (by first | assumption | omega | decide | (simp; omega) | (simp [*]; done)))) ?_
          refine AOps.cons rfl rfl (q_pick) ?_
          refine AOps.cons rfl rfl (q_assign) ?_
          refine AOps.nil ?_
          refine AWp.ret ?_
          show Fin te Try.f10 _ _
          refine q_ret (0) [_] [_] ?_
          rw [cN]; rfl
        · exfalso; rw [canR_mx (by simp; omega)] at h3_25; simp [cN] at h3_25
          have hjl := joinN_length N
          rw [← eN, h3_25] at hjl
          simp at hjl
    · exfalso; rw [namR_name hT (by omega) cN] at h3_11; simp at h3_11
  · exfalso; rw [canR_name hT (by omega), cN] at h3_3; cases h3_3

set_option maxRecDepth 20000 in
theorem c_ciceronelaw03_RdataTexts (l : List (List UInt8)) (hl : l.length ≤ 140737488351232) : AC Try.prog 6 [.fz 0 l.length (cl (lc 0 bc) l)] emp (Ret (tf true)) := by
  refine AC.intro te_ok (fn := Try.f6) ⟨Try.func6, rfl, rfl⟩ (Nat.le_of_ble_eq_true rfl) ?_
  refine AWp.seq ?_
  refine AWp.region ?_
  refine AOps.cons rfl rfl (q_assign) ?_
  refine AOps.nil ?_
  refine AWp.seq ?_
  refine AWp.region ?_
  refine AOps.cons rfl rfl (q_nilrow 200 1 bc) ?_
  refine AOps.cons rfl rfl (q_nilrow 201 1 bc) ?_
  refine AOps.nil ?_
  refine AWp.seq ?_
  refine AWp.seq ?_
  refine AWp.region ?_
  refine AOps.cons rfl rfl (q_move) ?_
  refine AOps.cons rfl rfl (q_move) ?_
  refine AOps.cons rfl rfl (q_len) ?_
  refine AOps.cons rfl rfl (q_min) ?_
  refine AOps.cons rfl rfl (q_sl) ?_
  refine AOps.cons rfl rfl (q_len) ?_
  refine AOps.cons rfl rfl (q_move) ?_
  refine AOps.nil ?_
  refine AWp.block ?_
  refine AWp.loopR (α := Nat × List UInt8 × Nat × List UInt8 × Nat) [3, 4, 6, 13, 14, 15, 16, 17, 18, 19, 20, 21, 22, 23, 24, 25, 26, 27, 28, 29, 30, 31, 32, 33, 34, 35, 36, 37, 38] (fun x_ => [(13, i64 (x_.1)), (3, .sl 200 (x_.2.2.1) 0 (x_.2.1).length 1), (4, .sl 201 (x_.2.2.2.2) 0 (x_.2.2.2.1).length 1)]) (fun x_ => [(200, .row (cl bc (x_.2.1)) 1 (x_.2.2.1)), (201, .row (cl bc (x_.2.2.2.1)) 1 (x_.2.2.2.2))]) (fun x_ => (x_.1) ≤ (l.take (min (l.length : Int) 20).toNat).length ∧ (x_.2.1) = bT (((l.take (min (l.length : Int) 20).toNat).take (x_.1)).map cut255) ∧ (x_.2.2.2.1) = oT (((l.take (min (l.length : Int) 20).toNat).take (x_.1)).map cut255)) (fun x_ => (l.take (min (l.length : Int) 20).toNat).length - (x_.1)) (0, [], 0, [], 0) ?_ (Back.mk' (HasT.cons (HasT.cons (HasT.cons HasT.nil))) (HasH.cons (HasH.cons HasH.nil))) ?_
  · exact ⟨Nat.zero_le _, rfl, rfl⟩
  · rintro ⟨i, bb, vb, oo, vo⟩ hI3
    change i ≤ (l.take (min (l.length : Int) 20).toNat).length ∧ bb = bT (((l.take (min (l.length : Int) 20).toNat).take i).map cut255) ∧ oo = oT (((l.take (min (l.length : Int) 20).toNat).take i).map cut255) at hI3
    obtain ⟨hi, hb, ho⟩ := hI3
    refine AWp.as (s' := AS.over _ [3, 4, 6, 13, 14, 15, 16, 17, 18, 19, 20, 21, 22, 23, 24, 25, 26, 27, 28, 29, 30, 31, 32, 33, 34, 35, 36, 37, 38] [(13, i64 i), (3, .sl 200 vb 0 bb.length 1), (4, .sl 201 vo 0 oo.length 1)] [(200, .row (cl bc bb) 1 vb), (201, .row (cl bc oo) 1 vo)]) rfl ?_
    have h20 : (l.take (min (l.length : Int) 20).toNat).length ≤ 20 := by rw [List.length_take]; omega
    have hlb := bT_len (sh_cut ((l.take (min (l.length : Int) 20).toNat).take i))
    have hlo := oT_len (sh_cut ((l.take (min (l.length : Int) 20).toNat).take i))
    rw [← hb, List.length_map, List.length_take] at hlb
    rw [← ho, List.length_map, List.length_take] at hlo
    refine AWp.seq ?_
    refine AWp.region ?_
    refine AOps.dec rfl rfl (q_lss) (fun h3_0 => ?_) (fun h3_0 => ?_)
    · skip
      refine AOps.nil ?_
      refine AWp.seq ?_
      refine AWp.cond_t rfl ?_
      refine AWp.skip ?_
      refine AWp.seq ?_
      refine AWp.block ?_
      refine AWp.seq ?_
      refine AWp.region ?_
      refine AOps.cons rfl rfl (q_ix) ?_
      refine AOps.cons rfl rfl (q_load) ?_
      refine AOps.cons rfl rfl (q_assign) ?_
      refine AOps.nil ?_
      refine AWp.seq ?_
      refine AWp.region ?_
      refine AOps.cons rfl rfl (q_move) ?_
      refine AOps.cons rfl rfl (q_move) ?_
      refine AOps.cons rfl rfl (q_len) ?_
      refine AOps.cons rfl rfl (q_min) ?_
      refine AOps.cons rfl rfl (q_sl) ?_
      refine AOps.cons rfl rfl (q_assign) ?_
      refine AOps.nil ?_
      refine AWp.seq ?_
      refine AWp.region ?_
      refine AOps.cons rfl rfl (q_move) ?_
      refine AOps.cons rfl rfl (q_move) ?_
      refine AOps.cons rfl rfl (q_len) ?_
      refine AOps.cons rfl rfl (q_conv_u8) ?_
      refine AOps.cons rfl rfl (q_bs 704 bc [_] [(_, _)]) ?_
      refine AOps.cons rfl rfl (q_app) ?_
      refine AOps.cons rfl rfl (q_move) ?_
      refine AOps.cons rfl rfl (q_app) ?_
      refine AOps.cons rfl rfl (q_assign) ?_
      refine AOps.nil ?_
      refine AWp.region ?_
      refine AOps.cons rfl rfl (q_move) ?_
      refine AOps.cons rfl rfl (q_move) ?_
      refine AOps.cons rfl rfl (q_len) ?_
      refine AOps.cons rfl rfl (q_conv_u8) ?_
      refine AOps.cons rfl rfl (q_bs 804 bc [0, 9, 0, _] [(_, _), (_, _), (_, _), (_, _)]) ?_
      refine AOps.cons rfl rfl (q_app) ?_
      refine AOps.cons rfl rfl (q_move) ?_
      refine AOps.cons rfl rfl (q_app) ?_
      refine AOps.cons rfl rfl (q_assign) ?_
      refine AOps.nil ?_
      refine AWp.region ?_
      refine AOps.cons rfl rfl (q_add) ?_
      refine AOps.cons rfl rfl (q_move) ?_
      refine AOps.nil ?_
      refine ⟨(i + 1, _, _, _, _), ?_, Back.mk' (HasT.cons (HasT.cons (HasT.cons HasT.nil))) (HasH.cons (HasH.cons HasH.nil)), ?_⟩
      · try dsimp only
        refine ⟨by omega, ?_, ?_⟩
        · rw [hb, take_map_step _ (by omega)]; simp [bT, cut255]
        · rw [ho, take_map_step _ (by omega)]; simp [oT, cut255]
      · try dsimp only
        first | omega | (simp; omega)
    · skip
      refine AOps.nil ?_
      refine AWp.seq ?_
      refine AWp.cond_f rfl ?_
      refine AWp.exit ?_
      refine AWp.seq ?_
      refine AWp.region ?_
      obtain rfl : i = (l.take (min (l.length : Int) 20).toNat).length := by omega
      rw [List.take_length] at hb ho
      have hS := sh_cut (l.take (min (l.length : Int) 20).toNat)
      have e1 : canR 16 bb = decide ((0 : Int) < l.length) := by
        have hw : txtW bb = true := by
          have := txt_more (r := []) hS
          rw [List.append_nil] at this
          rw [hb, this, txtW_end rfl]
        rw [canR_txt (by omega), txtR, hw, Bool.and_true]
        exact decide_eq_decide.2 (by rw [hb, bT_nil, List.length_map, List.length_take]; omega)
      have e2 : canR 41 oo = true := by rw [canR_opt (by omega), ho]; exact opt_all hS
      have e3 : canR 16 (bb ++ [1]) = false := by rw [canR_txt (by simp; omega), txtR, hb, txt_more hS, txt_one, Bool.and_false]
      refine AOps.cons rfl rfl (q_move) ?_
      refine AOps.cons rfl rfl (q_call (0) (hc := c_rdata_Can _ _ _ (by first | assumption | omega | decide | (simp; omega) | (simp [*]; done)) (by first | assumption | omega | decide | (simp; omega) | (simp [*]; done)))) ?_
      refine AOps.cons rfl rfl (q_move) ?_
      refine AOps.cons rfl rfl (q_len) ?_
      refine AOps.cons rfl rfl (q_gtr) ?_
      refine AOps.bool rfl rfl (q_beql) (fun h9_5 => ?_) (fun h9_5 => ?_)
      · skip
        refine AOps.cons rfl rfl (q_move) ?_
        refine AOps.gcons rfl rfl rfl rfl rfl (q_move) ?_
        refine AOps.gbool rfl rfl rfl rfl rfl (q_call (0) (hc := c_rdata_Can _ _ _ (by first | assumption | omega | decide | (simp; omega) | (simp [*]; done)) (by first | assumption | omega | decide | (simp; omega) | (simp [*]; done)))) (fun h9_8 => ?_) (fun h9_8 => ?_)
        · skip
          refine AOps.cons rfl rfl (q_pick) ?_
          refine AOps.cons rfl rfl (q_move) ?_
          refine AOps.gcons rfl rfl rfl rfl rfl (q_move) ?_
          refine AOps.gcons rfl rfl rfl rfl rfl (q_bs 1012 bc [1] [(_, _)]) ?_
          refine AOps.gcons rfl rfl rfl rfl rfl (q_app) ?_
          refine AOps.gcons rfl rfl rfl rfl rfl (q_call (0) (hc := c_rdata_Can _ _ _ (by first | assumption | omega | decide | (simp; omega) | (simp [*]; done)) (by first | assumption | omega | decide | (simp; omega) | (simp [*]; done)))) ?_
          refine AOps.gcons rfl rfl rfl rfl rfl (q_not) ?_
          refine AOps.cons rfl rfl (q_pick) ?_
          refine AOps.cons rfl rfl (q_assign) ?_
          refine AOps.nil ?_
          refine AWp.ret ?_
          show Fin te Try.f6 _ _
          refine q_ret (0) [_] [_] ?_
          rw [e3]; rfl
        · exfalso; rw [e2] at h9_8; cases h9_8
      · exfalso; rw [e1] at h9_5; simp at h9_5

end Go.Proofs.Ytolaeondhhnfoaa.Fw
