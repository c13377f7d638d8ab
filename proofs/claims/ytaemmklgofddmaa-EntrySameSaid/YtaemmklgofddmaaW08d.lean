/- Walks of layer 8: entries that delete. -/
import Derived.Test.YtaemmklgofddmaaW08c
set_option linter.unusedVariables false
set_option linter.unusedSimpArgs false
namespace Go.Proofs.Ytaemmklgofddmaa.Fw
open Go.RowKit

theorem bl_irrefl : ∀ x : List UInt8, Op.bytesLess x x = false
  | [] => rfl
  | a :: x => by simp [Op.bytesLess, bl_irrefl x]
theorem bl_total : ∀ {x y : List UInt8}, Op.bytesLess x y = false → Op.bytesLess y x = false → x = y
  | [], [], _, _ => rfl
  | [], _ :: _, h, _ => by simp [Op.bytesLess] at h
  | _ :: _, [], _, h => by simp [Op.bytesLess] at h
  | a :: x, b :: y, h1, h2 => by
    simp only [Op.bytesLess, Bool.or_eq_false_iff, Bool.and_eq_false_imp, decide_eq_false_iff_not, beq_iff_eq] at h1 h2
    have e : a = b := by
      have h3 := h1.1; have h4 := h2.1
      rw [UInt8.lt_iff_toNat_lt] at h3 h4
      exact UInt8.toNat_inj.1 (by omega)
    subst e
    rw [bl_total (h1.2 rfl) (h2.2 rfl)]
theorem bl_trans : ∀ {x y z : List UInt8}, Op.bytesLess x y = true → Op.bytesLess y z = true → Op.bytesLess x z = true
  | _, [], _, h, _ => by simp [Op.bytesLess] at h
  | _, _ :: _, [], _, h => by simp [Op.bytesLess] at h
  | [], _ :: _, _ :: _, _, _ => by simp [Op.bytesLess]
  | a :: x, b :: y, c :: z, h1, h2 => by
    simp only [Op.bytesLess, Bool.or_eq_true, Bool.and_eq_true, decide_eq_true_eq, beq_iff_eq, UInt8.lt_iff_toNat_lt] at h1 h2 ⊢
    rcases h1 with h1 | ⟨rfl, h1⟩
    · rcases h2 with h2 | ⟨rfl, h2⟩
      · exact Or.inl (by omega)
      · exact Or.inl h1
    · rcases h2 with h2 | ⟨rfl, h2⟩
      · exact Or.inl h2
      · exact Or.inr ⟨rfl, bl_trans h1 h2⟩
theorem bl_asymm {x y : List UInt8} (h : Op.bytesLess x y = true) : Op.bytesLess y x = false := by
  cases h2 : Op.bytesLess y x with
  | false => rfl
  | true => have := bl_trans h h2; rw [bl_irrefl] at this; cases this
theorem cmpS_lt {x y : List UInt8} (h : Op.bytesLess x y = true) : cmpS x y = -1 := if_pos h
theorem cmpS_gt {x y : List UInt8} (h : Op.bytesLess y x = true) : cmpS x y = 1 := by
  have h1 := bl_asymm h
  have h2 : x ≠ y := fun e => by subst e; rw [bl_irrefl] at h; cases h
  simp [cmpS, h1, h2]
theorem cmpS_self (x : List UInt8) : cmpS x x = 0 := by simp [cmpS, bl_irrefl]
theorem cmpS_cases (x y : List UInt8) : (x = y ∧ cmpS x y = 0) ∨ (Op.bytesLess x y = true ∧ cmpS x y = -1) ∨ (Op.bytesLess y x = true ∧ cmpS x y = 1) := by
  cases h1 : Op.bytesLess x y with
  | true => exact Or.inr (Or.inl ⟨rfl, cmpS_lt h1⟩)
  | false =>
    cases h2 : Op.bytesLess y x with
    | true => exact Or.inr (Or.inr ⟨rfl, cmpS_gt h2⟩)
    | false => have := bl_total h1 h2; subst this; exact Or.inl ⟨rfl, cmpS_self x⟩
theorem cmpS_swap (x y : List UInt8) : cmpS y x = -cmpS x y := by
  rcases cmpS_cases x y with ⟨rfl, h⟩ | ⟨h, e⟩ | ⟨h, e⟩
  · rw [h]; rfl
  · rw [e, cmpS_gt h]; rfl
  · rw [e, cmpS_lt h]
theorem cmpS_zero {x y : List UInt8} : cmpS x y = 0 ↔ x = y := by
  rcases cmpS_cases x y with ⟨rfl, h⟩ | ⟨h, e⟩ | ⟨h, e⟩
  · simp [h]
  · rw [e]; exact ⟨fun h => by omega, fun h2 => by subst h2; rw [bl_irrefl] at h; cases h⟩
  · rw [e]; exact ⟨fun h => by omega, fun h2 => by subst h2; rw [bl_irrefl] at h; cases h⟩
theorem cmpL_swap : ∀ a b : List (List UInt8), cmpL b a = -cmpL a b
  | [], [] => rfl
  | [], _ :: _ => rfl
  | _ :: _, [] => rfl
  | x :: a, y :: b => by
    have h1 := cmpS_swap x y
    have h2 := cmpL_swap a b
    simp only [cmpL]
    split <;> split <;> omega
theorem cmpL_zero : ∀ {a b : List (List UInt8)}, cmpL a b = 0 ↔ a = b
  | [], [] => by simp [cmpL]
  | [], _ :: _ => by simp [cmpL]
  | _ :: _, [] => by simp [cmpL]
  | x :: a, y :: b => by
    have h1 := @cmpS_zero x y
    have h2 := @cmpL_zero a b
    simp only [cmpL]
    split
    · rename_i h; rw [h2, List.cons.injEq, ← h1]; simp [h]
    · rename_i h; rw [List.cons.injEq, ← h1]; simp [h]
theorem cmpL_trans : ∀ {a b c : List (List UInt8)}, cmpL a b ≤ 0 → cmpL b c ≤ 0 → cmpL a c ≤ 0
  | [], _, [], _, _ => by simp [cmpL]
  | [], _, _ :: _, _, _ => by simp [cmpL]
  | _ :: _, [], _, h, _ => by simp [cmpL] at h
  | _ :: _, _ :: _, [], _, h => by simp [cmpL] at h
  | x :: a, y :: b, z :: c, h1, h2 => by
    simp only [cmpL] at h1 h2 ⊢
    rcases cmpS_cases x y with ⟨rfl, e⟩ | ⟨h, e⟩ | ⟨h, e⟩
    · rw [if_pos e] at h1
      split at h2
      · rename_i h; rw [if_pos h]; exact cmpL_trans h1 h2
      · rename_i h; rw [if_neg h]; exact h2
    · rcases cmpS_cases y z with ⟨rfl, e2⟩ | ⟨h', e2⟩ | ⟨h', e2⟩
      · rw [e]; simp
      · rw [cmpS_lt (bl_trans h h')]; simp
      · rw [e2] at h2; simp at h2
    · rw [e] at h1; simp at h1
theorem cmpL_prefix : ∀ {a b : List (List UInt8)}, a <+: b → cmpL a b ≤ 0
  | [], [], _ => by simp [cmpL]
  | [], _ :: _, _ => by simp [cmpL]
  | _ :: _, [], h => by simp at h
  | x :: a, y :: b, h => by
    obtain ⟨e, h2⟩ := List.cons_prefix_cons.1 h
    subst e
    simp only [cmpL, cmpS_self, if_true]
    exact cmpL_prefix h2
/-- What a name's labels are: good, and not too long. -/
def Nm (ls : List (List UInt8)) : Prop := GoodN ls ∧ (joinN ls).length ≤ 255
theorem can_nm {n : List UInt8} (h : canN n = true) : ∃ ls, Nm ls ∧ n = joinN ls := by
  obtain ⟨ls, g, e, hl⟩ := canN_iff.1 h
  exact ⟨ls, ⟨g, hl⟩, e⟩
theorem Nm.can {ls : List (List UInt8)} (h : Nm ls) : canN (joinN ls) = true := can_join h.1 h.2
theorem Nm.lab {ls : List (List UInt8)} (h : Nm ls) : labN (joinN ls) = ls := labN_join h.1 h.2
theorem Nm.low {ls : List (List UInt8)} (h : Nm ls) : Nm (lowL ls) := ⟨h.1.low, by rw [low_length h.1]; exact h.2⟩
theorem Nm.lowN {ls : List (List UInt8)} (h : Nm ls) : lowN (joinN ls) = joinN (lowL ls) := lowN_join h.1 h.2
theorem Nm.cnt {ls : List (List UInt8)} (h : Nm ls) : cntN (joinN ls) = ls.length := by rw [cntN, h.lab]
theorem Nm.drop {ls : List (List UInt8)} (h : Nm ls) (j : Nat) : Nm (ls.drop j) := by
  refine ⟨fun x hx => h.1 x (List.mem_of_mem_drop hx), ?_⟩
  have h2 := h.2
  induction j generalizing ls with
  | zero => exact h.2
  | succ j ih =>
    cases ls with
    | nil => simpa using h.2
    | cons l ls =>
      have := joinN_le (l := l) (ls := ls)
      exact ih (ls := ls) ⟨h.1.tail, by omega⟩ (by omega)
theorem Nm.inj {a b : List (List UInt8)} (ha : Nm a) (hb : Nm b) : joinN a = joinN b ↔ a = b := ⟨joinN_inj ha.1 hb.1, fun e => by rw [e]⟩
theorem lowL_idem (ls : List (List UInt8)) : lowL (lowL ls) = lowL ls := by
  simp only [lowL, List.map_map]
  apply List.map_congr_left
  intro l _
  simp only [Function.comp, List.map_map]
  apply List.map_congr_left
  intro c _
  exact lowC_idem c
theorem lowL_length (ls : List (List UInt8)) : (lowL ls).length = ls.length := by simp [lowL]
theorem Nm.same {a b : List (List UInt8)} (ha : Nm a) (hb : Nm b) : sameN (joinN a) (joinN b) = decide (lowL a = lowL b) := by
  rw [sameN, ha.can, hb.can, ha.lowN, hb.lowN, decide_eq_decide.2 (ha.low.inj hb.low)]
  rfl
theorem Nm.cmp {a b : List (List UInt8)} (ha : Nm a) (hb : Nm b) : cmpN (joinN a) (joinN b) = cmpL (lowL a).reverse (lowL b).reverse := by
  rw [cmpN, if_pos (by rw [ha.can, hb.can]; rfl), ha.lowN, hb.lowN, ha.low.lab, hb.low.lab]
theorem Nm.tail {a : List (List UInt8)} (ha : Nm a) (k : Int) : tailN (joinN a) k = joinN (a.drop (a.length - min (max k 0).toNat a.length)) := by
  rw [tailN, if_pos ha.can, ha.lab]
theorem lowL_drop (ls : List (List UInt8)) (j : Nat) : lowL (ls.drop j) = (lowL ls).drop j := by simp [lowL, List.map_drop]
theorem Nm.within {a b : List (List UInt8)} (ha : Nm a) (hb : Nm b) : withN (joinN a) (joinN b) = true ↔ lowL b <:+ lowL a := by
  rw [withN, ha.can, hb.can, ha.cnt, hb.cnt, ha.tail, (ha.drop _).same hb, lowL_drop]
  simp only [Bool.true_and, Bool.and_eq_true, decide_eq_true_eq]
  rw [List.suffix_iff_eq_drop, lowL_length, lowL_length]
  constructor
  · rintro ⟨h1, h2⟩
    rw [← h2]
    congr 1
    omega
  · intro h
    have h3 := congrArg List.length h
    rw [List.length_drop, lowL_length, lowL_length] at h3
    refine ⟨by omega, ?_⟩
    conv => rhs; rw [h]
    congr 1
    omega
theorem Nm.within_eq {a b : List (List UInt8)} (ha : Nm a) (hb : Nm b) : withN (joinN a) (joinN b) = decide (lowL b <:+ lowL a) := by
  rw [Bool.eq_iff_iff, ha.within hb, decide_eq_true_iff]
theorem Nm.par {a : List (List UInt8)} (ha : Nm a) : parS (joinN a) = (if a = [] then [] else joinN (a.drop 1)) ∧ hasP (joinN a) = decide (a ≠ []) := by
  have h : hasP (joinN a) = decide (a ≠ []) := by rw [hasP, ha.lab]
  refine ⟨?_, h⟩
  rw [parS, h, parN, ha.lab]
  by_cases e : a = [] <;> simp [e]
theorem plain_nm (b : List UInt8) : ∃ ls, Nm ls ∧ plainN b = joinN ls ∧ ls.length ≤ 4 := by
  have h := plain_good b
  have h2 : (joinN ((b.take 4).map pickN)).length ≤ 17 := h.2
  exact ⟨_, ⟨h.1, by omega⟩, rfl, by rw [List.length_map, List.length_take]; omega⟩
theorem nm_root : Nm [] := ⟨GoodN.nil, by decide⟩
theorem nm_one {c : UInt8} : Nm [[c]] := ⟨fun l h => by simp at h; subst h; simp, by simp [joinN]⟩
theorem one_eq (c : UInt8) : [1, c, 0] = joinN [[c]] := rfl
theorem root_eq : [0] = joinN [] := rfl
theorem cnt_1a : cntN [1, 97, 0] = 1 := nm_one.cnt
theorem same_aA : sameN [1, 97, 0] [1, 65, 0] = true := (nm_one.same nm_one).trans (by decide)
theorem same_bB : sameN [1, 98, 0] [1, 66, 0] = true := (nm_one.same nm_one).trans (by decide)
theorem cmp_0a : cmpN [0] [1, 97, 0] = -1 := (nm_root.cmp nm_one).trans (by decide)
-- climbs
theorem climb_tail {ls : List (List UInt8)} (h : Nm ls) {k : Int} (hk : k = ls.length) : tailN (joinN ls) k = joinN ls := by
  rw [h.tail, show ls.length - min (max k 0).toNat ls.length = 0 by omega, List.drop_zero]
theorem climb_up {l : List UInt8} {ls : List (List UInt8)} (h : Nm (l :: ls)) : Nm ls := h.drop 1
theorem climb_in {l : List UInt8} {ls : List (List UInt8)} (h : Nm (l :: ls)) : withN (joinN (l :: ls)) (joinN ls) = true ∧ withN (joinN ls) (joinN (l :: ls)) = false := by
  refine ⟨(h.within (climb_up h)).2 (by simp [lowL, List.suffix_cons]), ?_⟩
  cases e : withN (joinN ls) (joinN (l :: ls)) with
  | false => rfl
  | true =>
    have := (((climb_up h).within h).1 e).length_le
    simp [lowL] at this
    omega
-- orders
theorem ord_swap {a b : List (List UInt8)} (ha : Nm a) (hb : Nm b) : cmpN (joinN b) (joinN a) = -cmpN (joinN a) (joinN b) := by rw [ha.cmp hb, hb.cmp ha]; exact cmpL_swap _ _
theorem ord_same {a b : List (List UInt8)} (ha : Nm a) (hb : Nm b) : decide (cmpN (joinN a) (joinN b) = 0) = sameN (joinN a) (joinN b) := by
  rw [ha.cmp hb, ha.same hb, decide_eq_decide, cmpL_zero, List.reverse_inj]
theorem ord_trans {a b c : List (List UInt8)} (ha : Nm a) (hb : Nm b) (hc : Nm c) (h1 : cmpN (joinN a) (joinN b) ≤ 0) (h2 : cmpN (joinN b) (joinN c) ≤ 0) : cmpN (joinN a) (joinN c) ≤ 0 := by
  rw [ha.cmp hb] at h1
  rw [hb.cmp hc] at h2
  rw [ha.cmp hc]
  exact cmpL_trans h1 h2
theorem sq_le {p : Int} (h : -1 ≤ p ∧ p ≤ 1) : ¬ p * p > 1 := by
  have : p = -1 ∨ p = 0 ∨ p = 1 := by omega
  rcases this with rfl | rfl | rfl <;> decide
-- cases
theorem case_same {a : List (List UInt8)} (ha : Nm a) : sameN (joinN a) (lowN (joinN a)) = true := by
  rw [ha.lowN, ha.same ha.low, lowL_idem]; simp
theorem case_cmp {a b : List (List UInt8)} (ha : Nm a) (hb : Nm b) : cmpN (joinN a) (joinN b) = cmpN (lowN (joinN a)) (lowN (joinN b)) := by
  rw [ha.lowN, hb.lowN, ha.cmp hb, ha.low.cmp hb.low, lowL_idem, lowL_idem]
theorem case_with {a b : List (List UInt8)} (ha : Nm a) (hb : Nm b) : withN (joinN a) (joinN b) = withN (lowN (joinN a)) (lowN (joinN b)) := by
  rw [ha.lowN, hb.lowN, ha.within_eq hb, ha.low.within_eq hb.low, lowL_idem, lowL_idem]
theorem case_low {a : List (List UInt8)} (ha : Nm a) : lowN (lowN (joinN a)) = lowN (joinN a) := by
  rw [ha.lowN, ha.low.lowN, lowL_idem]
theorem no_same {a b : List UInt8} (h : canN a = false ∨ canN b = false) : sameN a b = false ∧ cmpN a b = 0 := by
  rcases h with h | h <;> simp [sameN, cmpN, h]
-- zones
theorem zone_root {a : List (List UInt8)} (ha : Nm a) : withN (joinN a) [0] = true := (ha.within nm_root).2 (List.nil_suffix)
theorem zone_self {a : List (List UInt8)} (ha : Nm a) : withN (joinN a) (joinN a) = true := (ha.within ha).2 (List.suffix_refl _)
theorem zone_cmp {a b : List (List UInt8)} (ha : Nm a) (hb : Nm b) (h : withN (joinN a) (joinN b) = true) : cmpN (joinN b) (joinN a) ≤ 0 := by
  rw [hb.cmp ha]
  exact cmpL_prefix (List.reverse_prefix.2 ((ha.within hb).1 h))
theorem zone_par {a b : List (List UInt8)} (ha : Nm a) (hb : Nm b) (h : withN (joinN a) (joinN b) = true) (hp : hasP (joinN b) = true) : withN (joinN a) (parS (joinN b)) = true := by
  obtain ⟨e1, e2⟩ := hb.par
  rw [e2, decide_eq_true_eq] at hp
  rw [e1, if_neg hp, ha.within (hb.drop 1), lowL_drop]
  exact (List.drop_suffix _ _).trans ((ha.within hb).1 h)
theorem zone_tail {a b : List UInt8} (h : withN a b = true) : sameN (tailN a (cntN b)) b = true := by
  simp only [withN, Bool.and_eq_true] at h
  exact h.2

theorem climb_in' {ls : List (List UInt8)} (h : Nm ls) (hp : hasP (joinN ls) = true) : withN (joinN ls) (parS (joinN ls)) = true ∧ withN (parS (joinN ls)) (joinN ls) = false ∧ parS (joinN ls) = joinN (ls.drop 1) ∧ ls ≠ [] := by
  obtain ⟨e1, e2⟩ := h.par
  match ls, h, hp, e1, e2 with
  | [], h, hp, e1, e2 => rw [e2] at hp; simp at hp
  | l :: ls, h, hp, e1, e2 =>
    rw [if_neg (by simp)] at e1
    rw [e1]
    exact ⟨(climb_in h).1, (climb_in h).2, rfl, by simp⟩
theorem hasP_no {ls : List (List UInt8)} (h : Nm ls) (hp : hasP (joinN ls) = false) : ls = [] := by
  rw [h.par.2] at hp
  simpa using hp


def delB (x : ESet) : List UInt8 := ((([] : List UInt8) ++ numL 1 [1, (x.nm.length : Int)]) ++ x.nm) ++ numL 2 [x.ty, x.cs]
def bare (x : ESet) : ESet := ⟨x.nm, x.ty, x.cs, 0, 0, 0, [], []⟩
def delO (x : ESet) : Bool := keyO x && decide (x = bare x)

set_option maxRecDepth 20000 in
theorem c_write_del (x : ESet) (h : x.nm.length ≤ 1000000000) : AC Try.prog 33 [.agg (tf true :: setC x)] emp (Ret (.fz 0 (delB x).length (cl bc (delB x)))) := by
  have hl1 : (numL 1 [1, (x.nm.length : Int)]).length = 2 := by rw [numL_len]; rfl
  refine AC.intro te_ok (fn := Try.f33) ⟨Try.func33, rfl, rfl⟩ (Nat.le_of_ble_eq_true rfl) ?_
  refine AWp.seq ?_
  refine AWp.region ?_
  refine AOps.cons rfl rfl (q_box 100) ?_
  refine AOps.cons rfl rfl (q_assign) ?_
  refine AOps.nil ?_
  refine AWp.seq ?_
  refine AWp.region ?_
  refine AOps.cons rfl rfl (q_fa) ?_
  refine AOps.cons rfl rfl (q_load) ?_
  refine AOps.cons rfl rfl (q_alloc 202) ?_
  refine AOps.cons rfl rfl (q_store) ?_
  refine AOps.nil ?_
  refine AWp.seq ?_
  refine AWp.region ?_
  refine AOps.cons rfl rfl (q_assign) ?_
  refine AOps.nil ?_
  refine AWp.seq ?_
  refine AWp.seq ?_
  refine AWp.region ?_
  refine AOps.cons rfl rfl (q_fa) ?_
  refine AOps.cons rfl rfl ((OpOk.bool_is (c := true) (q_load) (rfl))) ?_
  refine AOps.nil ?_
  refine AWp.cond_t rfl ?_
  refine AWp.region ?_
  refine AOps.cons rfl rfl (q_assign) ?_
  refine AOps.nil ?_
  refine AWp.seq ?_
  refine AWp.draws [⟨0, [4], [], some 12, _, none⟩,
      ⟨1, [3], [202], some 13, _, none⟩,
      ⟨2, [13], [202], some 14, _, none⟩,
      ⟨3, [14], [], some 15, _, none⟩,
      ⟨4, [12, 15], [604], some 16, _, some (604, _)⟩,
      ⟨5, [16], [604, 6058], some 17, _, some (6058, _)⟩,
      ⟨6, [3], [202], some 18, _, none⟩,
      ⟨7, [18], [202], some 19, _, none⟩,
      ⟨8, [17, 19], [6058], some 20, _, some (6058, _)⟩,
      ⟨9, [20], [], some 5, _, none⟩]
    [⟨0, [4], [], some 12, .any, none⟩,
        ⟨1, [3], [202], some 13, .any, none⟩,
        ⟨2, [13], [202], some 14, .any, none⟩,
        ⟨3, [14], [], some 15, .any, none⟩,
        ⟨4, [12, 15], [604], some 16, .any, some (604, .box [])⟩,
        ⟨5, [16], [604, 6058], some 17, .any, some (6058, .box [])⟩,
        ⟨6, [3], [202], some 18, .any, none⟩,
        ⟨7, [18], [202], some 19, .any, none⟩,
        ⟨8, [17, 19], [6058], some 20, .any, some (6058, .box [])⟩,
        ⟨9, [20], [], some 5, .any, none⟩]
    mixed_ok rfl (by kernel_rfl) ⟨DS.ok_over fun s0 => OpAt.go rfl rfl (q_move),
        DS.ok_over fun s0 => OpAt.go rfl rfl (q_fa),
        DS.ok_over fun s0 => OpAt.go rfl rfl (q_load),
        DS.ok_over fun s0 => OpAt.go rfl rfl (q_len_str),
        DS.ok_over fun s0 => OpAt.go rfl rfl (q_bs 604 ic [_, _] [(_, _), (_, _)]),
        DS.ok_over fun s0 => OpAt.go rfl rfl (q_callB (0) [] [(8, 6058)] [(_, _)] (hc := (c_num_nil 1 [1, (x.nm.length : Int)] 1 (by omega) (by simp)))),
        DS.ok_over fun s0 => OpAt.go rfl rfl (q_fa),
        DS.ok_over fun s0 => OpAt.go rfl rfl (q_load),
        DS.ok_over fun s0 => OpAt.go rfl rfl (q_app),
        DS.ok_over fun s0 => OpAt.go rfl rfl (q_assign), trivial⟩ ?_
  dsimp only [final, DS.upd, AS.seto]
  refine AWp.seq ?_
  refine AWp.region ?_
  refine AOps.cons rfl rfl (q_move) ?_
  refine AOps.cons rfl rfl (q_fa) ?_
  refine AOps.cons rfl rfl (q_load) ?_
  refine AOps.cons rfl rfl (q_fa) ?_
  refine AOps.cons rfl rfl (q_load) ?_
  refine AOps.cons rfl rfl (q_bs 705 ic [_, _] [(_, _), (_, _)]) ?_
  refine AOps.cons rfl rfl (q_callB (0) [(0, 6058)] [] [(_, _)] (hc := (c_num ((([] : List UInt8) ++ numL 1 [1, (x.nm.length : Int)]) ++ x.nm) 1 2 [x.ty, x.cs] 1 (by omega) (by simp [numL_len]; omega)))) ?_
  refine AOps.cons rfl rfl (q_assign) ?_
  refine AOps.nil ?_
  refine AWp.seq ?_
  refine AWp.seq ?_
  refine AWp.region ?_
  refine AOps.cons rfl rfl (q_fa) ?_
  refine AOps.cons rfl rfl ((OpOk.bool_is (c := true) (q_load) (rfl))) ?_
  refine AOps.nil ?_
  refine AWp.cond_t rfl ?_
  refine AWp.seq ?_
  refine AWp.region ?_
  refine AOps.cons rfl rfl (q_move) ?_
  refine AOps.cons rfl rfl (q_assign) ?_
  refine AOps.nil ?_
  refine AWp.ret ?_
  show Fin te Try.f33 _ _
  refine q_ret (0) [_] [_] ?_
  rfl

set_option maxRecDepth 20000 in
theorem c_can_del (x : ESet) (hx : SetOk x) : AC Try.prog 32 [.agg (tf true :: setC x)] emp (Ret (tf (delO x))) := by
  obtain ⟨h1, h2, h3, h4⟩ := id hx
  refine AC.intro te_ok (fn := Try.f32) ⟨Try.func32, rfl, rfl⟩ (Nat.le_of_ble_eq_true rfl) ?_
  refine AWp.seq ?_
  refine AWp.region ?_
  refine AOps.cons rfl rfl (q_box 100) ?_
  refine AOps.cons rfl rfl (q_assign) ?_
  refine AOps.nil ?_
  refine AWp.seq ?_
  refine AWp.seq ?_
  refine AWp.region ?_
  refine AOps.cons rfl rfl (q_fa) ?_
  refine AOps.cons rfl rfl ((OpOk.bool_is (c := true) (q_load) (rfl))) ?_
  refine AOps.nil ?_
  refine AWp.cond_t rfl ?_
  refine AWp.seq ?_
  refine AWp.region ?_
  refine AOps.cons rfl rfl (q_fa) ?_
  refine AOps.cons rfl rfl (q_load) ?_
  refine AOps.cons rfl rfl (q_alloc 302) ?_
  refine AOps.cons rfl rfl (q_store) ?_
  refine AOps.nil ?_
  refine AWp.seq ?_
  refine AWp.region ?_
  refine AOps.cons rfl rfl (q_load) ?_
  refine AOps.bool rfl rfl (q_call (0) (hc := (c_entry_key x hx))) (fun h3_1 => ?_) (fun h3_1 => ?_)
  · skip
    refine AOps.cons rfl rfl (q_move) ?_
    refine AOps.gcons rfl rfl rfl rfl rfl (q_load) ?_
    refine AOps.gcons rfl rfl rfl rfl rfl (q_fa) ?_
    refine AOps.gcons rfl rfl rfl rfl rfl (q_load) ?_
    refine AOps.gcons rfl rfl rfl rfl rfl (q_fa) ?_
    refine AOps.gcons rfl rfl rfl rfl rfl (q_load) ?_
    refine AOps.gcons rfl rfl rfl rfl rfl (q_fa) ?_
    refine AOps.gcons rfl rfl rfl rfl rfl (q_load) ?_
    refine AOps.gcons rfl rfl rfl rfl rfl (q_build [(_, _), (_, _), (_, _)]) ?_
    refine AOps.gcons rfl rfl rfl rfl rfl (q_call (0) (hA := by exact ⟨fv_okb rfl rfl, fv_agg ⟨fv_okb rfl rfl, fv_okb rfl rfl, fv_okb rfl rfl, fv_okb rfl rfl, fv_okb rfl rfl, fv_okb rfl rfl, fv_okb rfl rfl, fv_nilz, trivial⟩, trivial⟩) (hc := (c_entry_Same x (bare x) hx))) ?_
    refine AOps.cons rfl rfl (q_pick) ?_
    refine AOps.cons rfl rfl (q_assign) ?_
    refine AOps.nil ?_
    refine AWp.ret ?_
    show Fin te Try.f32 _ _
    refine q_ret (0) [_] [_] ?_
    rw [delO, h3_1]; rfl
  · skip
    refine AOps.cons rfl rfl (q_move) ?_
    refine AOps.gskip rfl rfl rfl rfl rfl rfl rfl rfl ?_
    refine AOps.gskip rfl rfl rfl rfl rfl rfl rfl rfl ?_
    refine AOps.gskip rfl rfl rfl rfl rfl rfl rfl rfl ?_
    refine AOps.gskip rfl rfl rfl rfl rfl rfl rfl rfl ?_
    refine AOps.gskip rfl rfl rfl rfl rfl rfl rfl rfl ?_
    refine AOps.gskip rfl rfl rfl rfl rfl rfl rfl rfl ?_
    refine AOps.gskip rfl rfl rfl rfl rfl rfl rfl rfl ?_
    refine AOps.gskip rfl rfl rfl rfl rfl rfl rfl rfl ?_
    refine AOps.gskip rfl rfl rfl rfl rfl rfl rfl rfl ?_
    refine AOps.cons rfl rfl (q_pick) ?_
    refine AOps.cons rfl rfl (q_assign) ?_
    refine AOps.nil ?_
    refine AWp.ret ?_
    show Fin te Try.f32 _ _
    refine q_ret (0) [_] [_] ?_
    rw [delO, h3_1]; rfl

set_option maxRecDepth 20000 in
theorem c_Encode_del (x : ESet) (hx : SetOk x) : AC Try.prog 13 [.agg (tf true :: setC x)] emp (Ret (.tup [.fz 0 (if delO x then delB x else []).length (cl bc (if delO x then delB x else [])), i64 (if delO x then 0 else 1)])) := by
  refine AC.intro te_ok (fn := Try.f13) ⟨Try.func13, rfl, rfl⟩ (Nat.le_of_ble_eq_true rfl) ?_
  refine AWp.seq ?_
  refine AWp.region ?_
  refine AOps.cons rfl rfl (q_box 100) ?_
  refine AOps.cons rfl rfl (q_nilz (0) bc) ?_
  refine AOps.cons rfl rfl (q_assign) ?_
  refine AOps.nil ?_
  refine AWp.seq ?_
  refine AWp.seq ?_
  refine AWp.region ?_
  refine AOps.cons rfl rfl (q_load) ?_
  refine AOps.bool rfl rfl (q_call (0) (hc := (c_can_del x hx))) (fun h1_1 => ?_) (fun h1_1 => ?_)
  · skip
    refine AOps.cons rfl rfl (q_not) ?_
    refine AOps.nil ?_
    refine AWp.cond_f rfl ?_
    refine AWp.skip ?_
    refine AWp.seq ?_
    refine AWp.region ?_
    have hk : canN x.nm = true := by
      have := h1_1
      simp only [delO, keyO, Bool.and_eq_true] at this
      exact this.1.1
    have hkl := canN_len hk
    refine AOps.cons rfl rfl (q_load) ?_
    refine AOps.cons rfl rfl (q_call (0) (hc := (c_write_del x (by omega)))) ?_
    refine AOps.cons rfl rfl (q_assign) ?_
    refine AOps.cons rfl rfl (q_assign) ?_
    refine AOps.nil ?_
    refine AWp.ret ?_
    show Fin te Try.f13 _ _
    refine q_ret (0) [_, _] [_, _] ?_
    rw [h1_1]; rfl
  · skip
    refine AOps.cons rfl rfl (q_not) ?_
    refine AOps.nil ?_
    refine AWp.cond_t rfl ?_
    refine AWp.seq ?_
    refine AWp.region ?_
    refine AOps.cons rfl rfl (q_nilz (0) bc) ?_
    refine AOps.cons rfl rfl (q_assign) ?_
    refine AOps.nil ?_
    refine AWp.ret ?_
    show Fin te Try.f13 _ _
    refine q_ret (0) [_, _] [_, _] ?_
    rw [h1_1]; rfl

set_option maxRecDepth 20000 in
theorem c_ciceronelaw08_awake  : AC Try.prog 19 [] emp (Ret (tf true)) := by
  have hd : delO ⟨[0], 2, 1, 0, 0, 0, [], []⟩ = true := by
    have hc : canN [0] = true := nm_root.can
    simp [delO, keyO, bare, hc]
  refine AC.intro te_ok (fn := Try.f19) ⟨Try.func19, rfl, rfl⟩ (Nat.le_of_ble_eq_true rfl) ?_
  refine AWp.seq ?_
  refine AWp.region ?_
  refine AOps.cons rfl rfl (q_assign) ?_
  refine AOps.nil ?_
  refine AWp.seq ?_
  refine AWp.region ?_
  refine AOps.cons rfl rfl (q_build [(_, _), (_, _), (_, _)]) ?_
  refine AOps.cons rfl rfl (q_build [(_, _), (_, _)]) ?_
  refine AOps.cons rfl rfl (q_call (0) (hA := by exact ⟨fv_agg ⟨fv_okb rfl rfl, fv_okb rfl rfl, fv_okb rfl rfl, fv_okb rfl rfl, fv_okb rfl rfl, fv_okb rfl rfl, fv_okb rfl rfl, fv_okb rfl rfl, fv_nilz, trivial⟩, trivial⟩) (hc := (c_Encode_del ⟨[0], 2, 1, 0, 0, 0, [], []⟩ (by refine ⟨by decide, by decide, by decide, ?_⟩; intro d hd; cases hd)))) ?_
  refine AOps.cons rfl rfl (q_move) ?_
  refine AOps.cons rfl rfl (q_extract) ?_
  refine AOps.cons rfl rfl (q_extract) ?_
  refine AOps.cons rfl rfl (q_assign) ?_
  refine AOps.cons rfl rfl (q_assign) ?_
  refine AOps.nil ?_
  refine AWp.seq ?_
  refine AWp.region ?_
  refine AOps.cons rfl rfl (q_move) ?_
  refine AOps.dec rfl rfl (q_eql) (fun h2_1 => ?_) (fun h2_1 => ?_)
  · skip
    refine AOps.cons rfl rfl (q_move) ?_
    refine AOps.gcons rfl rfl rfl rfl rfl (q_move) ?_
    refine AOps.gcons rfl rfl rfl rfl rfl (q_bs 304 bc [1, 1, 0, 0, 2, 0, 1] [(_, _), (_, _), (_, _), (_, _), (_, _), (_, _), (_, _)]) ?_
    refine AOps.gcons rfl rfl rfl rfl rfl (q_call (0) (hc := c_bytes_Equal _ _ _ _)) ?_
    refine AOps.cons rfl rfl (q_pick) ?_
    refine AOps.cons rfl rfl (q_assign) ?_
    refine AOps.nil ?_
    refine AWp.ret ?_
    show Fin te Try.f19 _ _
    refine q_ret (0) [_] [_] ?_
    exact congrArg tf (decide_eq_true (by rw [hd]; rfl))
  · exfalso; rw [hd] at h2_1; simp at h2_1

end Go.Proofs.Ytaemmklgofddmaa.Fw
