/- The texts W08d, W08e, Ws, Q9, Q10, W08f, W08g, W08h, W08i, W08j, W08k, W08l, W08m, one behind the other: what the walks and plain laws need; conditions stand with each theorem. -/
import Derived.Laws.MakeOwn
import Derived.Test.YtaemmklgofddmaaCat3
/- Walks of layer 8: entries that delete. -/
set_option linter.unusedVariables false
set_option linter.unusedSimpArgs false
namespace Go.Proofs.Ytaemmklgofddmaa.Fw
open Go.RowKit

theorem bl_irrefl : ∀ x : List UInt8, Op.bytesLess x x = false
  | [] => rfl
  | a :: x => by simp [Op.bytesLess, bl_irrefl x]
theorem bl_total : ∀ {x y : List UInt8}, Op.bytesLess x y = false → Op.bytesLess y x = false → x = y
  | [], [], _, _ => rfl
  | [], _ :: _, h, _ => by simp [Op.bytesLess] at h
  | _ :: _, [], _, h => by simp [Op.bytesLess] at h
  | a :: x, b :: y, h1, h2 => by
    simp only [Op.bytesLess, Bool.or_eq_false_iff, Bool.and_eq_false_imp, decide_eq_false_iff_not, beq_iff_eq] at h1 h2
    have e : a = b := by
      have h3 := h1.1; have h4 := h2.1
      rw [UInt8.lt_iff_toNat_lt] at h3 h4
      exact UInt8.toNat_inj.1 (by omega)
    subst e
    rw [bl_total (h1.2 rfl) (h2.2 rfl)]
theorem bl_trans : ∀ {x y z : List UInt8}, Op.bytesLess x y = true → Op.bytesLess y z = true → Op.bytesLess x z = true
  | _, [], _, h, _ => by simp [Op.bytesLess] at h
  | _, _ :: _, [], _, h => by simp [Op.bytesLess] at h
  | [], _ :: _, _ :: _, _, _ => by simp [Op.bytesLess]
  | a :: x, b :: y, c :: z, h1, h2 => by
    simp only [Op.bytesLess, Bool.or_eq_true, Bool.and_eq_true, decide_eq_true_eq, beq_iff_eq, UInt8.lt_iff_toNat_lt] at h1 h2 ⊢
    rcases h1 with h1 | ⟨rfl, h1⟩
    · rcases h2 with h2 | ⟨rfl, h2⟩
      · exact Or.inl (by omega)
      · exact Or.inl h1
    · rcases h2 with h2 | ⟨rfl, h2⟩
      · exact Or.inl h2
      · exact Or.inr ⟨rfl, bl_trans h1 h2⟩
theorem bl_asymm {x y : List UInt8} (h : Op.bytesLess x y = true) : Op.bytesLess y x = false := by
  cases h2 : Op.bytesLess y x with
  | false => rfl
  | true => have := bl_trans h h2; rw [bl_irrefl] at this; cases this
theorem cmpS_lt {x y : List UInt8} (h : Op.bytesLess x y = true) : cmpS x y = -1 := if_pos h
theorem cmpS_gt {x y : List UInt8} (h : Op.bytesLess y x = true) : cmpS x y = 1 := by
  have h1 := bl_asymm h
  have h2 : x ≠ y := fun e => by subst e; rw [bl_irrefl] at h; cases h
  simp [cmpS, h1, h2]
theorem cmpS_self (x : List UInt8) : cmpS x x = 0 := by simp [cmpS, bl_irrefl]
theorem cmpS_cases (x y : List UInt8) : (x = y ∧ cmpS x y = 0) ∨ (Op.bytesLess x y = true ∧ cmpS x y = -1) ∨ (Op.bytesLess y x = true ∧ cmpS x y = 1) := by
  cases h1 : Op.bytesLess x y with
  | true => exact Or.inr (Or.inl ⟨rfl, cmpS_lt h1⟩)
  | false =>
    cases h2 : Op.bytesLess y x with
    | true => exact Or.inr (Or.inr ⟨rfl, cmpS_gt h2⟩)
    | false => have := bl_total h1 h2; subst this; exact Or.inl ⟨rfl, cmpS_self x⟩
theorem cmpS_swap (x y : List UInt8) : cmpS y x = -cmpS x y := by
  rcases cmpS_cases x y with ⟨rfl, h⟩ | ⟨h, e⟩ | ⟨h, e⟩
  · rw [h]; rfl
  · rw [e, cmpS_gt h]; rfl
  · rw [e, cmpS_lt h]
theorem cmpS_zero {x y : List UInt8} : cmpS x y = 0 ↔ x = y := by
  rcases cmpS_cases x y with ⟨rfl, h⟩ | ⟨h, e⟩ | ⟨h, e⟩
  · simp [h]
  · rw [e]; exact ⟨fun h => by omega, fun h2 => by subst h2; rw [bl_irrefl] at h; cases h⟩
  · rw [e]; exact ⟨fun h => by omega, fun h2 => by subst h2; rw [bl_irrefl] at h; cases h⟩
theorem cmpL_swap : ∀ a b : List (List UInt8), cmpL b a = -cmpL a b
  | [], [] => rfl
  | [], _ :: _ => rfl
  | _ :: _, [] => rfl
  | x :: a, y :: b => by
    have h1 := cmpS_swap x y
    have h2 := cmpL_swap a b
    simp only [cmpL]
    split <;> split <;> omega
theorem cmpL_zero : ∀ {a b : List (List UInt8)}, cmpL a b = 0 ↔ a = b
  | [], [] => by simp [cmpL]
  | [], _ :: _ => by simp [cmpL]
  | _ :: _, [] => by simp [cmpL]
  | x :: a, y :: b => by
    have h1 := @cmpS_zero x y
    have h2 := @cmpL_zero a b
    simp only [cmpL]
    split
    · rename_i h; rw [h2, List.cons.injEq, ← h1]; simp [h]
    · rename_i h; rw [List.cons.injEq, ← h1]; simp [h]
theorem cmpL_trans : ∀ {a b c : List (List UInt8)}, cmpL a b ≤ 0 → cmpL b c ≤ 0 → cmpL a c ≤ 0
  | [], _, [], _, _ => by simp [cmpL]
  | [], _, _ :: _, _, _ => by simp [cmpL]
  | _ :: _, [], _, h, _ => by simp [cmpL] at h
  | _ :: _, _ :: _, [], _, h => by simp [cmpL] at h
  | x :: a, y :: b, z :: c, h1, h2 => by
    simp only [cmpL] at h1 h2 ⊢
    rcases cmpS_cases x y with ⟨rfl, e⟩ | ⟨h, e⟩ | ⟨h, e⟩
    · rw [if_pos e] at h1
      split at h2
      · rename_i h; rw [if_pos h]; exact cmpL_trans h1 h2
      · rename_i h; rw [if_neg h]; exact h2
    · rcases cmpS_cases y z with ⟨rfl, e2⟩ | ⟨h', e2⟩ | ⟨h', e2⟩
      · rw [e]; simp
      · rw [cmpS_lt (bl_trans h h')]; simp
      · rw [e2] at h2; simp at h2
    · rw [e] at h1; simp at h1
theorem cmpL_prefix : ∀ {a b : List (List UInt8)}, a <+: b → cmpL a b ≤ 0
  | [], [], _ => by simp [cmpL]
  | [], _ :: _, _ => by simp [cmpL]
  | _ :: _, [], h => by simp at h
  | x :: a, y :: b, h => by
    obtain ⟨e, h2⟩ := List.cons_prefix_cons.1 h
    subst e
    simp only [cmpL, cmpS_self, if_true]
    exact cmpL_prefix h2
/-- What a name's labels are: good, and not too long. -/
def Nm (ls : List (List UInt8)) : Prop := GoodN ls ∧ (joinN ls).length ≤ 255
theorem can_nm {n : List UInt8} (h : canN n = true) : ∃ ls, Nm ls ∧ n = joinN ls := by
  obtain ⟨ls, g, e, hl⟩ := canN_iff.1 h
  exact ⟨ls, ⟨g, hl⟩, e⟩
theorem Nm.can {ls : List (List UInt8)} (h : Nm ls) : canN (joinN ls) = true := can_join h.1 h.2
theorem Nm.lab {ls : List (List UInt8)} (h : Nm ls) : labN (joinN ls) = ls := labN_join h.1 h.2
theorem Nm.low {ls : List (List UInt8)} (h : Nm ls) : Nm (lowL ls) := ⟨h.1.low, by rw [low_length h.1]; exact h.2⟩
theorem Nm.lowN {ls : List (List UInt8)} (h : Nm ls) : lowN (joinN ls) = joinN (lowL ls) := lowN_join h.1 h.2
theorem Nm.cnt {ls : List (List UInt8)} (h : Nm ls) : cntN (joinN ls) = ls.length := by rw [cntN, h.lab]
theorem Nm.drop {ls : List (List UInt8)} (h : Nm ls) (j : Nat) : Nm (ls.drop j) := by
  refine ⟨fun x hx => h.1 x (List.mem_of_mem_drop hx), ?_⟩
  have h2 := h.2
  induction j generalizing ls with
  | zero => exact h.2
  | succ j ih =>
    cases ls with
    | nil => simpa using h.2
    | cons l ls =>
      have := joinN_le (l := l) (ls := ls)
      exact ih (ls := ls) ⟨h.1.tail, by omega⟩ (by omega)
theorem Nm.inj {a b : List (List UInt8)} (ha : Nm a) (hb : Nm b) : joinN a = joinN b ↔ a = b := ⟨joinN_inj ha.1 hb.1, fun e => by rw [e]⟩
theorem lowL_idem (ls : List (List UInt8)) : lowL (lowL ls) = lowL ls := by
  simp only [lowL, List.map_map]
  apply List.map_congr_left
  intro l _
  simp only [Function.comp, List.map_map]
  apply List.map_congr_left
  intro c _
  exact lowC_idem c
theorem lowL_length (ls : List (List UInt8)) : (lowL ls).length = ls.length := by simp [lowL]
theorem Nm.same {a b : List (List UInt8)} (ha : Nm a) (hb : Nm b) : sameN (joinN a) (joinN b) = decide (lowL a = lowL b) := by
  rw [sameN, ha.can, hb.can, ha.lowN, hb.lowN, decide_eq_decide.2 (ha.low.inj hb.low)]
  rfl
theorem Nm.cmp {a b : List (List UInt8)} (ha : Nm a) (hb : Nm b) : cmpN (joinN a) (joinN b) = cmpL (lowL a).reverse (lowL b).reverse := by
  rw [cmpN, if_pos (by rw [ha.can, hb.can]; rfl), ha.lowN, hb.lowN, ha.low.lab, hb.low.lab]
theorem Nm.tail {a : List (List UInt8)} (ha : Nm a) (k : Int) : tailN (joinN a) k = joinN (a.drop (a.length - min (max k 0).toNat a.length)) := by
  rw [tailN, if_pos ha.can, ha.lab]
theorem lowL_drop (ls : List (List UInt8)) (j : Nat) : lowL (ls.drop j) = (lowL ls).drop j := by simp [lowL, List.map_drop]
theorem Nm.within {a b : List (List UInt8)} (ha : Nm a) (hb : Nm b) : withN (joinN a) (joinN b) = true ↔ lowL b <:+ lowL a := by
  rw [withN, ha.can, hb.can, ha.cnt, hb.cnt, ha.tail, (ha.drop _).same hb, lowL_drop]
  simp only [Bool.true_and, Bool.and_eq_true, decide_eq_true_eq]
  rw [List.suffix_iff_eq_drop, lowL_length, lowL_length]
  constructor
  · rintro ⟨h1, h2⟩
    rw [← h2]
    congr 1
    omega
  · intro h
    have h3 := congrArg List.length h
    rw [List.length_drop, lowL_length, lowL_length] at h3
    refine ⟨by omega, ?_⟩
    conv => rhs; rw [h]
    congr 1
    omega
theorem Nm.within_eq {a b : List (List UInt8)} (ha : Nm a) (hb : Nm b) : withN (joinN a) (joinN b) = decide (lowL b <:+ lowL a) := by
  rw [Bool.eq_iff_iff, ha.within hb, decide_eq_true_iff]
theorem Nm.par {a : List (List UInt8)} (ha : Nm a) : parS (joinN a) = (if a = [] then [] else joinN (a.drop 1)) ∧ hasP (joinN a) = decide (a ≠ []) := by
  have h : hasP (joinN a) = decide (a ≠ []) := by rw [hasP, ha.lab]
  refine ⟨?_, h⟩
  rw [parS, h, parN, ha.lab]
  by_cases e : a = [] <;> simp [e]
theorem plain_nm (b : List UInt8) : ∃ ls, Nm ls ∧ plainN b = joinN ls ∧ ls.length ≤ 4 := by
  have h := plain_good b
  have h2 : (joinN ((b.take 4).map pickN)).length ≤ 17 := h.2
  exact ⟨_, ⟨h.1, by omega⟩, rfl, by rw [List.length_map, List.length_take]; omega⟩
theorem nm_root : Nm [] := ⟨GoodN.nil, by decide⟩
theorem nm_one {c : UInt8} : Nm [[c]] := ⟨fun l h => by simp at h; subst h; simp, by simp [joinN]⟩
theorem one_eq (c : UInt8) : [1, c, 0] = joinN [[c]] := rfl
theorem root_eq : [0] = joinN [] := rfl
theorem cnt_1a : cntN [1, 97, 0] = 1 := nm_one.cnt
theorem same_aA : sameN [1, 97, 0] [1, 65, 0] = true := (nm_one.same nm_one).trans (by decide)
theorem same_bB : sameN [1, 98, 0] [1, 66, 0] = true := (nm_one.same nm_one).trans (by decide)
theorem cmp_0a : cmpN [0] [1, 97, 0] = -1 := (nm_root.cmp nm_one).trans (by decide)
-- climbs
theorem climb_tail {ls : List (List UInt8)} (h : Nm ls) {k : Int} (hk : k = ls.length) : tailN (joinN ls) k = joinN ls := by
  rw [h.tail, show ls.length - min (max k 0).toNat ls.length = 0 by omega, List.drop_zero]
theorem climb_up {l : List UInt8} {ls : List (List UInt8)} (h : Nm (l :: ls)) : Nm ls := h.drop 1
theorem climb_in {l : List UInt8} {ls : List (List UInt8)} (h : Nm (l :: ls)) : withN (joinN (l :: ls)) (joinN ls) = true ∧ withN (joinN ls) (joinN (l :: ls)) = false := by
  refine ⟨(h.within (climb_up h)).2 (by simp [lowL, List.suffix_cons]), ?_⟩
  cases e : withN (joinN ls) (joinN (l :: ls)) with
  | false => rfl
  | true =>
    have := (((climb_up h).within h).1 e).length_le
    simp [lowL] at this
    omega
-- orders
theorem ord_swap {a b : List (List UInt8)} (ha : Nm a) (hb : Nm b) : cmpN (joinN b) (joinN a) = -cmpN (joinN a) (joinN b) := by rw [ha.cmp hb, hb.cmp ha]; exact cmpL_swap _ _
theorem ord_same {a b : List (List UInt8)} (ha : Nm a) (hb : Nm b) : decide (cmpN (joinN a) (joinN b) = 0) = sameN (joinN a) (joinN b) := by
  rw [ha.cmp hb, ha.same hb, decide_eq_decide, cmpL_zero, List.reverse_inj]
theorem ord_trans {a b c : List (List UInt8)} (ha : Nm a) (hb : Nm b) (hc : Nm c) (h1 : cmpN (joinN a) (joinN b) ≤ 0) (h2 : cmpN (joinN b) (joinN c) ≤ 0) : cmpN (joinN a) (joinN c) ≤ 0 := by
  rw [ha.cmp hb] at h1
  rw [hb.cmp hc] at h2
  rw [ha.cmp hc]
  exact cmpL_trans h1 h2
theorem sq_le {p : Int} (h : -1 ≤ p ∧ p ≤ 1) : ¬ p * p > 1 := by
  have : p = -1 ∨ p = 0 ∨ p = 1 := by omega
  rcases this with rfl | rfl | rfl <;> decide
-- cases
theorem case_same {a : List (List UInt8)} (ha : Nm a) : sameN (joinN a) (lowN (joinN a)) = true := by
  rw [ha.lowN, ha.same ha.low, lowL_idem]; simp
theorem case_cmp {a b : List (List UInt8)} (ha : Nm a) (hb : Nm b) : cmpN (joinN a) (joinN b) = cmpN (lowN (joinN a)) (lowN (joinN b)) := by
  rw [ha.lowN, hb.lowN, ha.cmp hb, ha.low.cmp hb.low, lowL_idem, lowL_idem]
theorem case_with {a b : List (List UInt8)} (ha : Nm a) (hb : Nm b) : withN (joinN a) (joinN b) = withN (lowN (joinN a)) (lowN (joinN b)) := by
  rw [ha.lowN, hb.lowN, ha.within_eq hb, ha.low.within_eq hb.low, lowL_idem, lowL_idem]
theorem case_low {a : List (List UInt8)} (ha : Nm a) : lowN (lowN (joinN a)) = lowN (joinN a) := by
  rw [ha.lowN, ha.low.lowN, lowL_idem]
theorem no_same {a b : List UInt8} (h : canN a = false ∨ canN b = false) : sameN a b = false ∧ cmpN a b = 0 := by
  rcases h with h | h <;> simp [sameN, cmpN, h]
-- zones
theorem zone_root {a : List (List UInt8)} (ha : Nm a) : withN (joinN a) [0] = true := (ha.within nm_root).2 (List.nil_suffix)
theorem zone_self {a : List (List UInt8)} (ha : Nm a) : withN (joinN a) (joinN a) = true := (ha.within ha).2 (List.suffix_refl _)
theorem zone_cmp {a b : List (List UInt8)} (ha : Nm a) (hb : Nm b) (h : withN (joinN a) (joinN b) = true) : cmpN (joinN b) (joinN a) ≤ 0 := by
  rw [hb.cmp ha]
  exact cmpL_prefix (List.reverse_prefix.2 ((ha.within hb).1 h))
theorem zone_par {a b : List (List UInt8)} (ha : Nm a) (hb : Nm b) (h : withN (joinN a) (joinN b) = true) (hp : hasP (joinN b) = true) : withN (joinN a) (parS (joinN b)) = true := by
  obtain ⟨e1, e2⟩ := hb.par
  rw [e2, decide_eq_true_eq] at hp
  rw [e1, if_neg hp, ha.within (hb.drop 1), lowL_drop]
  exact (List.drop_suffix _ _).trans ((ha.within hb).1 h)
theorem zone_tail {a b : List UInt8} (h : withN a b = true) : sameN (tailN a (cntN b)) b = true := by
  simp only [withN, Bool.and_eq_true] at h
  exact h.2

theorem climb_in' {ls : List (List UInt8)} (h : Nm ls) (hp : hasP (joinN ls) = true) : withN (joinN ls) (parS (joinN ls)) = true ∧ withN (parS (joinN ls)) (joinN ls) = false ∧ parS (joinN ls) = joinN (ls.drop 1) ∧ ls ≠ [] := by
  obtain ⟨e1, e2⟩ := h.par
  match ls, h, hp, e1, e2 with
  | [], h, hp, e1, e2 => rw [e2] at hp; simp at hp
  | l :: ls, h, hp, e1, e2 =>
    rw [if_neg (by simp)] at e1
    rw [e1]
    exact ⟨(climb_in h).1, (climb_in h).2, rfl, by simp⟩
theorem hasP_no {ls : List (List UInt8)} (h : Nm ls) (hp : hasP (joinN ls) = false) : ls = [] := by
  rw [h.par.2] at hp
  simpa using hp


def delB (x : ESet) : List UInt8 := ((([] : List UInt8) ++ numL 1 [1, (x.nm.length : Int)]) ++ x.nm) ++ numL 2 [x.ty, x.cs]
def bare (x : ESet) : ESet := ⟨x.nm, x.ty, x.cs, 0, 0, 0, [], []⟩
def delO (x : ESet) : Bool := keyO x && decide (x = bare x)

set_option maxRecDepth 20000 in
theorem c_write_del (x : ESet) (h : x.nm.length ≤ 1000000000) : AC Try.prog 33 [.agg (tf true :: setC x)] emp (Ret (.fz 0 (delB x).length (cl bc (delB x)))) := by
  have hl1 : (numL 1 [1, (x.nm.length : Int)]).length = 2 := by rw [numL_len]; rfl
  refine AC.intro te_ok (fn := Try.f33) ⟨Try.func33, rfl, rfl⟩ (Nat.le_of_ble_eq_true rfl) ?_
  refine AWp.seq ?_
  refine AWp.region ?_
  refine AOps.cons rfl rfl (q_box 100) ?_
  refine AOps.cons rfl rfl (q_assign) ?_
  refine AOps.nil ?_
  refine AWp.seq ?_
  refine AWp.region ?_
  refine AOps.cons rfl rfl (q_fa) ?_
  refine AOps.cons rfl rfl (q_load) ?_
  refine AOps.cons rfl rfl (q_alloc 202) ?_
  refine AOps.cons rfl rfl (q_store) ?_
  refine AOps.nil ?_
  refine AWp.seq ?_
  refine AWp.region ?_
  refine AOps.cons rfl rfl (q_assign) ?_
  refine AOps.nil ?_
  refine AWp.seq ?_
  refine AWp.seq ?_
  refine AWp.region ?_
  refine AOps.cons rfl rfl (q_fa) ?_
  refine AOps.cons rfl rfl ((OpOk.bool_is (c := true) (q_load) (rfl))) ?_
  refine AOps.nil ?_
  refine AWp.cond_t rfl ?_
  refine AWp.region ?_
  refine AOps.cons rfl rfl (q_assign) ?_
  refine AOps.nil ?_
  refine AWp.seq ?_
  refine AWp.draws [⟨0, [4], [], some 12, _, none⟩,
      ⟨1, [3], [202], some 13, _, none⟩,
      ⟨2, [13], [202], some 14, _, none⟩,
      ⟨3, [14], [], some 15, _, none⟩,
      ⟨4, [12, 15], [604], some 16, _, some (604, _)⟩,
      ⟨5, [16], [604, 6058], some 17, _, some (6058, _)⟩,
      ⟨6, [3], [202], some 18, _, none⟩,
      ⟨7, [18], [202], some 19, _, none⟩,
      ⟨8, [17, 19], [6058], some 20, _, some (6058, _)⟩,
      ⟨9, [20], [], some 5, _, none⟩]
    [⟨0, [4], [], some 12, .any, none⟩,
        ⟨1, [3], [202], some 13, .any, none⟩,
        ⟨2, [13], [202], some 14, .any, none⟩,
        ⟨3, [14], [], some 15, .any, none⟩,
        ⟨4, [12, 15], [604], some 16, .any, some (604, .box [])⟩,
        ⟨5, [16], [604, 6058], some 17, .any, some (6058, .box [])⟩,
        ⟨6, [3], [202], some 18, .any, none⟩,
        ⟨7, [18], [202], some 19, .any, none⟩,
        ⟨8, [17, 19], [6058], some 20, .any, some (6058, .box [])⟩,
        ⟨9, [20], [], some 5, .any, none⟩]
    mixed_ok rfl (by kernel_rfl) ⟨DS.ok_over fun s0 => OpAt.go rfl rfl (q_move),
        DS.ok_over fun s0 => OpAt.go rfl rfl (q_fa),
        DS.ok_over fun s0 => OpAt.go rfl rfl (q_load),
        DS.ok_over fun s0 => OpAt.go rfl rfl (q_len_str),
        DS.ok_over fun s0 => OpAt.go rfl rfl (q_bs 604 ic [_, _] [(_, _), (_, _)]),
        DS.ok_over fun s0 => OpAt.go rfl rfl (q_callB (0) [] [(8, 6058)] [(_, _)] (hc := (c_num_nil 1 [1, (x.nm.length : Int)] 1 (by omega) (by simp)))),
        DS.ok_over fun s0 => OpAt.go rfl rfl (q_fa),
        DS.ok_over fun s0 => OpAt.go rfl rfl (q_load),
        DS.ok_over fun s0 => OpAt.go rfl rfl (q_app),
        DS.ok_over fun s0 => OpAt.go rfl rfl (q_assign), trivial⟩ ?_
  dsimp only [final, DS.upd, AS.seto]
  refine AWp.seq ?_
  refine AWp.region ?_
  refine AOps.cons rfl rfl (q_move) ?_
  refine AOps.cons rfl rfl (q_fa) ?_
  refine AOps.cons rfl rfl (q_load) ?_
  refine AOps.cons rfl rfl (q_fa) ?_
  refine AOps.cons rfl rfl (q_load) ?_
  refine AOps.cons rfl rfl (q_bs 705 ic [_, _] [(_, _), (_, _)]) ?_
  refine AOps.cons rfl rfl (q_callB (0) [(0, 6058)] [] [(_, _)] (hc := (c_num ((([] : List UInt8) ++ numL 1 [1, (x.nm.length : Int)]) ++ x.nm) 1 2 [x.ty, x.cs] 1 (by omega) (by simp [numL_len]; omega)))) ?_
  refine AOps.cons rfl rfl (q_assign) ?_
  refine AOps.nil ?_
  refine AWp.seq ?_
  refine AWp.seq ?_
  refine AWp.region ?_
  refine AOps.cons rfl rfl (q_fa) ?_
  refine AOps.cons rfl rfl ((OpOk.bool_is (c := true) (q_load) (rfl))) ?_
  refine AOps.nil ?_
  refine AWp.cond_t rfl ?_
  refine AWp.seq ?_
  refine AWp.region ?_
  refine AOps.cons rfl rfl (q_move) ?_
  refine AOps.cons rfl rfl (q_assign) ?_
  refine AOps.nil ?_
  refine AWp.ret ?_
  show Fin te Try.f33 _ _
  refine q_ret (0) [_] [_] ?_
  rfl

set_option maxRecDepth 20000 in
theorem c_can_del (x : ESet) (hx : SetOk x) : AC Try.prog 32 [.agg (tf true :: setC x)] emp (Ret (tf (delO x))) := by
  obtain ⟨h1, h2, h3, h4⟩ := id hx
  refine AC.intro te_ok (fn := Try.f32) ⟨Try.func32, rfl, rfl⟩ (Nat.le_of_ble_eq_true rfl) ?_
  refine AWp.seq ?_
  refine AWp.region ?_
  refine AOps.cons rfl rfl (q_box 100) ?_
  refine AOps.cons rfl rfl (q_assign) ?_
  refine AOps.nil ?_
  refine AWp.seq ?_
  refine AWp.seq ?_
  refine AWp.region ?_
  refine AOps.cons rfl rfl (q_fa) ?_
  refine AOps.cons rfl rfl ((OpOk.bool_is (c := true) (q_load) (rfl))) ?_
  refine AOps.nil ?_
  refine AWp.cond_t rfl ?_
  refine AWp.seq ?_
  refine AWp.region ?_
  refine AOps.cons rfl rfl (q_fa) ?_
  refine AOps.cons rfl rfl (q_load) ?_
  refine AOps.cons rfl rfl (q_alloc 302) ?_
  refine AOps.cons rfl rfl (q_store) ?_
  refine AOps.nil ?_
  refine AWp.seq ?_
  refine AWp.region ?_
  refine AOps.cons rfl rfl (q_load) ?_
  refine AOps.bool rfl rfl (q_call (0) (hc := (c_entry_key x hx))) (fun h3_1 => ?_) (fun h3_1 => ?_)
  · skip
    refine AOps.cons rfl rfl (q_move) ?_
    refine AOps.gcons rfl rfl rfl rfl rfl (q_load) ?_
    refine AOps.gcons rfl rfl rfl rfl rfl (q_fa) ?_
    refine AOps.gcons rfl rfl rfl rfl rfl (q_load) ?_
    refine AOps.gcons rfl rfl rfl rfl rfl (q_fa) ?_
    refine AOps.gcons rfl rfl rfl rfl rfl (q_load) ?_
    refine AOps.gcons rfl rfl rfl rfl rfl (q_fa) ?_
    refine AOps.gcons rfl rfl rfl rfl rfl (q_load) ?_
    refine AOps.gcons rfl rfl rfl rfl rfl (q_build [(_, _), (_, _), (_, _)]) ?_
    refine AOps.gcons rfl rfl rfl rfl rfl (q_call (0) (hA := by exact ⟨fv_okb rfl rfl, fv_agg ⟨fv_okb rfl rfl, fv_okb rfl rfl, fv_okb rfl rfl, fv_okb rfl rfl, fv_okb rfl rfl, fv_okb rfl rfl, fv_okb rfl rfl, fv_nilz, trivial⟩, trivial⟩) (hc := (c_entry_Same x (bare x) hx))) ?_
    refine AOps.cons rfl rfl (q_pick) ?_
    refine AOps.cons rfl rfl (q_assign) ?_
    refine AOps.nil ?_
    refine AWp.ret ?_
    show Fin te Try.f32 _ _
    refine q_ret (0) [_] [_] ?_
    rw [delO, h3_1]; rfl
  · skip
    refine AOps.cons rfl rfl (q_move) ?_
    refine AOps.gskip rfl rfl rfl rfl rfl rfl rfl rfl ?_
    refine AOps.gskip rfl rfl rfl rfl rfl rfl rfl rfl ?_
    refine AOps.gskip rfl rfl rfl rfl rfl rfl rfl rfl ?_
    refine AOps.gskip rfl rfl rfl rfl rfl rfl rfl rfl ?_
    refine AOps.gskip rfl rfl rfl rfl rfl rfl rfl rfl ?_
    refine AOps.gskip rfl rfl rfl rfl rfl rfl rfl rfl ?_
    refine AOps.gskip rfl rfl rfl rfl rfl rfl rfl rfl ?_
    refine AOps.gskip rfl rfl rfl rfl rfl rfl rfl rfl ?_
    refine AOps.gskip rfl rfl rfl rfl rfl rfl rfl rfl ?_
    refine AOps.cons rfl rfl (q_pick) ?_
    refine AOps.cons rfl rfl (q_assign) ?_
    refine AOps.nil ?_
    refine AWp.ret ?_
    show Fin te Try.f32 _ _
    refine q_ret (0) [_] [_] ?_
    rw [delO, h3_1]; rfl

set_option maxRecDepth 20000 in
theorem c_Encode_del (x : ESet) (hx : SetOk x) : AC Try.prog 13 [.agg (tf true :: setC x)] emp (Ret (.tup [.fz 0 (if delO x then delB x else []).length (cl bc (if delO x then delB x else [])), i64 (if delO x then 0 else 1)])) := by
  refine AC.intro te_ok (fn := Try.f13) ⟨Try.func13, rfl, rfl⟩ (Nat.le_of_ble_eq_true rfl) ?_
  refine AWp.seq ?_
  refine AWp.region ?_
  refine AOps.cons rfl rfl (q_box 100) ?_
  refine AOps.cons rfl rfl (q_nilz (0) bc) ?_
  refine AOps.cons rfl rfl (q_assign) ?_
  refine AOps.nil ?_
  refine AWp.seq ?_
  refine AWp.seq ?_
  refine AWp.region ?_
  refine AOps.cons rfl rfl (q_load) ?_
  refine AOps.bool rfl rfl (q_call (0) (hc := (c_can_del x hx))) (fun h1_1 => ?_) (fun h1_1 => ?_)
  · skip
    refine AOps.cons rfl rfl (q_not) ?_
    refine AOps.nil ?_
    refine AWp.cond_f rfl ?_
    refine AWp.skip ?_
    refine AWp.seq ?_
    refine AWp.region ?_
    have hk : canN x.nm = true := by
      have := h1_1
      simp only [delO, keyO, Bool.and_eq_true] at this
      exact this.1.1
    have hkl := canN_len hk
    refine AOps.cons rfl rfl (q_load) ?_
    refine AOps.cons rfl rfl (q_call (0) (hc := (c_write_del x (by omega)))) ?_
    refine AOps.cons rfl rfl (q_assign) ?_
    refine AOps.cons rfl rfl (q_assign) ?_
    refine AOps.nil ?_
    refine AWp.ret ?_
    show Fin te Try.f13 _ _
    refine q_ret (0) [_, _] [_, _] ?_
    rw [h1_1]; rfl
  · skip
    refine AOps.cons rfl rfl (q_not) ?_
    refine AOps.nil ?_
    refine AWp.cond_t rfl ?_
    refine AWp.seq ?_
    refine AWp.region ?_
    refine AOps.cons rfl rfl (q_nilz (0) bc) ?_
    refine AOps.cons rfl rfl (q_assign) ?_
    refine AOps.nil ?_
    refine AWp.ret ?_
    show Fin te Try.f13 _ _
    refine q_ret (0) [_, _] [_, _] ?_
    rw [h1_1]; rfl

set_option maxRecDepth 20000 in
theorem c_ciceronelaw08_awake  : AC Try.prog 19 [] emp (Ret (tf true)) := by
  have hd : delO ⟨[0], 2, 1, 0, 0, 0, [], []⟩ = true := by
    have hc : canN [0] = true := nm_root.can
    simp [delO, keyO, bare, hc]
  refine AC.intro te_ok (fn := Try.f19) ⟨Try.func19, rfl, rfl⟩ (Nat.le_of_ble_eq_true rfl) ?_
  refine AWp.seq ?_
  refine AWp.region ?_
  refine AOps.cons rfl rfl (q_assign) ?_
  refine AOps.nil ?_
  refine AWp.seq ?_
  refine AWp.region ?_
  refine AOps.cons rfl rfl (q_build [(_, _), (_, _), (_, _)]) ?_
  refine AOps.cons rfl rfl (q_build [(_, _), (_, _)]) ?_
  refine AOps.cons rfl rfl (q_call (0) (hA := by exact ⟨fv_agg ⟨fv_okb rfl rfl, fv_okb rfl rfl, fv_okb rfl rfl, fv_okb rfl rfl, fv_okb rfl rfl, fv_okb rfl rfl, fv_okb rfl rfl, fv_okb rfl rfl, fv_nilz, trivial⟩, trivial⟩) (hc := (c_Encode_del ⟨[0], 2, 1, 0, 0, 0, [], []⟩ (by refine ⟨by decide, by decide, by decide, ?_⟩; intro d hd; cases hd)))) ?_
  refine AOps.cons rfl rfl (q_move) ?_
  refine AOps.cons rfl rfl (q_extract) ?_
  refine AOps.cons rfl rfl (q_extract) ?_
  refine AOps.cons rfl rfl (q_assign) ?_
  refine AOps.cons rfl rfl (q_assign) ?_
  refine AOps.nil ?_
  refine AWp.seq ?_
  refine AWp.region ?_
  refine AOps.cons rfl rfl (q_move) ?_
  refine AOps.dec rfl rfl (q_eql) (fun h2_1 => ?_) (fun h2_1 => ?_)
  · skip
    refine AOps.cons rfl rfl (q_move) ?_
    refine AOps.gcons rfl rfl rfl rfl rfl (q_move) ?_
    refine AOps.gcons rfl rfl rfl rfl rfl (q_bs 304 bc [1, 1, 0, 0, 2, 0, 1] [(_, _), (_, _), (_, _), (_, _), (_, _), (_, _), (_, _)]) ?_
    refine AOps.gcons rfl rfl rfl rfl rfl (q_call (0) (hc := c_bytes_Equal _ _ _ _)) ?_
    refine AOps.cons rfl rfl (q_pick) ?_
    refine AOps.cons rfl rfl (q_assign) ?_
    refine AOps.nil ?_
    refine AWp.ret ?_
    show Fin te Try.f19 _ _
    refine q_ret (0) [_] [_] ?_
    exact congrArg tf (decide_eq_true (by rw [hd]; rfl))
  · exfalso; rw [hd] at h2_1; simp at h2_1

end Go.Proofs.Ytaemmklgofddmaa.Fw

/- Walks of layer 8: entries that put. -/
set_option linter.unusedVariables false
set_option linter.unusedSimpArgs false
namespace Go.Proofs.Ytaemmklgofddmaa.Fw
open Go.RowKit


def dsB (ds : List (List UInt8)) : List UInt8 := ds.flatMap fun d => numL 2 [(d.length : Int)] ++ d
theorem dsB_nil : dsB [] = [] := rfl
theorem dsB_snoc (l : List (List UInt8)) (d : List UInt8) : dsB (l ++ [d]) = dsB l ++ numL 2 [(d.length : Int)] ++ d := by simp [dsB]
theorem dsB_len_take (l : List (List UInt8)) (i : Nat) : (dsB (l.take i)).length ≤ (dsB l).length := by
  have : dsB l = dsB (l.take i) ++ dsB (l.drop i) := by rw [dsB, dsB, dsB, ← List.flatMap_append, List.take_append_drop]
  rw [this, List.length_append]; omega
theorem dsB_len_at {l : List (List UInt8)} {i : Nat} (h : i < l.length) : (dsB (l.take i)).length + 2 + (l.getD i default).length ≤ (dsB l).length := by
  have h1 := dsB_len_take l (i + 1)
  rw [take_step' h, dsB_snoc, List.length_append, List.length_append, numL_len] at h1
  simp at h1 ⊢; omega
theorem dsB_two (l : List (List UInt8)) : 2 * l.length ≤ (dsB l).length := by
  induction l with
  | nil => simp [dsB]
  | cons d l ih =>
    have : dsB (d :: l) = (numL 2 [(d.length : Int)] ++ d) ++ dsB l := rfl
    rw [this, List.length_append, List.length_append, numL_len, List.length_cons]; simp; omega
def putH (x : ESet) : List UInt8 := ((((((([] : List UInt8) ++ numL 1 [0, (x.nm.length : Int)]) ++ x.nm) ++ numL 2 [x.ty, x.cs]) ++ numL 1 [x.rank, x.kind]) ++ numL 8 [x.exp]) ++ numL 1 [(x.zone.length : Int)]) ++ x.zone
def putP (x : ESet) : List UInt8 := putH x ++ numL 2 [(x.ds.length : Int)]
def putB (x : ESet) : List UInt8 := putP x ++ dsB x.ds
def Small (x : ESet) : Prop := x.nm.length ≤ 1000000000 ∧ x.zone.length ≤ 1000000000 ∧ (dsB x.ds).length ≤ 1000000000
theorem putP_len (x : ESet) : (putP x).length = 19 + x.nm.length + x.zone.length := by
  simp only [putP, putH, List.length_append, numL_len, List.length_nil, List.length_cons]; omega
theorem putB_len (x : ESet) : (putB x).length = 19 + x.nm.length + x.zone.length + (dsB x.ds).length := by rw [putB, List.length_append, putP_len]

set_option maxRecDepth 20000 in
theorem c_write_put (x : ESet) (h : Small x) : AC Try.prog 33 [.agg (tf false :: setC x)] emp (Ret (.fz 0 (putB x).length (cl bc (putB x)))) := by
  obtain ⟨h1, h2, h3⟩ := id h
  have hp := putP_len x
  have h4 := dsB_two x.ds
  have hl1 : (numL 1 [0, (x.nm.length : Int)]).length = 2 := by rw [numL_len]; rfl
  have hl2 : (numL 1 [(x.zone.length : Int)]).length = 1 := by rw [numL_len]; rfl
  have hl3 : (numL 2 [x.ty, x.cs]).length = 4 := by rw [numL_len]; rfl
  have hl4 : (numL 1 [x.rank, x.kind]).length = 2 := by rw [numL_len]; rfl
  have hl5 : (numL 8 [x.exp]).length = 8 := by rw [numL_len]; rfl
  refine AC.intro te_ok (fn := Try.f33) ⟨Try.func33, rfl, rfl⟩ (Nat.le_of_ble_eq_true rfl) ?_
  refine AWp.seq ?_
  refine AWp.region ?_
  refine AOps.cons rfl rfl (q_box 100) ?_
  refine AOps.cons rfl rfl (q_assign) ?_
  refine AOps.nil ?_
  refine AWp.seq ?_
  refine AWp.region ?_
  refine AOps.cons rfl rfl (q_fa) ?_
  refine AOps.cons rfl rfl (q_load) ?_
  refine AOps.cons rfl rfl (q_alloc 202) ?_
  refine AOps.cons rfl rfl (q_store) ?_
  refine AOps.nil ?_
  refine AWp.seq ?_
  refine AWp.region ?_
  refine AOps.cons rfl rfl (q_assign) ?_
  refine AOps.nil ?_
  refine AWp.seq ?_
  refine AWp.seq ?_
  refine AWp.region ?_
  refine AOps.cons rfl rfl (q_fa) ?_
  refine AOps.cons rfl rfl ((OpOk.bool_is (c := false) (q_load) (rfl))) ?_
  refine AOps.nil ?_
  refine AWp.cond_f rfl ?_
  refine AWp.skip ?_
  refine AWp.seq ?_
  refine AWp.draws [⟨0, [4], [], some 12, _, none⟩,
      ⟨1, [3], [202], some 13, _, none⟩,
      ⟨2, [13], [202], some 14, _, none⟩,
      ⟨3, [14], [], some 15, _, none⟩,
      ⟨4, [12, 15], [604], some 16, _, some (604, _)⟩,
      ⟨5, [16], [604, 6058], some 17, _, some (6058, _)⟩,
      ⟨6, [3], [202], some 18, _, none⟩,
      ⟨7, [18], [202], some 19, _, none⟩,
      ⟨8, [17, 19], [6058], some 20, _, some (6058, _)⟩,
      ⟨9, [20], [], some 5, _, none⟩]
    [⟨0, [4], [], some 12, .any, none⟩,
        ⟨1, [3], [202], some 13, .any, none⟩,
        ⟨2, [13], [202], some 14, .any, none⟩,
        ⟨3, [14], [], some 15, .any, none⟩,
        ⟨4, [12, 15], [604], some 16, .any, some (604, .box [])⟩,
        ⟨5, [16], [604, 6058], some 17, .any, some (6058, .box [])⟩,
        ⟨6, [3], [202], some 18, .any, none⟩,
        ⟨7, [18], [202], some 19, .any, none⟩,
        ⟨8, [17, 19], [6058], some 20, .any, some (6058, .box [])⟩,
        ⟨9, [20], [], some 5, .any, none⟩]
    mixed_ok rfl (by kernel_rfl) ⟨DS.ok_over fun s0 => OpAt.go rfl rfl (q_move),
        DS.ok_over fun s0 => OpAt.go rfl rfl (q_fa),
        DS.ok_over fun s0 => OpAt.go rfl rfl (q_load),
        DS.ok_over fun s0 => OpAt.go rfl rfl (q_len_str),
        DS.ok_over fun s0 => OpAt.go rfl rfl (q_bs 604 ic [_, _] [(_, _), (_, _)]),
        DS.ok_over fun s0 => OpAt.go rfl rfl (q_callB (0) [] [(8, 6058)] [(_, _)] (hc := (c_num_nil 1 [0, (x.nm.length : Int)] 1 (by omega) (by simp)))),
        DS.ok_over fun s0 => OpAt.go rfl rfl (q_fa),
        DS.ok_over fun s0 => OpAt.go rfl rfl (q_load),
        DS.ok_over fun s0 => OpAt.go rfl rfl (q_app),
        DS.ok_over fun s0 => OpAt.go rfl rfl (q_assign), trivial⟩ ?_
  dsimp only [final, DS.upd, AS.seto]
  refine AWp.seq ?_
  refine AWp.region ?_
  refine AOps.cons rfl rfl (q_move) ?_
  refine AOps.cons rfl rfl (q_fa) ?_
  refine AOps.cons rfl rfl (q_load) ?_
  refine AOps.cons rfl rfl (q_fa) ?_
  refine AOps.cons rfl rfl (q_load) ?_
  refine AOps.cons rfl rfl (q_bs 705 ic [_, _] [(_, _), (_, _)]) ?_
  refine AOps.cons rfl rfl (q_callB (0) [(0, 6058)] [] [(_, _)] (hc := (c_num ((([] : List UInt8) ++ numL 1 [0, (x.nm.length : Int)]) ++ x.nm) 1 2 [x.ty, x.cs] 1 (by omega) (by simp only [List.length_append, numL_len, List.length_cons, List.length_nil]; omega)))) ?_
  refine AOps.cons rfl rfl (q_assign) ?_
  refine AOps.nil ?_
  refine AWp.seq ?_
  refine AWp.seq ?_
  refine AWp.region ?_
  refine AOps.cons rfl rfl (q_fa) ?_
  refine AOps.cons rfl rfl ((OpOk.bool_is (c := false) (q_load) (rfl))) ?_
  refine AOps.nil ?_
  refine AWp.cond_f rfl ?_
  refine AWp.skip ?_
  refine AWp.seq ?_
  refine AWp.draws [⟨0, [5], [], some 31, _, none⟩,
      ⟨1, [3], [202], some 32, _, none⟩,
      ⟨2, [32], [202], some 33, _, none⟩,
      ⟨3, [3], [202], some 34, _, none⟩,
      ⟨4, [34], [202], some 35, _, none⟩,
      ⟨5, [33, 35], [1005], some 36, _, some (1005, _)⟩,
      ⟨6, [31, 36], [1005, 6058], some 37, _, some (6058, _)⟩,
      ⟨7, [3], [202], some 38, _, none⟩,
      ⟨8, [38], [202], some 39, _, none⟩,
      ⟨9, [39], [1009], some 40, _, some (1009, _)⟩,
      ⟨10, [37, 40], [1009, 6058], some 41, _, some (6058, _)⟩,
      ⟨11, [41], [], some 5, _, none⟩]
    [⟨0, [5], [], some 31, .any, none⟩,
        ⟨1, [3], [202], some 32, .any, none⟩,
        ⟨2, [32], [202], some 33, .any, none⟩,
        ⟨3, [3], [202], some 34, .any, none⟩,
        ⟨4, [34], [202], some 35, .any, none⟩,
        ⟨5, [33, 35], [1005], some 36, .any, some (1005, .box [])⟩,
        ⟨6, [31, 36], [1005, 6058], some 37, .any, some (6058, .box [])⟩,
        ⟨7, [3], [202], some 38, .any, none⟩,
        ⟨8, [38], [202], some 39, .any, none⟩,
        ⟨9, [39], [1009], some 40, .any, some (1009, .box [])⟩,
        ⟨10, [37, 40], [1009, 6058], some 41, .any, some (6058, .box [])⟩,
        ⟨11, [41], [], some 5, .any, none⟩]
    mixed_ok rfl (by kernel_rfl) ⟨DS.ok_over fun s0 => OpAt.go rfl rfl (q_move),
        DS.ok_over fun s0 => OpAt.go rfl rfl (q_fa),
        DS.ok_over fun s0 => OpAt.go rfl rfl (q_load),
        DS.ok_over fun s0 => OpAt.go rfl rfl (q_fa),
        DS.ok_over fun s0 => OpAt.go rfl rfl (q_load),
        DS.ok_over fun s0 => OpAt.go rfl rfl (q_bs 1005 ic [_, _] [(_, _), (_, _)]),
        DS.ok_over fun s0 => OpAt.go rfl rfl (q_callB (0) [(0, 6058)] [] [(_, _)] (hc := (c_num (((([] : List UInt8) ++ numL 1 [0, (x.nm.length : Int)]) ++ x.nm) ++ numL 2 [x.ty, x.cs]) _ 1 [x.rank, x.kind] 1 (by omega) (by simp only [List.length_append, numL_len, List.length_cons, List.length_nil]; omega)))),
        DS.ok_over fun s0 => OpAt.go rfl rfl (q_fa),
        DS.ok_over fun s0 => OpAt.go rfl rfl (q_load),
        DS.ok_over fun s0 => OpAt.go rfl rfl (q_bs 1009 ic [_] [(_, _)]),
        DS.ok_over fun s0 => OpAt.go rfl rfl (q_callB (0) [(0, 6058)] [] [(_, _)] (hc := (c_num ((((([] : List UInt8) ++ numL 1 [0, (x.nm.length : Int)]) ++ x.nm) ++ numL 2 [x.ty, x.cs]) ++ numL 1 [x.rank, x.kind]) _ 8 [x.exp] 1 (by omega) (by simp only [List.length_append, numL_len, List.length_cons, List.length_nil]; omega)))),
        DS.ok_over fun s0 => OpAt.go rfl rfl (q_assign), trivial⟩ ?_
  dsimp only [final, DS.upd, AS.seto]
  refine AWp.seq ?_
  refine AWp.draws [⟨0, [5], [], some 42, _, none⟩,
      ⟨1, [3], [202], some 43, _, none⟩,
      ⟨2, [43], [202], some 44, _, none⟩,
      ⟨3, [44], [], some 45, _, none⟩,
      ⟨4, [45], [1104], some 46, _, some (1104, _)⟩,
      ⟨5, [42, 46], [1104, 6058], some 47, _, some (6058, _)⟩,
      ⟨6, [3], [202], some 48, _, none⟩,
      ⟨7, [48], [202], some 49, _, none⟩,
      ⟨8, [47, 49], [6058], some 50, _, some (6058, _)⟩,
      ⟨9, [50], [], some 5, _, none⟩]
    [⟨0, [5], [], some 42, .any, none⟩,
        ⟨1, [3], [202], some 43, .any, none⟩,
        ⟨2, [43], [202], some 44, .any, none⟩,
        ⟨3, [44], [], some 45, .any, none⟩,
        ⟨4, [45], [1104], some 46, .any, some (1104, .box [])⟩,
        ⟨5, [42, 46], [1104, 6058], some 47, .any, some (6058, .box [])⟩,
        ⟨6, [3], [202], some 48, .any, none⟩,
        ⟨7, [48], [202], some 49, .any, none⟩,
        ⟨8, [47, 49], [6058], some 50, .any, some (6058, .box [])⟩,
        ⟨9, [50], [], some 5, .any, none⟩]
    mixed_ok rfl (by kernel_rfl) ⟨DS.ok_over fun s0 => OpAt.go rfl rfl (q_move),
        DS.ok_over fun s0 => OpAt.go rfl rfl (q_fa),
        DS.ok_over fun s0 => OpAt.go rfl rfl (q_load),
        DS.ok_over fun s0 => OpAt.go rfl rfl (q_len_str),
        DS.ok_over fun s0 => OpAt.go rfl rfl (q_bs 1104 ic [_] [(_, _)]),
        DS.ok_over fun s0 => OpAt.go rfl rfl (q_callB (0) [(0, 6058)] [] [(_, _)] (hc := (c_num (((((([] : List UInt8) ++ numL 1 [0, (x.nm.length : Int)]) ++ x.nm) ++ numL 2 [x.ty, x.cs]) ++ numL 1 [x.rank, x.kind]) ++ numL 8 [x.exp]) _ 1 [(x.zone.length : Int)] 1 (by omega) (by simp only [List.length_append, numL_len, List.length_cons, List.length_nil]; omega)))),
        DS.ok_over fun s0 => OpAt.go rfl rfl (q_fa),
        DS.ok_over fun s0 => OpAt.go rfl rfl (q_load),
        DS.ok_over fun s0 => OpAt.go rfl rfl (q_app),
        DS.ok_over fun s0 => OpAt.go rfl rfl (q_assign), trivial⟩ ?_
  dsimp only [final, DS.upd, AS.seto]
  refine AWp.seq ?_
  refine AWp.region ?_
  refine AOps.cons rfl rfl (q_move) ?_
  refine AOps.cons rfl rfl (q_fa) ?_
  refine AOps.cons rfl rfl (q_load) ?_
  refine AOps.cons rfl rfl (q_len) ?_
  refine AOps.cons rfl rfl (q_bs 1204 ic [_] [(_, _)]) ?_
  refine AOps.cons rfl rfl (q_callB (0) [(0, 6058)] [] [(_, _)] (hc := (c_num (putH x) _ 2 [(x.ds.length : Int)] 1 (by omega) (by simp only [putH, List.length_append, numL_len, List.length_cons, List.length_nil]; omega)))) ?_
  refine AOps.cons rfl rfl (q_assign) ?_
  refine AOps.nil ?_
  refine AWp.seq ?_
  refine AWp.seq ?_
  refine AWp.region ?_
  refine AOps.cons rfl rfl (q_fa) ?_
  refine AOps.cons rfl rfl (q_load) ?_
  refine AOps.cons rfl rfl (q_len) ?_
  refine AOps.cons rfl rfl (q_move) ?_
  refine AOps.nil ?_
  refine AWp.block ?_
  refine AWp.loopR (α := Nat × List UInt8 × Nat) [5, 7, 60, 61, 62, 63, 64, 65, 66, 67, 68, 69, 70, 71] (fun x_ => [(60, i64 (x_.1)), (5, .sl 6058 (x_.2.2) 0 (x_.2.1).length 1)]) (fun x_ => [(6058, .row (cl bc (x_.2.1)) 1 (x_.2.2))]) (fun x_ => (x_.1) ≤ x.ds.length ∧ (x_.2.1) = putP x ++ dsB (x.ds.take (x_.1))) (fun x_ => x.ds.length - (x_.1)) (0, putP x, _) ?_ (Back.mk' (HasT.cons (HasT.cons HasT.nil)) (HasH.cons HasH.nil)) ?_
  · exact ⟨Nat.zero_le _, by simp [dsB, putP, putH]⟩
  · rintro ⟨i, acc, ver⟩ hI13
    change i ≤ x.ds.length ∧ acc = putP x ++ dsB (x.ds.take i) at hI13
    obtain ⟨hi, hacc⟩ := hI13
    refine AWp.as (s' := AS.over _ [5, 7, 60, 61, 62, 63, 64, 65, 66, 67, 68, 69, 70, 71] [(60, i64 i), (5, .sl 6058 ver 0 acc.length 1)] [(6058, .row (cl bc acc) 1 ver)]) rfl ?_
    have hal := congrArg List.length hacc
    rw [List.length_append, hp] at hal
    have hdt := dsB_len_take x.ds i
    refine AWp.seq ?_
    refine AWp.region ?_
    refine AOps.dec rfl rfl (q_lss) (fun h13_0 => ?_) (fun h13_0 => ?_)
    · skip
      refine AOps.nil ?_
      refine AWp.seq ?_
      refine AWp.cond_t rfl ?_
      refine AWp.skip ?_
      refine AWp.seq ?_
      refine AWp.block ?_
      refine AWp.seq ?_
      refine AWp.region ?_
      refine AOps.cons rfl rfl (q_ix) ?_
      refine AOps.cons rfl rfl (q_load) ?_
      refine AOps.cons rfl rfl (q_assign) ?_
      refine AOps.nil ?_
      refine AWp.region ?_
      have hdi := dsB_len_at (l := x.ds) (i := i) (by omega)
      have hdi2 : (x.ds[i]?.getD default).length ≤ 1000000000 := by rw [← List.getD_eq_getElem?_getD]; omega
      have hdi3 : (x.ds.getD (i : Int).toNat default).length ≤ 1000000000 := by
        have : (x.ds.getD i default).length ≤ 1000000000 := by omega
        exact this
      have hl7 : (numL 2 [((x.ds[i]?.getD default).length : Int)]).length = 2 := by rw [numL_len]; rfl
      have hl8 : (numL 2 [((x.ds.getD i default).length : Int)]).length = 2 := by rw [numL_len]; rfl
      refine AOps.cons rfl rfl (q_move) ?_
      refine AOps.cons rfl rfl (q_move) ?_
      refine AOps.cons rfl rfl (q_len) ?_
      refine AOps.cons rfl rfl (q_bs 1603 ic [_] [(_, _)]) ?_
      refine AOps.cons rfl rfl (q_callB (0) [(0, 6058)] [] [(_, _)] (hc := (c_num acc ver 2 [((x.ds.getD i default).length : Int)] 1 (by omega) (by simp only [List.length_cons, List.length_nil]; omega)))) ?_
      refine AOps.cons rfl rfl (q_move) ?_
      refine AOps.cons rfl rfl (q_app) ?_
      refine AOps.cons rfl rfl (q_assign) ?_
      refine AOps.nil ?_
      refine AWp.region ?_
      refine AOps.cons rfl rfl (q_add) ?_
      refine AOps.cons rfl rfl (q_move) ?_
      refine AOps.nil ?_
      refine ⟨(i + 1, _, _), ?_, Back.mk' (HasT.cons (HasT.cons HasT.nil)) (HasH.cons HasH.nil), ?_⟩
      · try dsimp only
        exact ⟨by omega, by rw [hacc, take_step' (by omega), dsB_snoc]; simp⟩
      · try dsimp only
        first | omega | (simp; omega)
    · skip
      refine AOps.nil ?_
      refine AWp.seq ?_
      refine AWp.cond_f rfl ?_
      refine AWp.exit ?_
      refine AWp.seq ?_
      refine AWp.region ?_
      refine AOps.cons rfl rfl (q_move) ?_
      refine AOps.cons rfl rfl (q_assign) ?_
      refine AOps.nil ?_
      refine AWp.ret ?_
      show Fin te Try.f33 _ _
      obtain rfl : i = x.ds.length := by omega
      rw [List.take_length] at hacc
      obtain rfl : acc = putB x := hacc
      refine q_ret (0) [_] [_] ?_
      rfl

end Go.Proofs.Ytaemmklgofddmaa.Fw

/- Walks of functions of Go's package slices; their conditions stand ahead. -/
set_option linter.unusedVariables false
set_option linter.unusedSimpArgs false
namespace Go.Proofs.Ytaemmklgofddmaa.Fw
open Go.RowKit


/-- Where the first that g holds of stands, or -1. -/
def idx {α : Type} (g : α → Bool) : List α → Int
  | [] => -1
  | a :: l => if g a then 0 else if idx g l = -1 then -1 else idx g l + 1
theorem idx_ge {α : Type} (g : α → Bool) : ∀ l, -1 ≤ idx g l
  | [] => by simp [idx]
  | a :: l => by
    have := idx_ge g l
    simp only [idx]
    split
    · omega
    · split <;> omega
theorem idx_none {α : Type} {g : α → Bool} : ∀ {l : List α}, (∀ x ∈ l, g x = false) → idx g l = -1
  | [], _ => rfl
  | a :: l, h => by
    simp [idx, h a (by simp), idx_none (l := l) fun x hx => h x (by simp [hx])]
theorem idx_at {α : Type} [Inhabited α] {g : α → Bool} : ∀ {l : List α} {i : Nat}, i < l.length → (∀ x ∈ l.take i, g x = false) → g (l.getD i default) = true → idx g l = i
  | [], i, h, _, _ => by simp at h
  | a :: l, 0, _, _, h => by
    have : g a = true := by simpa using h
    simp [idx, this]
  | a :: l, i + 1, h, h1, h2 => by
    have h3 : g a = false := h1 a (by simp)
    have h4 := idx_at (l := l) (i := i) (g := g) (by simpa using h) (fun x hx => h1 x (by simp [hx])) (by simpa using h2)
    simp only [idx, h3, Bool.false_eq_true, if_false, h4]
    rw [if_neg (by omega)]
    omega
theorem idx_step {α : Type} [Inhabited α] {g : α → Bool} {l : List α} {i : Nat} (h : i < l.length) (h1 : ∀ x ∈ l.take i, g x = false) (h2 : g (l.getD i default) = false) : ∀ x ∈ l.take (i + 1), g x = false := by
  intro x hx
  rw [List.take_succ_eq_append_getElem h] at hx
  rcases List.mem_append.1 hx with hx | hx
  · exact h1 x hx
  · simp only [List.mem_singleton] at hx
    subst hx
    simpa [List.getD_eq_getElem?_getD, List.getElem?_eq_getElem h] using h2
theorem idx_any_iff {α : Type} {g : α → Bool} : ∀ {l : List α}, 0 ≤ idx g l ↔ l.any g = true
  | [] => by simp [idx]
  | a :: l => by
    have h1 := idx_ge g l
    have h2 := idx_any_iff (g := g) (l := l)
    unfold idx
    rw [List.any_cons]
    by_cases ha : g a = true
    · simp [ha]
    · rw [if_neg ha]
      simp only [Bool.not_eq_true] at ha
      rw [ha, Bool.false_or, ← h2]
      split <;> omega
theorem idx_any {α : Type} {g : α → Bool} {l : List α} : decide (0 ≤ idx g l) = l.any g := by
  rw [Bool.eq_iff_iff, decide_eq_true_iff]
  exact idx_any_iff
theorem fvs_caps {h : Heap} {lo hi l : Nat} {a b : AV} {caps : List AV} (e : FVal h lo hi a b) (hl : l ≤ lo) (hc : AV.oks l caps = true) : FVals h lo hi (a :: caps) (b :: caps) := ⟨e, fvs_ok (AV.oks_mono hl hc)⟩

end Go.Proofs.Ytaemmklgofddmaa.Fw

/- Q9: slices with three indices, of frozen lists. -/
set_option linter.unusedVariables false
set_option linter.unusedSimpArgs false
namespace Go.Proofs.Ytaemmklgofddmaa.Fw
open Go.RowKit
section
variable {n : Nat} {s : AS} {o : Oper} {d : Option Tmp}
/-- A part of a frozen list with a capacity that is told by another temporary of the same value. -/
theorem ok_slice_fz3 {P : Program} {te : TE} (hte : TEok P te) {t e : TypeId} {x y z : Operand} {lo : Option Operand} {lv m : Nat} {cells cs : List AV} {p q : Nat} {ti tj : TI} (ho : o.op = .slice t x lo (some y) (some z))
    (hx : s.ev x = .fz lv m cells) (ht : te.get t = some ti) (hk : ti.k = .slice e) (he : te.get e = some tj) (hm : ∀ c, Bnd s (some z) c q) (hh : Bnd s (some y) m q) (hl : Bnd s lo 0 p) (h1 : p ≤ q) (h2 : q ≤ m)
    (hcl : cells.length = m * tj.size) (hcs : (cells.drop (p * tj.size)).take ((q - p) * tj.size) = cs) (hp : 0 < tj.size) (hdd : o.dst = d) (hd : d.all (Nat.blt · n) = true) :
    OpOk P n o s (s.put d (.fz lv (q - p) cs)) :=
  .val hdd hd fun Λ w φ a hs => by
    have hu := (hte.tells ht).slice hk
    have hr := hs.ev x
    rw [hx] at hr
    have hlen : cs.length = (q - p) * tj.size := by
      rw [← hcs, List.length_take, List.length_drop, hcl, ← Nat.sub_mul]
      exact Nat.min_eq_left (Nat.mul_le_mul_right _ (by omega))
    have hb : ∀ cap, m ≤ cap → ∃ mm, q ≤ mm ∧ mm ≤ cap ∧ (Instr.sliceBounds true m cap (lo.map a.eval) ((some y).map a.eval) ((some z).map a.eval)).run P w = .ok (p, q, mm) w := by
      intro cap hcap
      exact ⟨q, Nat.le_refl _, by omega, run_sliceBounds hs (hm cap) hh hl (fun _ => rfl) h1 (Nat.le_refl _) (by omega)⟩
    by_cases hz : q - p = 0
    · have hcs0 : cs = [] := List.eq_nil_of_length_eq_zero (by rw [hlen, hz]; simp)
      subst hcs0
      rw [hz]
      obtain ⟨ad, cap, hv⟩ := rep_len (m := m) hr rfl
      have hcap : m ≤ cap := by
        rw [hv] at hr
        cases hr with
        | fz0 => exact Nat.zero_le _
        | fz => assumption
      obtain ⟨mm, g1, g2, g3⟩ := hb cap hcap
      simp only [Option.map_some] at g3
      refine ⟨.slice (if mm = p then ad else ad.map (·.add (p * tj.size))) 0 (mm - p), ?_, .fz0⟩
      · simp [execOp, ho, hv, Instr.sliceAt, Instr.slice, run_underlying hu, g3, (hte.tells he).run_sizeOf, hz]
    · obtain ⟨b, of, cap, hv, hcap, vf, r1, r2, r3, r4⟩ := rep_fz_part hr (p * tj.size) ((q - p) * tj.size) hcs (by rw [hlen]; exact Nat.mul_pos (by omega) hp)
      obtain ⟨mm, g1, g2, g3⟩ := hb cap hcap
      simp only [Option.map_some] at g3
      have hne : mm ≠ p := by omega
      refine ⟨.slice (some ⟨b, of + p * tj.size, none⟩) (q - p) (mm - p), ?_, .fz vf r1 (by omega) r2 r3 r4 (by rw [hlen]; exact Nat.mul_pos (by omega) hp)⟩
      simp [execOp, ho, hv, Instr.sliceAt, Instr.slice, run_underlying hu, g3, (hte.tells he).run_sizeOf, hne, Addr.add_lit]
/-- A list's beginning, its capacity told. -/
theorem q_sl3 {t e : TypeId} {x y z : Operand} {lv : Nat} {α : Type} {f : α → List AV} {l : List α} {k k' : IntKind} {j : Int} {ti tj : TI} (ho : o.op = .slice t x none (some y) (some z) := by exact rfl) (hx : s.ev x = .fz lv l.length (cl f l) := by exact rfl)
    (ht : te.get t = some ti := by exact rfl) (hk : ti.k = .slice e := by exact rfl) (he : te.get e = some tj := by exact rfl) (hy : s.ev y = .v (.int k j) := by exact rfl) (hz : s.ev z = .v (.int k' j) := by exact rfl) (hf : ∀ x, (f x).length = tj.size := by exact fun _ => rfl)
    (h0 : 0 ≤ j := by first | omega | decide | (simp; omega)) (h2 : j ≤ l.length := by first | omega | decide | (simp; omega)) (hp : 0 < tj.size := by exact Nat.le_of_ble_eq_true rfl)
    (hdd : o.dst = d := by conv => lhs; whnf) (hd : d.all (Nat.blt · n) = true := by exact rfl) : OpOk Try.prog n o s (s.put d (.fz lv (l.take j.toNat).length (cl f (l.take j.toNat)))) := by
  have e1 : (l.take j.toNat).length = j.toNat - 0 := by rw [List.length_take]; omega
  rw [e1]
  refine ok_slice_fz3 te_ok ho hx ht hk he (fun c => ⟨k', j, hz, h0, rfl⟩) ⟨k, j, hy, h0, rfl⟩ rfl (Nat.zero_le _) (by omega) (cl_length hf l) ?_ hp hdd hd
  rw [Nat.zero_mul, List.drop_zero, Nat.sub_zero, cl_take hf]
end
end Go.Proofs.Ytaemmklgofddmaa.Fw

/- Q10: sums that wrap round; slices that are made with a length. -/
set_option linter.unusedVariables false
set_option linter.unusedSimpArgs false
namespace Go.Proofs.Ytaemmklgofddmaa.Fw
open Go.RowKit
section
variable {n : Nat} {s : AS} {o : Oper} {d : Option Tmp}
theorem q_addw {t u : TypeId} {x y : Operand} {k : IntKind} {a b : Int} (ho : o.op = .binOp .add t x y u := by exact rfl) (hx : s.ev x = .v (.int k a) := by exact rfl) (hy : s.ev y = .v (.int k b) := by exact rfl)
    (hdd : o.dst = d := by conv => lhs; whnf) (hd : d.all (Nat.blt · n) = true := by exact rfl) : OpOk Try.prog n o s (s.put d (.v (.int k (k.wrap (a + b))))) := ok_bin ho hx hy br_add hdd hd
theorem ok_make {P : Program} {te : TE} (hte : TEok P te) {t e : TypeId} {x y : Operand} {k k' : IntKind} {c id : Nat} {ti tj : TI} (ho : o.op = .makeSlice t x y) (hx : s.ev x = .v (.int k c)) (hy : s.ev y = .v (.int k' c))
    (ht : te.get t = some ti) (hk : ti.k = .slice e) (he : te.get e = some tj) (hid : s.h id = none) (hz : Nat.beq tj.zero.length tj.size = true) (hb : tj.bytes * c ≤ 140737488351232) (h63 : c ≤ 9223372036854775807)
    (hdd : o.dst = d) (hd : d.all (Nat.blt · n) = true) : OpOk P n o s ((s.seth id (some (.row (repZ tj.zero c) tj.size 0))).put d (.sl id 0 0 c tj.size)) :=
  .chg hdd hd fun Λ w φ a hs => by
    have hu := (hte.tells ht).slice hk
    obtain ⟨f, z, z1, z2, z3, z4, z5, z6, z7⟩ := (hte.tells he).info
    have hzl := Nat.eq_of_beq_eq_true hz
    have hb' : (f.bytes : Int) * (c : Int) ≤ 281474976710656 := by
      have : ((f.bytes * c : Nat) : Int) ≤ 281474976710656 := by rw [z3]; omega
      rwa [Int.natCast_mul] at this
    have hrun := run_make (P := P) w t e f z hu z1 z4 k k' (c : Int) (c : Int) (by omega) (Int.le_refl _) hb' (by omega)
    simp only [Int.toNat_natCast] at hrun
    have hrep : ListRep w φ Λ (madeCells z.cells (c * f.size)) (repZ tj.zero c) := zeros_many z5 c _ (by rw [z2, hzl])
    have hc := Chg.alloc hs.hs hid (.cells (madeCells z.cells (c * f.size)) e) 0 0
    have hsz : (madeCells z.cells (c * f.size)).size = c * f.size := size_madeCells _ _
    refine ⟨_, _, _, ?_, hc, objRep_row (w0 := w) (by rw [repZ_length, hzl, hsz, z2]; exact Nat.le_refl _) (fun j q hj => ?_), .slice (some ⟨w.heap.size, 0, none⟩) c c, .inl rfl, ?_⟩
    · simp [execOp, ho, ev_v hs hx, ev_v hs hy, hrun]
    · obtain ⟨v, hv, hr⟩ := hrep.2 j q hj
      rw [Nat.zero_add] at hv
      exact ⟨v, hv, hc.rep hr⟩
    · have hcs : (madeCells z.cells (c * f.size)).size = c * tj.size := by rw [hsz, z2]
      exact Rep.sl (off := 0) (upd_same _ _ _) rfl rfl (heap_alloc_new w _) (by omega) (Nat.le_refl _)
theorem repZ_cl {α : Type} {f : α → List AV} {a : α} {zs : List ZC} (h : zs.map (fun z => AV.v z.val) = f a) : ∀ c, repZ zs c = cl f (List.replicate c a)
  | 0 => rfl
  | c + 1 => by rw [repZ, repZ_cl h c, h]; rfl
/-- A slice of so many elements, all alike. -/
theorem q_make (id : Nat) {α : Type} (f : α → List AV) (a : α) (c : Nat) {t e : TypeId} {x y : Operand} {k k' : IntKind} {ti tj : TI} (ho : o.op = .makeSlice t x y := by exact rfl) (hx : s.ev x = .v (.int k c) := by exact rfl) (hy : s.ev y = .v (.int k' c) := by exact rfl)
    (ht : te.get t = some ti := by exact rfl) (hk : ti.k = .slice e := by exact rfl) (he : te.get e = some tj := by exact rfl) (hid : s.h id = none := by exact rfl) (hz : Nat.beq tj.zero.length tj.size = true := by exact rfl)
    (hf : tj.zero.map (fun z => AV.v z.val) = f a := by exact rfl) (hb : tj.bytes * c ≤ 140737488351232 := by first | omega | (simp; omega)) (h63 : c ≤ 9223372036854775807 := by omega)
    (hdd : o.dst = d := by conv => lhs; whnf) (hd : d.all (Nat.blt · n) = true := by exact rfl) : OpOk Try.prog n o s ((s.seth id (some (.row (cl f (List.replicate c a)) tj.size 0))).put d (.sl id 0 0 (List.replicate c a).length tj.size)) := by
  rw [List.length_replicate, ← repZ_cl hf]
  exact ok_make te_ok ho hx hy ht hk he hid hz hb h63 hdd hd
/-- u64: a number eight bits up; a number with a byte behind. -/
theorem wrapu64 {a : Int} (h0 : 0 ≤ a) (h1 : a < 18446744073709551616) : IntKind.u64.wrap a = a := by
  have : IntKind.u64.wrap a = a % 18446744073709551616 := by simp [IntKind.wrap, IntKind.signed, IntKind.bits]
  rw [this]; omega
theorem q_shlu8 {t u : TypeId} {x y : Operand} {k' : IntKind} {a : Int} (ho : o.op = .binOp .shl t x y u := by exact rfl) (hx : s.ev x = .v (.int .u64 a) := by exact rfl) (hy : s.ev y = .v (.int k' 8) := by exact rfl)
    (h0 : 0 ≤ a ∧ a < 72057594037927936 := by first | omega | decide | (simp; omega)) (hdd : o.dst = d := by conv => lhs; whnf) (hd : d.all (Nat.blt · n) = true := by exact rfl) :
    OpOk Try.prog n o s (s.put d (.v (.int .u64 (a * 2 ^ 8)))) := by
  have h := br_shl (P := Try.prog) (t := t) (x := x) (y := y) (k := .u64) (k' := k') (a := a) (b := 8) (by decide)
  have e : a * 2 ^ min (8 : Int).toNat IntKind.u64.bits = a * 2 ^ 8 := rfl
  rw [e, wrapu64 (by omega) (by omega)] at h
  exact ok_bin ho hx hy h hdd hd
theorem q_orbu {t u : TypeId} {x y : Operand} {a b : Int} (ho : o.op = .binOp .or t x y u := by exact rfl) (hx : s.ev x = .v (.int .u64 (a * 2 ^ 8)) := by exact rfl) (hy : s.ev y = .v (.int .u64 b) := by exact rfl)
    (ha : 0 ≤ a ∧ a < 72057594037927936 := by first | omega | decide | (simp; omega)) (hb : 0 ≤ b ∧ b < 256 := by first | omega | decide | (simp; omega))
    (hdd : o.dst = d := by conv => lhs; whnf) (hd : d.all (Nat.blt · n) = true := by exact rfl) : OpOk Try.prog n o s (s.put d (.v (.int .u64 (a * 256 + b)))) := by
  have h := br_or (P := Try.prog) (t := t) (x := x) (y := y) (k := .u64) (a := a * 2 ^ 8) (b := b)
  have e1 : IntKind.u64.bits = 64 := rfl
  rw [e1, BitVec.toNat_or, ofInt_toNat (by omega) (by omega), ofInt_toNat hb.1 (by omega), or256 ha.1 hb, wrapu64 (by omega) (by omega)] at h
  exact ok_bin ho hx hy h hdd hd
end
end Go.Proofs.Ytaemmklgofddmaa.Fw

/- Walks of layer 8: whether a set can be kept. -/
set_option linter.unusedVariables false
set_option linter.unusedSimpArgs false
namespace Go.Proofs.Ytaemmklgofddmaa.Fw
open Go.RowKit


def wsum (ds : List (List UInt8)) : Int := ds.foldl (fun n d => IntKind.i64.wrap (n + (2 + (d.length : Int)))) 0
theorem wsum_snoc (l : List (List UInt8)) (d : List UInt8) : wsum (l ++ [d]) = IntKind.i64.wrap (wsum l + (2 + (d.length : Int))) := by simp [wsum]
theorem canS_len {t : Int} {d : List UInt8} (h : canS t d = true) : d.length ≤ 65535 := by
  unfold canS at h
  split at h
  · simp only [Bool.and_eq_true, decide_eq_true_eq] at h; exact h.1
  · unfold canR at h
    split at h
    · cases h
    · omega
theorem dsB_le {l : List (List UInt8)} (h : ∀ d ∈ l, d.length ≤ 65535) : (dsB l).length ≤ 65537 * l.length := by
  induction l with
  | nil => simp [dsB]
  | cons d l ih =>
    have : dsB (d :: l) = (numL 2 [(d.length : Int)] ++ d) ++ dsB l := rfl
    rw [this, List.length_append, List.length_append, numL_len, List.length_cons]
    have h1 := h d (by simp)
    have h2 := ih fun x hx => h x (by simp [hx])
    simp only [List.length_cons, List.length_nil]; omega
theorem wsum_dsB {l : List (List UInt8)} (h : ∀ d ∈ l, d.length ≤ 65535) (hl : l.length * 24 ≤ 140737488351232) : ∀ i, i ≤ l.length → wsum (l.take i) = (dsB (l.take i)).length := by
  intro i
  induction i with
  | zero => intro _; rfl
  | succ i ih =>
    intro hi
    rw [take_step' (by omega), wsum_snoc, dsB_snoc, ih (by omega), List.length_append, List.length_append, numL_len]
    have h1 : (dsB (l.take i)).length ≤ 65537 * (l.take i).length := dsB_le fun d hd => h d (List.mem_of_mem_take hd)
    rw [List.length_take] at h1
    have h2 := h (l.getD i default) (getD_mem (by omega))
    rw [wrap64 (by omega) (by omega)]
    simp only [List.length_cons, List.length_nil]; omega
def kT (x : ESet) : Int := if x.kind = 0 then x.ty else 6
def kN (x : ESet) : Bool := decide (x.ty = 0) == decide (x.kind = 2)
def canK (x : ESet) : Bool := if x.kind = 0 then decide (0 < x.ty) && decide (x.zone = []) && decide (((putB x).length : Int) ≤ 4000)
  else if x.kind = 1 ∨ x.kind = 2 then canN x.zone && decide ((x.ds.length : Int) = 1) && kN x && decide (((putB x).length : Int) ≤ 4000) else false
def canE (x : ESet) : Bool := keyO x && !decide (x.rank < 1) && !decide (3 < x.rank) && !decide (x.exp < 0) && !decide (1099511627776 < x.exp) && !decide ((x.ds.length : Int) = 0) && !decide (4000 < wsum x.ds) && !(x.ds.any fun d => !canS (kT x) d) && canK x
theorem small_of {x : ESet} {t : Int} (hx : SetOk x) (h1 : keyO x = true) (h2 : ¬ 4000 < wsum x.ds) (h3 : (x.ds.any fun d => !canS t d) = false) (h4 : x.zone.length ≤ 1000000000) : Small x ∧ (dsB x.ds).length ≤ 4000 := by
  have hd : ∀ d ∈ x.ds, d.length ≤ 65535 := fun d hd => by
    have := List.any_eq_false.1 h3 d hd
    simp only [Bool.not_eq_true, Bool.not_eq_false'] at this
    exact canS_len this
  have hs := wsum_dsB hd hx.2.2.1 x.ds.length (Nat.le_refl _)
  rw [List.take_length] at hs
  have hk : canN x.nm = true := by
    simp only [keyO, Bool.and_eq_true] at h1
    exact h1.1
  have := canN_len hk
  exact ⟨⟨by omega, h4, by omega⟩, by omega⟩
theorem c_CanA (t : Int) (b : List UInt8) (lv : Nat) (h : b.length ≤ 140737488351232) : AC Try.prog 38 [i64 t, .fz lv b.length (cl bc b)] emp (Ret (tf (canS t b))) := by
  by_cases h6 : t = 6
  · subst h6; exact c_Can6 b lv h
  · rw [canS_ne h6]; exact c_rdata_Can t b lv h h6

set_option maxRecDepth 20000 in
theorem c_IndexFunc_bytes (l : List (List UInt8)) (lv lv' lw : Nat) (caps : List AV) (g : List UInt8 → Bool) {fid : Nat} (hl : l.length ≤ 140737488351232) (hcaps : AV.oks lw caps = true) (hg : ∀ x ∈ l, AC Try.prog fid (.fz lv' x.length (cl bc x) :: caps) emp (Ret (tf (g x)))) : AC Try.prog 58 [.fz lv l.length (cl (lc lv' bc) l), .fn (.func fid) [] caps] emp (Ret (i64 (idx g l))) := by
  refine AC.intro te_ok (fn := Try.f58) ⟨Try.func58, rfl, rfl⟩ (Nat.le_of_ble_eq_true rfl) ?_
  refine AWp.seq ?_
  refine AWp.region ?_
  refine AOps.cons rfl rfl (q_assign) ?_
  refine AOps.nil ?_
  refine AWp.seq ?_
  refine AWp.seq ?_
  refine AWp.region ?_
  refine AOps.cons rfl rfl (q_move) ?_
  refine AOps.cons rfl rfl (q_len) ?_
  refine AOps.cons rfl rfl (q_move) ?_
  refine AOps.nil ?_
  refine AWp.block ?_
  refine AWp.loopR (α := Nat) [4, 5, 8, 9, 10, 11, 12, 13, 14, 15, 16, 17, 18] (fun i => [(8, i64 i)]) (fun i => []) (fun i => i ≤ l.length ∧ ∀ x ∈ l.take i, g x = false) (fun i => l.length - i) 0 ?_ (Back.mk' (HasT.cons HasT.nil) HasH.nil) ?_
  · exact ⟨Nat.zero_le _, by simp⟩
  · rintro i ⟨hi, hI⟩
    refine AWp.seq ?_
    refine AWp.region ?_
    refine AOps.dec rfl rfl (q_lss) (fun h2_0 => ?_) (fun h2_0 => ?_)
    · skip
      refine AOps.nil ?_
      refine AWp.seq ?_
      refine AWp.cond_t rfl ?_
      refine AWp.skip ?_
      refine AWp.seq ?_
      refine AWp.block ?_
      refine AWp.seq ?_
      refine AWp.region ?_
      refine AOps.cons rfl rfl (q_move) ?_
      refine AOps.cons rfl rfl (q_assign) ?_
      refine AOps.nil ?_
      refine AWp.seq ?_
      refine AWp.region ?_
      refine AOps.cons rfl rfl (q_move) ?_
      refine AOps.cons rfl rfl (q_move) ?_
      refine AOps.cons rfl rfl (q_move) ?_
      refine AOps.cons rfl rfl (q_ix) ?_
      refine AOps.cons rfl rfl (q_load) ?_
      refine AOps.bool rfl rfl (q_call (lv + lv' + lw) (hA := by exact fvs_caps (l := lw) (fv_okb rfl (by first | rfl | exact ble_of (by omega) | (simp [AV.ok, AV.oks]; done))) (by omega) hcaps) (hc := (hg _ (getD_mem (i := i) (by omega))))) (fun h4_5 => ?_) (fun h4_5 => ?_)
      · skip
        refine AOps.nil ?_
        refine AWp.cond_t rfl ?_
        refine AWp.seq ?_
        refine AWp.region ?_
        refine AOps.cons rfl rfl (q_move) ?_
        refine AOps.cons rfl rfl (q_assign) ?_
        refine AOps.nil ?_
        refine AWp.ret ?_
        show Fin te Try.f58 _ _
        refine q_ret (0) [_] [_] ?_
        exact i64_eq (idx_at (by omega) hI h4_5).symm
      · skip
        refine AOps.nil ?_
        refine AWp.cond_f rfl ?_
        refine AWp.skip ?_
        refine AWp.region ?_
        refine AOps.cons rfl rfl (q_add) ?_
        refine AOps.cons rfl rfl (q_move) ?_
        refine AOps.nil ?_
        refine ⟨i + 1, ?_, Back.mk' (HasT.cons HasT.nil) HasH.nil, ?_⟩
        · exact ⟨by omega, idx_step (by omega) hI h4_5⟩
        · first | omega | (simp; omega)
    · skip
      refine AOps.nil ?_
      refine AWp.seq ?_
      refine AWp.cond_f rfl ?_
      refine AWp.exit ?_
      refine AWp.seq ?_
      refine AWp.region ?_
      refine AOps.cons rfl rfl (q_assign) ?_
      refine AOps.nil ?_
      refine AWp.ret ?_
      show Fin te Try.f58 _ _
      refine q_ret (0) [_] [_] ?_
      exact i64_eq (idx_none (by rwa [List.take_of_length_le (by omega)] at hI)).symm

set_option maxRecDepth 20000 in
theorem c_ContainsFunc_bytes (l : List (List UInt8)) (lv lv' lw : Nat) (caps : List AV) (g : List UInt8 → Bool) {fid : Nat} (hl : l.length ≤ 140737488351232) (hcaps : AV.oks lw caps = true) (hg : ∀ x ∈ l, AC Try.prog fid (.fz lv' x.length (cl bc x) :: caps) emp (Ret (tf (g x)))) : AC Try.prog 36 [.fz lv l.length (cl (lc lv' bc) l), .fn (.func fid) [] caps] emp (Ret (tf (l.any g))) := by
  refine AC.intro te_ok (fn := Try.f36) ⟨Try.func36, rfl, rfl⟩ (Nat.le_of_ble_eq_true rfl) ?_
  refine AWp.seq ?_
  refine AWp.region ?_
  refine AOps.cons rfl rfl (q_assign) ?_
  refine AOps.nil ?_
  refine AWp.seq ?_
  refine AWp.region ?_
  refine AOps.cons rfl rfl (q_move) ?_
  refine AOps.cons rfl rfl (q_move) ?_
  refine AOps.cons rfl rfl (q_call (lv + lv' + lw) (hA := by exact ⟨fv_okb rfl (ble_of (by omega)), fv_okb (b := .fn (.func fid) [] caps) rfl (by simp [AV.ok, AV.oks, AV.oks_mono (show lw ≤ lv + lv' + lw by omega) hcaps]), trivial⟩) (hc := (c_IndexFunc_bytes l lv lv' lw caps g hl hcaps hg))) ?_
  refine AOps.cons rfl rfl (q_geq) ?_
  refine AOps.cons rfl rfl (q_assign) ?_
  refine AOps.nil ?_
  refine AWp.ret ?_
  show Fin te Try.f36 _ _
  refine q_ret (0) [_] [_] ?_
  exact congrArg tf idx_any

set_option maxRecDepth 20000 in
theorem c_entry_Can_1 (t : Int) (b : List UInt8) (lv lw : Nat) (h : b.length ≤ 140737488351232) : AC Try.prog 37 [.fz lv b.length (cl bc b), .fp lw [i64 t]] emp (Ret (tf (!canS t b))) := by
  refine AC.intro te_ok (fn := Try.f37) ⟨Try.func37, rfl, rfl⟩ (Nat.le_of_ble_eq_true rfl) ?_
  refine AWp.seq ?_
  refine AWp.region ?_
  refine AOps.cons rfl rfl (q_assign) ?_
  refine AOps.nil ?_
  refine AWp.seq ?_
  refine AWp.region ?_
  refine AOps.cons rfl rfl (q_load) ?_
  refine AOps.cons rfl rfl (q_move) ?_
  refine AOps.cons rfl rfl (q_call (lv + lw) (hc := (c_CanA t b _ h))) ?_
  refine AOps.cons rfl rfl (q_not) ?_
  refine AOps.cons rfl rfl (q_assign) ?_
  refine AOps.nil ?_
  refine AWp.ret ?_
  show Fin te Try.f37 _ _
  refine q_ret (0) [_] [_] ?_
  rfl

set_option maxRecDepth 20000 in
theorem c_entry_Can (x : ESet) (hx : SetOk x) : AC Try.prog 16 [.agg (setC x)] emp (Ret (tf (canE x))) := by
  obtain ⟨h1, h2, h3, h4⟩ := id hx
  refine AC.intro te_ok (fn := Try.f16) ⟨Try.func16, rfl, rfl⟩ (Nat.le_of_ble_eq_true rfl) ?_
  refine AWp.seq ?_
  refine AWp.region ?_
  refine AOps.cons rfl rfl (q_box 100) ?_
  refine AOps.cons rfl rfl (q_assign) ?_
  refine AOps.nil ?_
  refine AWp.seq ?_
  refine AWp.seq ?_
  refine AWp.region ?_
  refine AOps.cons rfl rfl (q_load) ?_
  refine AOps.bool rfl rfl (q_call (0) (hc := (c_entry_key x hx))) (fun h1_1 => ?_) (fun h1_1 => ?_)
  · skip
    refine AOps.cons rfl rfl (q_not) ?_
    refine AOps.cons rfl rfl (q_move) ?_
    refine AOps.gcons rfl rfl rfl rfl rfl (q_fa) ?_
    refine AOps.gcons rfl rfl rfl rfl rfl (q_load) ?_
    refine AOps.gdec rfl rfl rfl rfl rfl (q_lss) (fun h1_6 => ?_) (fun h1_6 => ?_)
    · skip
      refine AOps.cons rfl rfl (q_pick) ?_
      refine AOps.cons rfl rfl (q_move) ?_
      refine AOps.gskip rfl rfl rfl rfl rfl rfl rfl rfl ?_
      refine AOps.gskip rfl rfl rfl rfl rfl rfl rfl rfl ?_
      refine AOps.gskip rfl rfl rfl rfl rfl rfl rfl rfl ?_
      refine AOps.cons rfl rfl (q_pick) ?_
      refine AOps.cons rfl rfl (q_move) ?_
      refine AOps.gskip rfl rfl rfl rfl rfl rfl rfl rfl ?_
      refine AOps.gskip rfl rfl rfl rfl rfl rfl rfl rfl ?_
      refine AOps.gskip rfl rfl rfl rfl rfl rfl rfl rfl ?_
      refine AOps.cons rfl rfl (q_pick) ?_
      refine AOps.cons rfl rfl (q_move) ?_
      refine AOps.gskip rfl rfl rfl rfl rfl rfl rfl rfl ?_
      refine AOps.gskip rfl rfl rfl rfl rfl rfl rfl rfl ?_
      refine AOps.gskip rfl rfl rfl rfl rfl rfl rfl rfl ?_
      refine AOps.cons rfl rfl (q_pick) ?_
      refine AOps.nil ?_
      refine AWp.cond_t rfl ?_
      refine AWp.seq ?_
      refine AWp.region ?_
      refine AOps.cons rfl rfl (q_assign) ?_
      refine AOps.nil ?_
      refine AWp.ret ?_
      show Fin te Try.f16 _ _
      refine q_ret (0) [_] [_] ?_
      exact congrArg tf (by simp [canE, canK, kT, *])
    · skip
      refine AOps.cons rfl rfl (q_pick) ?_
      refine AOps.cons rfl rfl (q_move) ?_
      refine AOps.gcons rfl rfl rfl rfl rfl (q_fa) ?_
      refine AOps.gcons rfl rfl rfl rfl rfl (q_load) ?_
      refine AOps.gdec rfl rfl rfl rfl rfl (q_gtr) (fun h1_11 => ?_) (fun h1_11 => ?_)
      · skip
        refine AOps.cons rfl rfl (q_pick) ?_
        refine AOps.cons rfl rfl (q_move) ?_
        refine AOps.gskip rfl rfl rfl rfl rfl rfl rfl rfl ?_
        refine AOps.gskip rfl rfl rfl rfl rfl rfl rfl rfl ?_
        refine AOps.gskip rfl rfl rfl rfl rfl rfl rfl rfl ?_
        refine AOps.cons rfl rfl (q_pick) ?_
        refine AOps.cons rfl rfl (q_move) ?_
        refine AOps.gskip rfl rfl rfl rfl rfl rfl rfl rfl ?_
        refine AOps.gskip rfl rfl rfl rfl rfl rfl rfl rfl ?_
        refine AOps.gskip rfl rfl rfl rfl rfl rfl rfl rfl ?_
        refine AOps.cons rfl rfl (q_pick) ?_
        refine AOps.nil ?_
        refine AWp.cond_t rfl ?_
        refine AWp.seq ?_
        refine AWp.region ?_
        refine AOps.cons rfl rfl (q_assign) ?_
        refine AOps.nil ?_
        refine AWp.ret ?_
        show Fin te Try.f16 _ _
        refine q_ret (0) [_] [_] ?_
        exact congrArg tf (by simp [canE, canK, kT, *])
      · skip
        refine AOps.cons rfl rfl (q_pick) ?_
        refine AOps.cons rfl rfl (q_move) ?_
        refine AOps.gcons rfl rfl rfl rfl rfl (q_fa) ?_
        refine AOps.gcons rfl rfl rfl rfl rfl (q_load) ?_
        refine AOps.gdec rfl rfl rfl rfl rfl (q_lss) (fun h1_16 => ?_) (fun h1_16 => ?_)
        · skip
          refine AOps.cons rfl rfl (q_pick) ?_
          refine AOps.cons rfl rfl (q_move) ?_
          refine AOps.gskip rfl rfl rfl rfl rfl rfl rfl rfl ?_
          refine AOps.gskip rfl rfl rfl rfl rfl rfl rfl rfl ?_
          refine AOps.gskip rfl rfl rfl rfl rfl rfl rfl rfl ?_
          refine AOps.cons rfl rfl (q_pick) ?_
          refine AOps.nil ?_
          refine AWp.cond_t rfl ?_
          refine AWp.seq ?_
          refine AWp.region ?_
          refine AOps.cons rfl rfl (q_assign) ?_
          refine AOps.nil ?_
          refine AWp.ret ?_
          show Fin te Try.f16 _ _
          refine q_ret (0) [_] [_] ?_
          exact congrArg tf (by simp [canE, canK, kT, *])
        · skip
          refine AOps.cons rfl rfl (q_pick) ?_
          refine AOps.cons rfl rfl (q_move) ?_
          refine AOps.gcons rfl rfl rfl rfl rfl (q_fa) ?_
          refine AOps.gcons rfl rfl rfl rfl rfl (q_load) ?_
          refine AOps.gdec rfl rfl rfl rfl rfl (q_gtr) (fun h1_21 => ?_) (fun h1_21 => ?_)
          · skip
            refine AOps.cons rfl rfl (q_pick) ?_
            refine AOps.nil ?_
            refine AWp.cond_t rfl ?_
            refine AWp.seq ?_
            refine AWp.region ?_
            refine AOps.cons rfl rfl (q_assign) ?_
            refine AOps.nil ?_
            refine AWp.ret ?_
            show Fin te Try.f16 _ _
            refine q_ret (0) [_] [_] ?_
            exact congrArg tf (by simp [canE, canK, kT, *])
          · skip
            refine AOps.cons rfl rfl (q_pick) ?_
            refine AOps.nil ?_
            refine AWp.cond_f rfl ?_
            refine AWp.skip ?_
            refine AWp.seq ?_
            refine AWp.region ?_
            refine AOps.cons rfl rfl (q_assign) ?_
            refine AOps.nil ?_
            refine AWp.seq ?_
            refine AWp.seq ?_
            refine AWp.region ?_
            refine AOps.cons rfl rfl (q_fa) ?_
            refine AOps.cons rfl rfl (q_load) ?_
            refine AOps.cons rfl rfl (q_len) ?_
            refine AOps.cons rfl rfl (q_move) ?_
            refine AOps.nil ?_
            refine AWp.block ?_
            refine AWp.loopR (α := Nat × Int) [3, 5, 33, 34, 35, 36, 37, 38, 39, 40, 41, 42] (fun x_ => [(33, i64 (x_.1)), (3, i64 (x_.2))]) (fun x_ => []) (fun x_ => (x_.1) ≤ x.ds.length ∧ (x_.2) = wsum (x.ds.take (x_.1))) (fun x_ => x.ds.length - (x_.1)) (0, 0) ?_ (Back.mk' (HasT.cons (HasT.cons HasT.nil)) HasH.nil) ?_
            · exact ⟨Nat.zero_le _, rfl⟩
            · rintro ⟨i, sz⟩ hI5
              change i ≤ x.ds.length ∧ sz = wsum (x.ds.take i) at hI5
              obtain ⟨hi, hs⟩ := hI5
              refine AWp.as (s' := AS.over _ [3, 5, 33, 34, 35, 36, 37, 38, 39, 40, 41, 42] [(33, i64 i), (3, i64 sz)] []) rfl ?_
              refine AWp.seq ?_
              refine AWp.region ?_
              refine AOps.dec rfl rfl (q_lss) (fun h5_0 => ?_) (fun h5_0 => ?_)
              · skip
                refine AOps.nil ?_
                refine AWp.seq ?_
                refine AWp.cond_t rfl ?_
                refine AWp.skip ?_
                refine AWp.seq ?_
                refine AWp.block ?_
                refine AWp.seq ?_
                refine AWp.region ?_
                refine AOps.cons rfl rfl (q_ix) ?_
                refine AOps.cons rfl rfl (q_load) ?_
                refine AOps.cons rfl rfl (q_assign) ?_
                refine AOps.nil ?_
                refine AWp.region ?_
                have hdi : (x.ds.getD i default).length ≤ 140737488351232 := h4 _ (getD_mem (by omega))
                have hdi2 : (x.ds[i]?.getD default).length ≤ 140737488351232 := by rw [← List.getD_eq_getElem?_getD]; exact hdi
                refine AOps.cons rfl rfl (q_move) ?_
                refine AOps.cons rfl rfl (q_move) ?_
                refine AOps.cons rfl rfl (q_len) ?_
                refine AOps.cons rfl rfl (q_add) ?_
                refine AOps.cons rfl rfl (q_addw) ?_
                refine AOps.cons rfl rfl (q_assign) ?_
                refine AOps.nil ?_
                refine AWp.region ?_
                refine AOps.cons rfl rfl (q_add) ?_
                refine AOps.cons rfl rfl (q_move) ?_
                refine AOps.nil ?_
                refine ⟨(i + 1, _), ?_, Back.mk' (HasT.cons (HasT.cons HasT.nil)) HasH.nil, ?_⟩
                · try dsimp only
                  exact ⟨by omega, by rw [hs, take_step' (by omega), wsum_snoc]; rfl⟩
                · try dsimp only
                  first | omega | (simp; omega)
              · skip
                refine AOps.nil ?_
                refine AWp.seq ?_
                refine AWp.cond_f rfl ?_
                refine AWp.exit ?_
                refine AWp.seq ?_
                refine AWp.seq ?_
                refine AWp.region ?_
                obtain rfl : i = x.ds.length := by omega
                rw [List.take_length] at hs
                subst hs
                refine AOps.cons rfl rfl (q_fa) ?_
                refine AOps.cons rfl rfl (q_load) ?_
                refine AOps.cons rfl rfl (q_len) ?_
                refine AOps.dec rfl rfl (q_eql) (fun h9_3 => ?_) (fun h9_3 => ?_)
                · skip
                  refine AOps.cons rfl rfl (q_move) ?_
                  refine AOps.gskip rfl rfl rfl rfl rfl rfl rfl rfl ?_
                  refine AOps.gskip rfl rfl rfl rfl rfl rfl rfl rfl ?_
                  refine AOps.cons rfl rfl (q_pick) ?_
                  refine AOps.nil ?_
                  refine AWp.cond_t rfl ?_
                  refine AWp.seq ?_
                  refine AWp.region ?_
                  refine AOps.cons rfl rfl (q_assign) ?_
                  refine AOps.nil ?_
                  refine AWp.ret ?_
                  show Fin te Try.f16 _ _
                  refine q_ret (0) [_] [_] ?_
                  exact congrArg tf (by simp [canE, canK, kT, *])
                · skip
                  refine AOps.cons rfl rfl (q_move) ?_
                  refine AOps.gcons rfl rfl rfl rfl rfl (q_move) ?_
                  refine AOps.gdec rfl rfl rfl rfl rfl (q_gtr) (fun h9_6 => ?_) (fun h9_6 => ?_)
                  · skip
                    refine AOps.cons rfl rfl (q_pick) ?_
                    refine AOps.nil ?_
                    refine AWp.cond_t rfl ?_
                    refine AWp.seq ?_
                    refine AWp.region ?_
                    refine AOps.cons rfl rfl (q_assign) ?_
                    refine AOps.nil ?_
                    refine AWp.ret ?_
                    show Fin te Try.f16 _ _
                    refine q_ret (0) [_] [_] ?_
                    exact congrArg tf (by simp [canE, canK, kT, *])
                  · skip
                    refine AOps.cons rfl rfl (q_pick) ?_
                    refine AOps.nil ?_
                    refine AWp.cond_f rfl ?_
                    refine AWp.skip ?_
                    refine AWp.seq ?_
                    refine AWp.region ?_
                    refine AOps.cons rfl rfl (q_alloc 1200) ?_
                    refine AOps.cons rfl rfl (q_store) ?_
                    refine AOps.nil ?_
                    refine AWp.seq ?_
                    refine AWp.seq ?_
                    refine AWp.region ?_
                    have hne : x.ds ≠ [] := fun e => h9_3 (by rw [e]; rfl)
                    refine AOps.cons rfl rfl (q_fa) ?_
                    refine AOps.cons rfl rfl (q_load) ?_
                    refine AOps.dec rfl rfl (q_eql) (fun h12_2 => ?_) (fun h12_2 => ?_)
                    · skip
                      refine AOps.nil ?_
                      refine AWp.cond_t rfl ?_
                      refine AWp.region ?_
                      refine AOps.cons rfl rfl (q_fa) ?_
                      refine AOps.cons rfl rfl (q_load) ?_
                      refine AOps.cons rfl rfl (q_store) ?_
                      refine AOps.nil ?_
                      refine AWp.seq ?_
                      refine AWp.seq ?_
                      refine AWp.region ?_
                      refine AOps.cons rfl rfl (q_fa) ?_
                      refine AOps.cons rfl rfl (q_load) ?_
                      refine AOps.cons rfl rfl (q_makeFunc [] [_]) ?_
                      refine AOps.bool rfl rfl (q_call (0) (hc := (c_ContainsFunc_bytes x.ds 0 0 1 [.fp 1 [i64 (x.ty)]] (fun d => !canS (x.ty) d) (by omega) rfl (fun d hd => c_entry_Can_1 (x.ty) d 0 1 (h4 d hd))))) (fun h14_3 => ?_) (fun h14_3 => ?_)
                      · skip
                        refine AOps.nil ?_
                        refine AWp.cond_t rfl ?_
                        refine AWp.seq ?_
                        refine AWp.region ?_
                        refine AOps.cons rfl rfl (q_assign) ?_
                        refine AOps.nil ?_
                        refine AWp.ret ?_
                        show Fin te Try.f16 _ _
                        refine q_ret (0) [_] [_] ?_
                        exact congrArg tf (by simp [canE, canK, kT, *])
                      · skip
                        refine AOps.nil ?_
                        refine AWp.cond_f rfl ?_
                        refine AWp.skip ?_
                        refine AWp.seq ?_
                        refine AWp.seq ?_
                        refine AWp.region ?_
                        refine AOps.cons rfl rfl (q_fa) ?_
                        refine AOps.cons rfl rfl (q_load) ?_
                        refine AOps.nil ?_
                        refine AWp.block ?_
                        refine AWp.seq ?_
                        refine AWp.region ?_
                        refine AOps.dec rfl rfl (q_eql) (fun h17_0 => ?_) (fun h17_0 => ?_)
                        · skip
                          refine AOps.cons rfl rfl (q_assign) ?_
                          refine AOps.nil ?_
                          refine AWp.cond_t rfl ?_
                          refine AWp.seq ?_
                          refine AWp.region ?_
                          refine AOps.cons rfl rfl (q_fa) ?_
                          refine AOps.cons rfl rfl (q_load) ?_
                          refine AOps.dec rfl rfl (q_gtr) (fun h18_2 => ?_) (fun h18_2 => ?_)
                          · skip
                            refine AOps.cons rfl rfl (q_move) ?_
                            refine AOps.gcons rfl rfl rfl rfl rfl (q_fa) ?_
                            refine AOps.gcons rfl rfl rfl rfl rfl (q_load) ?_
                            refine AOps.gdec rfl rfl rfl rfl rfl (q_seql) (fun h18_6 => ?_) (fun h18_6 => ?_)
                            · skip
                              refine AOps.cons rfl rfl (q_pick) ?_
                              have hsm : Small x := (small_of hx h1_1 h9_6 h14_3 (by rw [h18_6]; decide)).1
                              refine AOps.cons rfl rfl (q_move) ?_
                              refine AOps.gcons rfl rfl rfl rfl rfl (q_load) ?_
                              refine AOps.gcons rfl rfl rfl rfl rfl (q_build [(_, _)]) ?_
                              refine AOps.gcons rfl rfl rfl rfl rfl (q_call (0) (hc := (c_write_put x hsm))) ?_
                              refine AOps.gcons rfl rfl rfl rfl rfl (q_len) ?_
                              refine AOps.gcons rfl rfl rfl rfl rfl (q_leq) ?_
                              refine AOps.cons rfl rfl (q_pick) ?_
                              refine AOps.cons rfl rfl (q_assign) ?_
                              refine AOps.nil ?_
                              refine AWp.ret ?_
                              show Fin te Try.f16 _ _
                              refine q_ret (0) [_] [_] ?_
                              exact congrArg tf (by simp [canE, canK, kT, *])
                            · skip
                              refine AOps.cons rfl rfl (q_pick) ?_
                              refine AOps.cons rfl rfl (q_move) ?_
                              refine AOps.gskip rfl rfl rfl rfl rfl rfl rfl rfl ?_
                              refine AOps.gskip rfl rfl rfl rfl rfl rfl rfl rfl ?_
                              refine AOps.gskip rfl rfl rfl rfl rfl rfl rfl rfl ?_
                              refine AOps.gskip rfl rfl rfl rfl rfl rfl rfl rfl ?_
                              refine AOps.gskip rfl rfl rfl rfl rfl rfl rfl rfl ?_
                              refine AOps.cons rfl rfl (q_pick) ?_
                              refine AOps.cons rfl rfl (q_assign) ?_
                              refine AOps.nil ?_
                              refine AWp.ret ?_
                              show Fin te Try.f16 _ _
                              refine q_ret (0) [_] [_] ?_
                              exact congrArg tf (by simp [canE, canK, kT, *])
                          · skip
                            refine AOps.cons rfl rfl (q_move) ?_
                            refine AOps.gskip rfl rfl rfl rfl rfl rfl rfl rfl ?_
                            refine AOps.gskip rfl rfl rfl rfl rfl rfl rfl rfl ?_
                            refine AOps.gskip rfl rfl rfl rfl rfl rfl rfl rfl ?_
                            refine AOps.cons rfl rfl (q_pick) ?_
                            refine AOps.cons rfl rfl (q_move) ?_
                            refine AOps.gskip rfl rfl rfl rfl rfl rfl rfl rfl ?_
                            refine AOps.gskip rfl rfl rfl rfl rfl rfl rfl rfl ?_
                            refine AOps.gskip rfl rfl rfl rfl rfl rfl rfl rfl ?_
                            refine AOps.gskip rfl rfl rfl rfl rfl rfl rfl rfl ?_
                            refine AOps.gskip rfl rfl rfl rfl rfl rfl rfl rfl ?_
                            refine AOps.cons rfl rfl (q_pick) ?_
                            refine AOps.cons rfl rfl (q_assign) ?_
                            refine AOps.nil ?_
                            refine AWp.ret ?_
                            show Fin te Try.f16 _ _
                            refine q_ret (0) [_] [_] ?_
                            exact congrArg tf (by simp [canE, canK, kT, *])
                        · exfalso; omega
                    · skip
                      refine AOps.nil ?_
                      refine AWp.cond_f rfl ?_
                      refine AWp.skip ?_
                      refine AWp.seq ?_
                      refine AWp.seq ?_
                      refine AWp.region ?_
                      refine AOps.cons rfl rfl (q_fa) ?_
                      refine AOps.cons rfl rfl (q_load) ?_
                      refine AOps.cons rfl rfl (q_makeFunc [] [_]) ?_
                      refine AOps.bool rfl rfl (q_call (0) (hc := (c_ContainsFunc_bytes x.ds 0 0 1 [.fp 1 [i64 (6)]] (fun d => !canS (6) d) (by omega) rfl (fun d hd => c_entry_Can_1 (6) d 0 1 (h4 d hd))))) (fun h14_3 => ?_) (fun h14_3 => ?_)
                      · skip
                        refine AOps.nil ?_
                        refine AWp.cond_t rfl ?_
                        refine AWp.seq ?_
                        refine AWp.region ?_
                        refine AOps.cons rfl rfl (q_assign) ?_
                        refine AOps.nil ?_
                        refine AWp.ret ?_
                        show Fin te Try.f16 _ _
                        refine q_ret (0) [_] [_] ?_
                        exact congrArg tf (by simp [canE, canK, kT, *])
                      · skip
                        refine AOps.nil ?_
                        refine AWp.cond_f rfl ?_
                        refine AWp.skip ?_
                        refine AWp.seq ?_
                        refine AWp.seq ?_
                        refine AWp.region ?_
                        refine AOps.cons rfl rfl (q_fa) ?_
                        refine AOps.cons rfl rfl (q_load) ?_
                        refine AOps.nil ?_
                        refine AWp.block ?_
                        refine AWp.seq ?_
                        refine AWp.region ?_
                        refine AOps.dec rfl rfl (q_eql) (fun h17_0 => ?_) (fun h17_0 => ?_)
                        · exfalso; omega
                        · skip
                          refine AOps.cons rfl rfl (q_assign) ?_
                          refine AOps.nil ?_
                          refine AWp.cond_f rfl ?_
                          refine AWp.seq ?_
                          refine AWp.seq ?_
                          refine AWp.region ?_
                          refine AOps.dec rfl rfl (q_eql) (fun h19_0 => ?_) (fun h19_0 => ?_)
                          · skip
                            refine AOps.cons rfl rfl (q_assign) ?_
                            refine AOps.nil ?_
                            refine AWp.cond_t rfl ?_
                            refine AWp.skip ?_
                            refine AWp.cond_t rfl ?_
                            refine AWp.seq ?_
                            refine AWp.region ?_
                            refine AOps.cons rfl rfl (q_fa) ?_
                            refine AOps.cons rfl rfl (q_load) ?_
                            refine AOps.bool rfl rfl (q_call (0) (hc := (c_name_Can x.zone (by omega)))) (fun h21_2 => ?_) (fun h21_2 => ?_)
                            · skip
                              refine AOps.cons rfl rfl (q_move) ?_
                              refine AOps.gcons rfl rfl rfl rfl rfl (q_fa) ?_
                              refine AOps.gcons rfl rfl rfl rfl rfl (q_load) ?_
                              refine AOps.gcons rfl rfl rfl rfl rfl (q_len) ?_
                              refine AOps.gdec rfl rfl rfl rfl rfl (q_eql) (fun h21_7 => ?_) (fun h21_7 => ?_)
                              · skip
                                refine AOps.cons rfl rfl (q_pick) ?_
                                refine AOps.cons rfl rfl (q_move) ?_
                                refine AOps.gcons rfl rfl rfl rfl rfl (q_fa) ?_
                                refine AOps.gcons rfl rfl rfl rfl rfl (q_load) ?_
                                refine AOps.gcons rfl rfl rfl rfl rfl (q_eql) ?_
                                refine AOps.gcons rfl rfl rfl rfl rfl (q_fa) ?_
                                refine AOps.gcons rfl rfl rfl rfl rfl (q_load) ?_
                                refine AOps.gcons rfl rfl rfl rfl rfl (q_eql) ?_
                                refine AOps.gbool rfl rfl rfl rfl rfl (q_beql) (fun h21_16 => ?_) (fun h21_16 => ?_)
                                · skip
                                  have hkn : kN x = true := h21_16
                                  refine AOps.cons rfl rfl (q_pick) ?_
                                  have hsm : Small x := (small_of hx h1_1 h9_6 h14_3 (by have := canN_len h21_2; omega)).1
                                  refine AOps.cons rfl rfl (q_move) ?_
                                  refine AOps.gcons rfl rfl rfl rfl rfl (q_load) ?_
                                  refine AOps.gcons rfl rfl rfl rfl rfl (q_build [(_, _)]) ?_
                                  refine AOps.gcons rfl rfl rfl rfl rfl (q_call (0) (hc := (c_write_put x hsm))) ?_
                                  refine AOps.gcons rfl rfl rfl rfl rfl (q_len) ?_
                                  refine AOps.gcons rfl rfl rfl rfl rfl (q_leq) ?_
                                  refine AOps.cons rfl rfl (q_pick) ?_
                                  refine AOps.cons rfl rfl (q_assign) ?_
                                  refine AOps.nil ?_
                                  refine AWp.ret ?_
                                  show Fin te Try.f16 _ _
                                  refine q_ret (0) [_] [_] ?_
                                  exact congrArg tf (by simp [canE, canK, kT, *])
                                · skip
                                  have hkn : kN x = false := h21_16
                                  refine AOps.cons rfl rfl (q_pick) ?_
                                  refine AOps.cons rfl rfl (q_move) ?_
                                  refine AOps.gskip rfl rfl rfl rfl rfl rfl rfl rfl ?_
                                  refine AOps.gskip rfl rfl rfl rfl rfl rfl rfl rfl ?_
                                  refine AOps.gskip rfl rfl rfl rfl rfl rfl rfl rfl ?_
                                  refine AOps.gskip rfl rfl rfl rfl rfl rfl rfl rfl ?_
                                  refine AOps.gskip rfl rfl rfl rfl rfl rfl rfl rfl ?_
                                  refine AOps.cons rfl rfl (q_pick) ?_
                                  refine AOps.cons rfl rfl (q_assign) ?_
                                  refine AOps.nil ?_
                                  refine AWp.ret ?_
                                  show Fin te Try.f16 _ _
                                  refine q_ret (0) [_] [_] ?_
                                  exact congrArg tf (by simp [canE, canK, kT, *])
                              · skip
                                refine AOps.cons rfl rfl (q_pick) ?_
                                refine AOps.cons rfl rfl (q_move) ?_
                                refine AOps.gskip rfl rfl rfl rfl rfl rfl rfl rfl ?_
                                refine AOps.gskip rfl rfl rfl rfl rfl rfl rfl rfl ?_
                                refine AOps.gskip rfl rfl rfl rfl rfl rfl rfl rfl ?_
                                refine AOps.gskip rfl rfl rfl rfl rfl rfl rfl rfl ?_
                                refine AOps.gskip rfl rfl rfl rfl rfl rfl rfl rfl ?_
                                refine AOps.gskip rfl rfl rfl rfl rfl rfl rfl rfl ?_
                                refine AOps.gskip rfl rfl rfl rfl rfl rfl rfl rfl ?_
                                refine AOps.cons rfl rfl (q_pick) ?_
                                refine AOps.cons rfl rfl (q_move) ?_
                                refine AOps.gskip rfl rfl rfl rfl rfl rfl rfl rfl ?_
                                refine AOps.gskip rfl rfl rfl rfl rfl rfl rfl rfl ?_
                                refine AOps.gskip rfl rfl rfl rfl rfl rfl rfl rfl ?_
                                refine AOps.gskip rfl rfl rfl rfl rfl rfl rfl rfl ?_
                                refine AOps.gskip rfl rfl rfl rfl rfl rfl rfl rfl ?_
                                refine AOps.cons rfl rfl (q_pick) ?_
                                refine AOps.cons rfl rfl (q_assign) ?_
                                refine AOps.nil ?_
                                refine AWp.ret ?_
                                show Fin te Try.f16 _ _
                                refine q_ret (0) [_] [_] ?_
                                exact congrArg tf (by simp [canE, canK, kT, *])
                            · skip
                              refine AOps.cons rfl rfl (q_move) ?_
                              refine AOps.gskip rfl rfl rfl rfl rfl rfl rfl rfl ?_
                              refine AOps.gskip rfl rfl rfl rfl rfl rfl rfl rfl ?_
                              refine AOps.gskip rfl rfl rfl rfl rfl rfl rfl rfl ?_
                              refine AOps.gskip rfl rfl rfl rfl rfl rfl rfl rfl ?_
                              refine AOps.cons rfl rfl (q_pick) ?_
                              refine AOps.cons rfl rfl (q_move) ?_
                              refine AOps.gskip rfl rfl rfl rfl rfl rfl rfl rfl ?_
                              refine AOps.gskip rfl rfl rfl rfl rfl rfl rfl rfl ?_
                              refine AOps.gskip rfl rfl rfl rfl rfl rfl rfl rfl ?_
                              refine AOps.gskip rfl rfl rfl rfl rfl rfl rfl rfl ?_
                              refine AOps.gskip rfl rfl rfl rfl rfl rfl rfl rfl ?_
                              refine AOps.gskip rfl rfl rfl rfl rfl rfl rfl rfl ?_
                              refine AOps.gskip rfl rfl rfl rfl rfl rfl rfl rfl ?_
                              refine AOps.cons rfl rfl (q_pick) ?_
                              refine AOps.cons rfl rfl (q_move) ?_
                              refine AOps.gskip rfl rfl rfl rfl rfl rfl rfl rfl ?_
                              refine AOps.gskip rfl rfl rfl rfl rfl rfl rfl rfl ?_
                              refine AOps.gskip rfl rfl rfl rfl rfl rfl rfl rfl ?_
                              refine AOps.gskip rfl rfl rfl rfl rfl rfl rfl rfl ?_
                              refine AOps.gskip rfl rfl rfl rfl rfl rfl rfl rfl ?_
                              refine AOps.cons rfl rfl (q_pick) ?_
                              refine AOps.cons rfl rfl (q_assign) ?_
                              refine AOps.nil ?_
                              refine AWp.ret ?_
                              show Fin te Try.f16 _ _
                              refine q_ret (0) [_] [_] ?_
                              exact congrArg tf (by simp [canE, canK, kT, *])
                          · skip
                            refine AOps.cons rfl rfl (q_assign) ?_
                            refine AOps.nil ?_
                            refine AWp.cond_f rfl ?_
                            refine AWp.region ?_
                            refine AOps.dec rfl rfl (q_eql) (fun h20_0 => ?_) (fun h20_0 => ?_)
                            · skip
                              refine AOps.cons rfl rfl (q_assign) ?_
                              refine AOps.nil ?_
                              refine AWp.cond_t rfl ?_
                              refine AWp.seq ?_
                              refine AWp.region ?_
                              refine AOps.cons rfl rfl (q_fa) ?_
                              refine AOps.cons rfl rfl (q_load) ?_
                              refine AOps.bool rfl rfl (q_call (0) (hc := (c_name_Can x.zone (by omega)))) (fun h21_2 => ?_) (fun h21_2 => ?_)
                              · skip
                                refine AOps.cons rfl rfl (q_move) ?_
                                refine AOps.gcons rfl rfl rfl rfl rfl (q_fa) ?_
                                refine AOps.gcons rfl rfl rfl rfl rfl (q_load) ?_
                                refine AOps.gcons rfl rfl rfl rfl rfl (q_len) ?_
                                refine AOps.gdec rfl rfl rfl rfl rfl (q_eql) (fun h21_7 => ?_) (fun h21_7 => ?_)
                                · skip
                                  refine AOps.cons rfl rfl (q_pick) ?_
                                  refine AOps.cons rfl rfl (q_move) ?_
                                  refine AOps.gcons rfl rfl rfl rfl rfl (q_fa) ?_
                                  refine AOps.gcons rfl rfl rfl rfl rfl (q_load) ?_
                                  refine AOps.gcons rfl rfl rfl rfl rfl (q_eql) ?_
                                  refine AOps.gcons rfl rfl rfl rfl rfl (q_fa) ?_
                                  refine AOps.gcons rfl rfl rfl rfl rfl (q_load) ?_
                                  refine AOps.gcons rfl rfl rfl rfl rfl (q_eql) ?_
                                  refine AOps.gbool rfl rfl rfl rfl rfl (q_beql) (fun h21_16 => ?_) (fun h21_16 => ?_)
                                  · skip
                                    have hkn : kN x = true := h21_16
                                    refine AOps.cons rfl rfl (q_pick) ?_
                                    have hsm : Small x := (small_of hx h1_1 h9_6 h14_3 (by have := canN_len h21_2; omega)).1
                                    refine AOps.cons rfl rfl (q_move) ?_
                                    refine AOps.gcons rfl rfl rfl rfl rfl (q_load) ?_
                                    refine AOps.gcons rfl rfl rfl rfl rfl (q_build [(_, _)]) ?_
                                    refine AOps.gcons rfl rfl rfl rfl rfl (q_call (0) (hc := (c_write_put x hsm))) ?_
                                    refine AOps.gcons rfl rfl rfl rfl rfl (q_len) ?_
                                    refine AOps.gcons rfl rfl rfl rfl rfl (q_leq) ?_
                                    refine AOps.cons rfl rfl (q_pick) ?_
                                    refine AOps.cons rfl rfl (q_assign) ?_
                                    refine AOps.nil ?_
                                    refine AWp.ret ?_
                                    show Fin te Try.f16 _ _
                                    refine q_ret (0) [_] [_] ?_
                                    exact congrArg tf (by simp [canE, canK, kT, *])
                                  · skip
                                    have hkn : kN x = false := h21_16
                                    refine AOps.cons rfl rfl (q_pick) ?_
                                    refine AOps.cons rfl rfl (q_move) ?_
                                    refine AOps.gskip rfl rfl rfl rfl rfl rfl rfl rfl ?_
                                    refine AOps.gskip rfl rfl rfl rfl rfl rfl rfl rfl ?_
                                    refine AOps.gskip rfl rfl rfl rfl rfl rfl rfl rfl ?_
                                    refine AOps.gskip rfl rfl rfl rfl rfl rfl rfl rfl ?_
                                    refine AOps.gskip rfl rfl rfl rfl rfl rfl rfl rfl ?_
                                    refine AOps.cons rfl rfl (q_pick) ?_
                                    refine AOps.cons rfl rfl (q_assign) ?_
                                    refine AOps.nil ?_
                                    refine AWp.ret ?_
                                    show Fin te Try.f16 _ _
                                    refine q_ret (0) [_] [_] ?_
                                    exact congrArg tf (by simp [canE, canK, kT, *])
                                · skip
                                  refine AOps.cons rfl rfl (q_pick) ?_
                                  refine AOps.cons rfl rfl (q_move) ?_
                                  refine AOps.gskip rfl rfl rfl rfl rfl rfl rfl rfl ?_
                                  refine AOps.gskip rfl rfl rfl rfl rfl rfl rfl rfl ?_
                                  refine AOps.gskip rfl rfl rfl rfl rfl rfl rfl rfl ?_
                                  refine AOps.gskip rfl rfl rfl rfl rfl rfl rfl rfl ?_
                                  refine AOps.gskip rfl rfl rfl rfl rfl rfl rfl rfl ?_
                                  refine AOps.gskip rfl rfl rfl rfl rfl rfl rfl rfl ?_
                                  refine AOps.gskip rfl rfl rfl rfl rfl rfl rfl rfl ?_
                                  refine AOps.cons rfl rfl (q_pick) ?_
                                  refine AOps.cons rfl rfl (q_move) ?_
                                  refine AOps.gskip rfl rfl rfl rfl rfl rfl rfl rfl ?_
                                  refine AOps.gskip rfl rfl rfl rfl rfl rfl rfl rfl ?_
                                  refine AOps.gskip rfl rfl rfl rfl rfl rfl rfl rfl ?_
                                  refine AOps.gskip rfl rfl rfl rfl rfl rfl rfl rfl ?_
                                  refine AOps.gskip rfl rfl rfl rfl rfl rfl rfl rfl ?_
                                  refine AOps.cons rfl rfl (q_pick) ?_
                                  refine AOps.cons rfl rfl (q_assign) ?_
                                  refine AOps.nil ?_
                                  refine AWp.ret ?_
                                  show Fin te Try.f16 _ _
                                  refine q_ret (0) [_] [_] ?_
                                  exact congrArg tf (by simp [canE, canK, kT, *])
                              · skip
                                refine AOps.cons rfl rfl (q_move) ?_
                                refine AOps.gskip rfl rfl rfl rfl rfl rfl rfl rfl ?_
                                refine AOps.gskip rfl rfl rfl rfl rfl rfl rfl rfl ?_
                                refine AOps.gskip rfl rfl rfl rfl rfl rfl rfl rfl ?_
                                refine AOps.gskip rfl rfl rfl rfl rfl rfl rfl rfl ?_
                                refine AOps.cons rfl rfl (q_pick) ?_
                                refine AOps.cons rfl rfl (q_move) ?_
                                refine AOps.gskip rfl rfl rfl rfl rfl rfl rfl rfl ?_
                                refine AOps.gskip rfl rfl rfl rfl rfl rfl rfl rfl ?_
                                refine AOps.gskip rfl rfl rfl rfl rfl rfl rfl rfl ?_
                                refine AOps.gskip rfl rfl rfl rfl rfl rfl rfl rfl ?_
                                refine AOps.gskip rfl rfl rfl rfl rfl rfl rfl rfl ?_
                                refine AOps.gskip rfl rfl rfl rfl rfl rfl rfl rfl ?_
                                refine AOps.gskip rfl rfl rfl rfl rfl rfl rfl rfl ?_
                                refine AOps.cons rfl rfl (q_pick) ?_
                                refine AOps.cons rfl rfl (q_move) ?_
                                refine AOps.gskip rfl rfl rfl rfl rfl rfl rfl rfl ?_
                                refine AOps.gskip rfl rfl rfl rfl rfl rfl rfl rfl ?_
                                refine AOps.gskip rfl rfl rfl rfl rfl rfl rfl rfl ?_
                                refine AOps.gskip rfl rfl rfl rfl rfl rfl rfl rfl ?_
                                refine AOps.gskip rfl rfl rfl rfl rfl rfl rfl rfl ?_
                                refine AOps.cons rfl rfl (q_pick) ?_
                                refine AOps.cons rfl rfl (q_assign) ?_
                                refine AOps.nil ?_
                                refine AWp.ret ?_
                                show Fin te Try.f16 _ _
                                refine q_ret (0) [_] [_] ?_
                                exact congrArg tf (by simp [canE, canK, kT, *])
                            · skip
                              refine AOps.cons rfl rfl (q_assign) ?_
                              refine AOps.nil ?_
                              refine AWp.cond_f rfl ?_
                              refine AWp.skip ?_
                              refine AWp.seq ?_
                              refine AWp.region ?_
                              refine AOps.cons rfl rfl (q_assign) ?_
                              refine AOps.nil ?_
                              refine AWp.ret ?_
                              show Fin te Try.f16 _ _
                              refine q_ret (0) [_] [_] ?_
                              exact congrArg tf (by simp [canE, canK, kT, *])
  · skip
    refine AOps.cons rfl rfl (q_not) ?_
    refine AOps.cons rfl rfl (q_move) ?_
    refine AOps.gskip rfl rfl rfl rfl rfl rfl rfl rfl ?_
    refine AOps.gskip rfl rfl rfl rfl rfl rfl rfl rfl ?_
    refine AOps.gskip rfl rfl rfl rfl rfl rfl rfl rfl ?_
    refine AOps.cons rfl rfl (q_pick) ?_
    refine AOps.cons rfl rfl (q_move) ?_
    refine AOps.gskip rfl rfl rfl rfl rfl rfl rfl rfl ?_
    refine AOps.gskip rfl rfl rfl rfl rfl rfl rfl rfl ?_
    refine AOps.gskip rfl rfl rfl rfl rfl rfl rfl rfl ?_
    refine AOps.cons rfl rfl (q_pick) ?_
    refine AOps.cons rfl rfl (q_move) ?_
    refine AOps.gskip rfl rfl rfl rfl rfl rfl rfl rfl ?_
    refine AOps.gskip rfl rfl rfl rfl rfl rfl rfl rfl ?_
    refine AOps.gskip rfl rfl rfl rfl rfl rfl rfl rfl ?_
    refine AOps.cons rfl rfl (q_pick) ?_
    refine AOps.cons rfl rfl (q_move) ?_
    refine AOps.gskip rfl rfl rfl rfl rfl rfl rfl rfl ?_
    refine AOps.gskip rfl rfl rfl rfl rfl rfl rfl rfl ?_
    refine AOps.gskip rfl rfl rfl rfl rfl rfl rfl rfl ?_
    refine AOps.cons rfl rfl (q_pick) ?_
    refine AOps.nil ?_
    refine AWp.cond_t rfl ?_
    refine AWp.seq ?_
    refine AWp.region ?_
    refine AOps.cons rfl rfl (q_assign) ?_
    refine AOps.nil ?_
    refine AWp.ret ?_
    show Fin te Try.f16 _ _
    refine q_ret (0) [_] [_] ?_
    exact congrArg tf (by simp [canE, canK, kT, *])

end Go.Proofs.Ytaemmklgofddmaa.Fw

/- Walks of layer 8: entries' bytes; the reference's numbers. -/
set_option linter.unusedVariables false
set_option linter.unusedSimpArgs false
namespace Go.Proofs.Ytaemmklgofddmaa.Fw
open Go.RowKit


def entB (d : Bool) (x : ESet) : List UInt8 := if d then delB x else putB x
def entO (d : Bool) (x : ESet) : Bool := if d then delO x else canE x
def encB (d : Bool) (x : ESet) : List UInt8 := if entO d x then entB d x else []
def encE (d : Bool) (x : ESet) : Int := if entO d x then 0 else 1
theorem canE_small {x : ESet} (hx : SetOk x) (h : canE x = true) : Small x ∧ (putB x).length ≤ 4000 := by
  simp only [canE, Bool.and_eq_true, Bool.not_eq_true', decide_eq_false_iff_not] at h
  obtain ⟨⟨⟨⟨⟨⟨⟨⟨hk, _⟩, _⟩, _⟩, _⟩, _⟩, h2⟩, h3⟩, h4⟩ := h
  have hz : x.zone.length ≤ 255 ∧ (putB x).length ≤ 4000 := by
    unfold canK at h4
    split at h4
    · simp only [Bool.and_eq_true, decide_eq_true_eq] at h4
      exact ⟨by rw [h4.1.2]; decide, by omega⟩
    · split at h4
      · simp only [Bool.and_eq_true, decide_eq_true_eq] at h4
        exact ⟨canN_len h4.1.1.1, by omega⟩
      · cases h4
  exact ⟨(small_of hx hk h2 h3 (by omega)).1, hz.2⟩

set_option maxRecDepth 20000 in
theorem c_can_put (x : ESet) (hx : SetOk x) : AC Try.prog 32 [.agg (tf false :: setC x)] emp (Ret (tf (canE x))) := by
  refine AC.intro te_ok (fn := Try.f32) ⟨Try.func32, rfl, rfl⟩ (Nat.le_of_ble_eq_true rfl) ?_
  refine AWp.seq ?_
  refine AWp.region ?_
  refine AOps.cons rfl rfl (q_box 100) ?_
  refine AOps.cons rfl rfl (q_assign) ?_
  refine AOps.nil ?_
  refine AWp.seq ?_
  refine AWp.seq ?_
  refine AWp.region ?_
  refine AOps.cons rfl rfl (q_fa) ?_
  refine AOps.cons rfl rfl ((OpOk.bool_is (c := false) (q_load) (rfl))) ?_
  refine AOps.nil ?_
  refine AWp.cond_f rfl ?_
  refine AWp.skip ?_
  refine AWp.seq ?_
  refine AWp.region ?_
  refine AOps.cons rfl rfl (q_fa) ?_
  refine AOps.cons rfl rfl (q_load) ?_
  refine AOps.cons rfl rfl (q_call (0) (hc := (c_entry_Can x hx))) ?_
  refine AOps.cons rfl rfl (q_assign) ?_
  refine AOps.nil ?_
  refine AWp.ret ?_
  show Fin te Try.f32 _ _
  refine q_ret (0) [_] [_] ?_
  rfl

set_option maxRecDepth 20000 in
theorem c_Encode_put (x : ESet) (hx : SetOk x) : AC Try.prog 13 [.agg (tf false :: setC x)] emp (Ret (.tup [.fz 0 (encB false x).length (cl bc (encB false x)), i64 (encE false x)])) := by
  refine AC.intro te_ok (fn := Try.f13) ⟨Try.func13, rfl, rfl⟩ (Nat.le_of_ble_eq_true rfl) ?_
  refine AWp.seq ?_
  refine AWp.region ?_
  refine AOps.cons rfl rfl (q_box 100) ?_
  refine AOps.cons rfl rfl (q_nilz (0) bc) ?_
  refine AOps.cons rfl rfl (q_assign) ?_
  refine AOps.nil ?_
  refine AWp.seq ?_
  refine AWp.seq ?_
  refine AWp.region ?_
  refine AOps.cons rfl rfl (q_load) ?_
  refine AOps.bool rfl rfl (q_call (0) (hc := (c_can_put x hx))) (fun h1_1 => ?_) (fun h1_1 => ?_)
  · skip
    refine AOps.cons rfl rfl (q_not) ?_
    refine AOps.nil ?_
    refine AWp.cond_f rfl ?_
    refine AWp.skip ?_
    refine AWp.seq ?_
    refine AWp.region ?_
    refine AOps.cons rfl rfl (q_load) ?_
    refine AOps.cons rfl rfl (q_call (0) (hc := (c_write_put x (canE_small hx h1_1).1))) ?_
    refine AOps.cons rfl rfl (q_assign) ?_
    refine AOps.cons rfl rfl (q_assign) ?_
    refine AOps.nil ?_
    refine AWp.ret ?_
    show Fin te Try.f13 _ _
    refine q_ret (0) [_, _] [_, _] ?_
    have e : entO false x = true := h1_1
    rw [encB, encE, e]; rfl
  · skip
    refine AOps.cons rfl rfl (q_not) ?_
    refine AOps.nil ?_
    refine AWp.cond_t rfl ?_
    refine AWp.seq ?_
    refine AWp.region ?_
    refine AOps.cons rfl rfl (q_nilz (0) bc) ?_
    refine AOps.cons rfl rfl (q_assign) ?_
    refine AOps.nil ?_
    refine AWp.ret ?_
    show Fin te Try.f13 _ _
    refine q_ret (0) [_, _] [_, _] ?_
    have e : entO false x = false := h1_1
    rw [encB, encE, e]; rfl


theorem c_EncodeA (d : Bool) (x : ESet) (hx : SetOk x) : AC Try.prog 13 [.agg (tf d :: setC x)] emp (Ret (.tup [.fz 0 (encB d x).length (cl bc (encB d x)), i64 (encE d x)])) := by
  cases d
  · exact c_Encode_put x hx
  · exact c_Encode_del x hx


theorem big_step {n : Int} {w k : Nat} {out : List UInt8} (hk : k < w) (h : out = List.replicate (w - k) 0 ++ numW k n) {j : Nat} (hj : j = w - 1 - k) : out.set j (byte (n / 2 ^ (8 * k) % 256)) = List.replicate (w - (k + 1)) 0 ++ numW (k + 1) n := by
  subst hj
  obtain ⟨m, rfl⟩ : ∃ m, w = k + 1 + m := ⟨w - k - 1, by omega⟩
  rw [h, show k + 1 + m - k = m + 1 by omega, show k + 1 + m - 1 - k = m by omega, show k + 1 + m - (k + 1) = m by omega, List.replicate_succ', List.append_assoc, List.set_append_right _ _ (by simp)]
  simp [numW, byte_mod]
theorem p256 (k : Nat) : (0 : Int) ≤ 2 ^ (8 * k) := Int.le_of_lt (Int.pow_pos (by decide))
theorem big_div {n : Int} (k : Nat) : n / 2 ^ (8 * k) / 256 = n / 2 ^ (8 * (k + 1)) := by
  rw [Int.ediv_ediv_of_nonneg (p256 k), Nat.mul_succ, Int.pow_add]; rfl

set_option maxRecDepth 20000 in
theorem c_ciceroneref07_Big (n : Int) (w : Nat) (h0 : 0 ≤ n) (hn : n ≤ 9223372036854775807) (hw : w ≤ 8) : AC Try.prog 57 [i64 n, i64 w] emp (Ret (.fz 0 (numW w n).length (cl bc (numW w n)))) := by
  refine AC.intro te_ok (fn := Try.f57) ⟨Try.func57, rfl, rfl⟩ (Nat.le_of_ble_eq_true rfl) ?_
  refine AWp.seq ?_
  refine AWp.region ?_
  refine AOps.cons rfl rfl (q_assign) ?_
  refine AOps.nil ?_
  refine AWp.seq ?_
  refine AWp.region ?_
  refine AOps.cons rfl rfl (q_move) ?_
  refine AOps.cons rfl rfl (q_make 201 bc 0 w) ?_
  refine AOps.cons rfl rfl (q_assign) ?_
  refine AOps.nil ?_
  refine AWp.seq ?_
  refine AWp.seq ?_
  refine AWp.region ?_
  refine AOps.cons rfl rfl (q_move) ?_
  refine AOps.cons rfl rfl (q_sub) ?_
  refine AOps.cons rfl rfl (q_assign) ?_
  refine AOps.nil ?_
  refine AWp.block ?_
  refine AWp.loopR (α := Nat × List UInt8) [0, 5, 6, 11, 12, 13, 14, 15, 16, 17, 18, 19, 20, 21, 22] (fun x_ => [(6, i64 ((w : Int) - 1 - (x_.1))), (0, i64 (n / 2 ^ (8 * (x_.1)))), (5, .sl 201 0 0 (x_.2).length 1)]) (fun x_ => [(201, .row (cl bc (x_.2)) 1 0)]) (fun x_ => (x_.1) ≤ w ∧ (x_.2) = List.replicate (w - (x_.1)) 0 ++ numW (x_.1) n) (fun x_ => w - (x_.1)) (0, List.replicate w 0) ?_ (Back.mk' (HasT.cons (HasT.cons (HasT.cons HasT.nil) (h1 := by exact i64_eq (by simp)) ) (h1 := by exact i64_eq (by omega)) ) (HasH.cons HasH.nil)) ?_
  · exact ⟨Nat.zero_le _, by simp [numW]⟩
  · rintro ⟨k, out⟩ hI3
    change k ≤ w ∧ out = List.replicate (w - k) 0 ++ numW k n at hI3
    obtain ⟨hk, ho⟩ := hI3
    refine AWp.as (s' := AS.over _ [0, 5, 6, 11, 12, 13, 14, 15, 16, 17, 18, 19, 20, 21, 22] [(6, i64 ((w : Int) - 1 - k)), (0, i64 (n / 2 ^ (8 * k))), (5, .sl 201 0 0 out.length 1)] [(201, .row (cl bc out) 1 0)]) rfl ?_
    have hol := congrArg List.length ho
    rw [List.length_append, List.length_replicate, numW_len] at hol
    have hd0 : 0 ≤ n / 2 ^ (8 * k) := Int.ediv_nonneg h0 (p256 k)
    have hd1 : n / 2 ^ (8 * k) ≤ n := Int.ediv_le_self _ h0
    refine AWp.seq ?_
    refine AWp.seq ?_
    refine AWp.region ?_
    refine AOps.cons rfl rfl (q_move) ?_
    refine AOps.dec rfl rfl (q_geq) (fun h3_1 => ?_) (fun h3_1 => ?_)
    · skip
      refine AOps.nil ?_
      refine AWp.cond_t rfl ?_
      refine AWp.skip ?_
      refine AWp.seq ?_
      refine AWp.block ?_
      refine AWp.seq ?_
      refine AWp.region ?_
      refine AOps.cons rfl rfl (q_move) ?_
      refine AOps.cons rfl rfl (q_move) ?_
      refine AOps.cons rfl rfl (q_move) ?_
      refine AOps.cons rfl rfl (q_rem) ?_
      refine AOps.cons rfl rfl (q_conv_u8) ?_
      refine AOps.cons rfl rfl (q_ix) ?_
      refine AOps.cons rfl rfl (q_store) ?_
      refine AOps.nil ?_
      refine AWp.region ?_
      refine AOps.cons rfl rfl (q_move) ?_
      refine AOps.cons rfl rfl (q_quo) ?_
      refine AOps.cons rfl rfl (q_assign) ?_
      refine AOps.nil ?_
      refine AWp.region ?_
      refine AOps.cons rfl rfl (q_move) ?_
      refine AOps.cons rfl rfl (q_sub) ?_
      refine AOps.cons rfl rfl (q_assign) ?_
      refine AOps.nil ?_
      refine ⟨(k + 1, out.set ((w : Int) - 1 - k).toNat (byte (n / 2 ^ (8 * k) % 256))), ?_, Back.mk' (HasT.cons (HasT.cons (HasT.cons HasT.nil (h1 := by exact sl_eq (by simp)) ) (h1 := by exact i64_eq (big_div k)) ) (h1 := by exact i64_eq (by omega)) ) (HasH.cons HasH.nil), ?_⟩
      · try dsimp only
        exact ⟨by omega, big_step (by omega) ho (by omega)⟩
      · try dsimp only
        first | omega | (simp; omega)
    · skip
      refine AOps.nil ?_
      refine AWp.cond_f rfl ?_
      refine AWp.exit ?_
      refine AWp.seq ?_
      refine AWp.region ?_
      refine AOps.cons rfl rfl (q_move) ?_
      refine AOps.cons rfl rfl (q_assign) ?_
      refine AOps.nil ?_
      refine AWp.ret ?_
      show Fin te Try.f57 _ _
      obtain rfl : w = k := by omega
      rw [Nat.sub_self, List.replicate_zero, List.nil_append] at ho
      subst ho
      refine q_ret (0) [_] [_] ?_
      rfl

end Go.Proofs.Ytaemmklgofddmaa.Fw

/- Walks of layer 8: the reference's bytes. -/
set_option linter.unusedVariables false
set_option linter.unusedSimpArgs false
namespace Go.Proofs.Ytaemmklgofddmaa.Fw
open Go.RowKit


def Nat0 (x : ESet) : Prop := 0 ≤ x.ty ∧ x.ty ≤ 65535 ∧ 0 ≤ x.cs ∧ x.cs ≤ 65535 ∧ 0 ≤ x.exp ∧ x.exp ≤ 1099511627776
theorem byte_one : byte 1 = 1 := rfl
theorem byte_zero : byte 0 = 0 := rfl
theorem numL_one (w : Nat) (n : Int) : numL w [n] = numW w n := by simp [numL]
theorem numL_two (w : Nat) (n m : Int) : numL w [n, m] = numW w n ++ numW w m := by simp [numL]
theorem numW_one (n : Int) : numW 1 n = [byte n] := by simp [numW]
theorem putP_eq (x : ESet) : ((((((([0, byte (x.nm.length : Int)] ++ x.nm) ++ numW 2 x.ty) ++ numW 2 x.cs) ++ [byte x.rank, byte x.kind]) ++ numW 8 x.exp) ++ [byte (x.zone.length : Int)]) ++ x.zone) ++ numW 2 (x.ds.length : Int) = putP x := by
  simp [putP, putH, numL_one, numL_two, numW_one, byte_zero]
theorem delB_eq (x : ESet) : (([0, byte (x.nm.length : Int)].set 0 1 ++ x.nm) ++ numW 2 x.ty) ++ numW 2 x.cs = delB x := by
  simp [delB, numL_two, numW_one, byte_one]
def shortB (n : Int) : Bool := decide (0 ≤ n) && decide (n ≤ 65535)

set_option maxRecDepth 20000 in
theorem c_bytes_put (x : ESet) (h : Small x) (hn : Nat0 x) : AC Try.prog 34 [.agg (tf false :: setC x)] emp (Ret (.fz 0 (putB x).length (cl bc (putB x)))) := by
  obtain ⟨h1, h2, h3⟩ := id h
  obtain ⟨n1, n2, n3, n4, n5, n6⟩ := id hn
  have hp := putP_len x
  have h4 := dsB_two x.ds
  have hl1 : (numW 2 x.ty).length = 2 := numW_len _ _
  have hl2 : (numW 2 x.cs).length = 2 := numW_len _ _
  have hl3 : (numW 8 x.exp).length = 8 := numW_len _ _
  have hl4 : (numW 2 (x.ds.length : Int)).length = 2 := numW_len _ _
  refine AC.intro te_ok (fn := Try.f34) ⟨Try.func34, rfl, rfl⟩ (Nat.le_of_ble_eq_true rfl) ?_
  refine AWp.seq ?_
  refine AWp.region ?_
  refine AOps.cons rfl rfl (q_box 100) ?_
  refine AOps.cons rfl rfl (q_assign) ?_
  refine AOps.nil ?_
  refine AWp.seq ?_
  refine AWp.region ?_
  refine AOps.cons rfl rfl (q_fa) ?_
  refine AOps.cons rfl rfl (q_load) ?_
  refine AOps.cons rfl rfl (q_alloc 202) ?_
  refine AOps.cons rfl rfl (q_store) ?_
  refine AOps.nil ?_
  refine AWp.seq ?_
  refine AWp.region ?_
  refine AOps.cons rfl rfl (q_fa) ?_
  refine AOps.cons rfl rfl (q_load) ?_
  refine AOps.cons rfl rfl (q_len_str) ?_
  refine AOps.cons rfl rfl (q_conv_u8) ?_
  refine AOps.cons rfl rfl (q_bs 304 bc [0, _] [(_, _), (_, _)]) ?_
  refine AOps.cons rfl rfl (q_assign) ?_
  refine AOps.nil ?_
  refine AWp.seq ?_
  refine AWp.seq ?_
  refine AWp.region ?_
  refine AOps.cons rfl rfl (q_fa) ?_
  refine AOps.cons rfl rfl ((OpOk.bool_is (c := false) (q_load) (rfl))) ?_
  refine AOps.nil ?_
  refine AWp.cond_f rfl ?_
  refine AWp.skip ?_
  refine AWp.seq ?_
  refine AWp.draws [⟨0, [4], [], some 18, _, none⟩,
      ⟨1, [3], [202], some 19, _, none⟩,
      ⟨2, [19], [202], some 20, _, none⟩,
      ⟨3, [18, 20], [304], some 21, _, some (304, _)⟩,
      ⟨4, [3], [202], some 22, _, none⟩,
      ⟨5, [22], [202], some 23, _, none⟩,
      ⟨6, [23], [], some 24, _, none⟩,
      ⟨7, [21, 24], [304], some 25, _, some (304, _)⟩,
      ⟨8, [3], [202], some 26, _, none⟩,
      ⟨9, [26], [202], some 27, _, none⟩,
      ⟨10, [27], [], some 28, _, none⟩,
      ⟨11, [25, 28], [304], some 29, _, some (304, _)⟩,
      ⟨12, [29], [], some 4, _, none⟩]
    [⟨0, [4], [], some 18, .any, none⟩,
        ⟨1, [3], [202], some 19, .any, none⟩,
        ⟨2, [19], [202], some 20, .any, none⟩,
        ⟨3, [18, 20], [304], some 21, .any, some (304, .box [])⟩,
        ⟨4, [3], [202], some 22, .any, none⟩,
        ⟨5, [22], [202], some 23, .any, none⟩,
        ⟨6, [23], [], some 24, .any, none⟩,
        ⟨7, [21, 24], [304], some 25, .any, some (304, .box [])⟩,
        ⟨8, [3], [202], some 26, .any, none⟩,
        ⟨9, [26], [202], some 27, .any, none⟩,
        ⟨10, [27], [], some 28, .any, none⟩,
        ⟨11, [25, 28], [304], some 29, .any, some (304, .box [])⟩,
        ⟨12, [29], [], some 4, .any, none⟩]
    mixed_ok rfl (by kernel_rfl) ⟨DS.ok_over fun s0 => OpAt.go rfl rfl (q_move),
        DS.ok_over fun s0 => OpAt.go rfl rfl (q_fa),
        DS.ok_over fun s0 => OpAt.go rfl rfl (q_load),
        DS.ok_over fun s0 => OpAt.go rfl rfl (q_app),
        DS.ok_over fun s0 => OpAt.go rfl rfl (q_fa),
        DS.ok_over fun s0 => OpAt.go rfl rfl (q_load),
        DS.ok_over fun s0 => OpAt.go rfl rfl (q_call (0) (hc := (c_ciceroneref07_Big x.ty 2 (by omega) (by omega) (by decide)))),
        DS.ok_over fun s0 => OpAt.go rfl rfl (q_app),
        DS.ok_over fun s0 => OpAt.go rfl rfl (q_fa),
        DS.ok_over fun s0 => OpAt.go rfl rfl (q_load),
        DS.ok_over fun s0 => OpAt.go rfl rfl (q_call (0) (hc := (c_ciceroneref07_Big x.cs 2 (by omega) (by omega) (by decide)))),
        DS.ok_over fun s0 => OpAt.go rfl rfl (q_app),
        DS.ok_over fun s0 => OpAt.go rfl rfl (q_assign), trivial⟩ ?_
  dsimp only [final, DS.upd, AS.seto]
  refine AWp.seq ?_
  refine AWp.seq ?_
  refine AWp.region ?_
  refine AOps.cons rfl rfl (q_fa) ?_
  refine AOps.cons rfl rfl ((OpOk.bool_is (c := false) (q_load) (rfl))) ?_
  refine AOps.nil ?_
  refine AWp.cond_f rfl ?_
  refine AWp.skip ?_
  refine AWp.seq ?_
  refine AWp.draws [⟨0, [4], [], some 33, _, none⟩,
      ⟨1, [3], [202], some 34, _, none⟩,
      ⟨2, [34], [202], some 35, _, none⟩,
      ⟨3, [35], [], some 36, _, none⟩,
      ⟨4, [3], [202], some 37, _, none⟩,
      ⟨5, [37], [202], some 38, _, none⟩,
      ⟨6, [38], [], some 39, _, none⟩,
      ⟨7, [36, 39], [907], some 40, _, some (907, _)⟩,
      ⟨8, [33, 40], [304, 907], some 41, _, some (304, _)⟩,
      ⟨9, [3], [202], some 42, _, none⟩,
      ⟨10, [42], [202], some 43, _, none⟩,
      ⟨11, [43], [], some 44, _, none⟩,
      ⟨12, [41, 44], [304], some 45, _, some (304, _)⟩,
      ⟨13, [45], [], some 4, _, none⟩]
    [⟨0, [4], [], some 33, .any, none⟩,
        ⟨1, [3], [202], some 34, .any, none⟩,
        ⟨2, [34], [202], some 35, .any, none⟩,
        ⟨3, [35], [], some 36, .any, none⟩,
        ⟨4, [3], [202], some 37, .any, none⟩,
        ⟨5, [37], [202], some 38, .any, none⟩,
        ⟨6, [38], [], some 39, .any, none⟩,
        ⟨7, [36, 39], [907], some 40, .any, some (907, .box [])⟩,
        ⟨8, [33, 40], [304, 907], some 41, .any, some (304, .box [])⟩,
        ⟨9, [3], [202], some 42, .any, none⟩,
        ⟨10, [42], [202], some 43, .any, none⟩,
        ⟨11, [43], [], some 44, .any, none⟩,
        ⟨12, [41, 44], [304], some 45, .any, some (304, .box [])⟩,
        ⟨13, [45], [], some 4, .any, none⟩]
    mixed_ok rfl (by kernel_rfl) ⟨DS.ok_over fun s0 => OpAt.go rfl rfl (q_move),
        DS.ok_over fun s0 => OpAt.go rfl rfl (q_fa),
        DS.ok_over fun s0 => OpAt.go rfl rfl (q_load),
        DS.ok_over fun s0 => OpAt.go rfl rfl (q_conv_u8),
        DS.ok_over fun s0 => OpAt.go rfl rfl (q_fa),
        DS.ok_over fun s0 => OpAt.go rfl rfl (q_load),
        DS.ok_over fun s0 => OpAt.go rfl rfl (q_conv_u8),
        DS.ok_over fun s0 => OpAt.go rfl rfl (q_bs 907 bc [_, _] [(_, _), (_, _)]),
        DS.ok_over fun s0 => OpAt.go rfl rfl (q_app),
        DS.ok_over fun s0 => OpAt.go rfl rfl (q_fa),
        DS.ok_over fun s0 => OpAt.go rfl rfl (q_load),
        DS.ok_over fun s0 => OpAt.go rfl rfl (q_call (0) (hc := (c_ciceroneref07_Big x.exp 8 (by omega) (by omega) (by decide)))),
        DS.ok_over fun s0 => OpAt.go rfl rfl (q_app),
        DS.ok_over fun s0 => OpAt.go rfl rfl (q_assign), trivial⟩ ?_
  dsimp only [final, DS.upd, AS.seto]
  refine AWp.seq ?_
  refine AWp.draws [⟨0, [4], [], some 46, _, none⟩,
      ⟨1, [3], [202], some 47, _, none⟩,
      ⟨2, [47], [202], some 48, _, none⟩,
      ⟨3, [48], [], some 49, _, none⟩,
      ⟨4, [49], [], some 50, _, none⟩,
      ⟨5, [50], [1005], some 51, _, some (1005, _)⟩,
      ⟨6, [46, 51], [304, 1005], some 52, _, some (304, _)⟩,
      ⟨7, [3], [202], some 53, _, none⟩,
      ⟨8, [53], [202], some 54, _, none⟩,
      ⟨9, [52, 54], [304], some 55, _, some (304, _)⟩,
      ⟨10, [55], [], some 4, _, none⟩]
    [⟨0, [4], [], some 46, .any, none⟩,
        ⟨1, [3], [202], some 47, .any, none⟩,
        ⟨2, [47], [202], some 48, .any, none⟩,
        ⟨3, [48], [], some 49, .any, none⟩,
        ⟨4, [49], [], some 50, .any, none⟩,
        ⟨5, [50], [1005], some 51, .any, some (1005, .box [])⟩,
        ⟨6, [46, 51], [304, 1005], some 52, .any, some (304, .box [])⟩,
        ⟨7, [3], [202], some 53, .any, none⟩,
        ⟨8, [53], [202], some 54, .any, none⟩,
        ⟨9, [52, 54], [304], some 55, .any, some (304, .box [])⟩,
        ⟨10, [55], [], some 4, .any, none⟩]
    mixed_ok rfl (by kernel_rfl) ⟨DS.ok_over fun s0 => OpAt.go rfl rfl (q_move),
        DS.ok_over fun s0 => OpAt.go rfl rfl (q_fa),
        DS.ok_over fun s0 => OpAt.go rfl rfl (q_load),
        DS.ok_over fun s0 => OpAt.go rfl rfl (q_len_str),
        DS.ok_over fun s0 => OpAt.go rfl rfl (q_conv_u8),
        DS.ok_over fun s0 => OpAt.go rfl rfl (q_bs 1005 bc [_] [(_, _)]),
        DS.ok_over fun s0 => OpAt.go rfl rfl (q_app),
        DS.ok_over fun s0 => OpAt.go rfl rfl (q_fa),
        DS.ok_over fun s0 => OpAt.go rfl rfl (q_load),
        DS.ok_over fun s0 => OpAt.go rfl rfl (q_app),
        DS.ok_over fun s0 => OpAt.go rfl rfl (q_assign), trivial⟩ ?_
  dsimp only [final, DS.upd, AS.seto]
  refine AWp.seq ?_
  refine AWp.region ?_
  refine AOps.cons rfl rfl (q_move) ?_
  refine AOps.cons rfl rfl (q_fa) ?_
  refine AOps.cons rfl rfl (q_load) ?_
  refine AOps.cons rfl rfl (q_len) ?_
  refine AOps.cons rfl rfl (q_call (0) (hc := (c_ciceroneref07_Big (x.ds.length : Int) 2 (by omega) (by omega) (by decide)))) ?_
  refine AOps.cons rfl rfl (q_app) ?_
  refine AOps.cons rfl rfl (q_assign) ?_
  refine AOps.nil ?_
  refine AWp.seq ?_
  refine AWp.seq ?_
  refine AWp.region ?_
  refine AOps.cons rfl rfl (q_fa) ?_
  refine AOps.cons rfl rfl (q_load) ?_
  refine AOps.cons rfl rfl (q_len) ?_
  refine AOps.cons rfl rfl (q_move) ?_
  refine AOps.nil ?_
  refine AWp.block ?_
  refine AWp.loopR (α := Nat × List UInt8 × Nat) [4, 6, 65, 66, 67, 68, 69, 70, 71, 72, 73, 74, 75, 76] (fun x_ => [(65, i64 (x_.1)), (4, .sl 304 (x_.2.2) 0 (x_.2.1).length 1)]) (fun x_ => [(304, .row (cl bc (x_.2.1)) 1 (x_.2.2))]) (fun x_ => (x_.1) ≤ x.ds.length ∧ (x_.2.1) = putP x ++ dsB (x.ds.take (x_.1))) (fun x_ => x.ds.length - (x_.1)) (0, putP x, 8) ?_ (Back.mk' (HasT.cons (HasT.cons HasT.nil (h1 := by rw [← putP_eq x]; rfl) )) (HasH.cons HasH.nil (h1 := by rw [← putP_eq x]; rfl) )) ?_
  · exact ⟨Nat.zero_le _, by rw [List.take_zero, dsB_nil, List.append_nil]⟩
  · rintro ⟨i, acc, ver⟩ hI12
    change i ≤ x.ds.length ∧ acc = putP x ++ dsB (x.ds.take i) at hI12
    obtain ⟨hi, hacc⟩ := hI12
    refine AWp.as (s' := AS.over _ [4, 6, 65, 66, 67, 68, 69, 70, 71, 72, 73, 74, 75, 76] [(65, i64 i), (4, .sl 304 ver 0 acc.length 1)] [(304, .row (cl bc acc) 1 ver)]) rfl ?_
    have hal := congrArg List.length hacc
    rw [List.length_append, hp] at hal
    have hdt := dsB_len_take x.ds i
    refine AWp.seq ?_
    refine AWp.region ?_
    refine AOps.dec rfl rfl (q_lss) (fun h12_0 => ?_) (fun h12_0 => ?_)
    · skip
      refine AOps.nil ?_
      refine AWp.seq ?_
      refine AWp.cond_t rfl ?_
      refine AWp.skip ?_
      refine AWp.seq ?_
      refine AWp.block ?_
      refine AWp.seq ?_
      refine AWp.region ?_
      refine AOps.cons rfl rfl (q_ix) ?_
      refine AOps.cons rfl rfl (q_load) ?_
      refine AOps.cons rfl rfl (q_assign) ?_
      refine AOps.nil ?_
      refine AWp.region ?_
      have hdi := dsB_len_at (l := x.ds) (i := i) (by omega)
      have hdi2 : (x.ds[i]?.getD default).length ≤ 1000000000 := by rw [← List.getD_eq_getElem?_getD]; omega
      have hdi3 : (x.ds.getD (i : Int).toNat default).length ≤ 1000000000 := by
        have : (x.ds.getD i default).length ≤ 1000000000 := by omega
        exact this
      have hl7 : (numW 2 ((x.ds[i]?.getD default).length : Int)).length = 2 := numW_len _ _
      have hl8 : (numW 2 ((x.ds.getD i default).length : Int)).length = 2 := numW_len _ _
      refine AOps.cons rfl rfl (q_move) ?_
      refine AOps.cons rfl rfl (q_move) ?_
      refine AOps.cons rfl rfl (q_len) ?_
      refine AOps.cons rfl rfl (q_call (0) (hc := (c_ciceroneref07_Big ((x.ds.getD i default).length : Int) 2 (by omega) (by omega) (by decide)))) ?_
      refine AOps.cons rfl rfl (q_app) ?_
      refine AOps.cons rfl rfl (q_move) ?_
      refine AOps.cons rfl rfl (q_app) ?_
      refine AOps.cons rfl rfl (q_assign) ?_
      refine AOps.nil ?_
      refine AWp.region ?_
      refine AOps.cons rfl rfl (q_add) ?_
      refine AOps.cons rfl rfl (q_move) ?_
      refine AOps.nil ?_
      refine ⟨(i + 1, _, _), ?_, Back.mk' (HasT.cons (HasT.cons HasT.nil)) (HasH.cons HasH.nil), ?_⟩
      · try dsimp only
        exact ⟨by omega, by rw [hacc, take_step' (by omega), dsB_snoc, numL_one]; simp⟩
      · try dsimp only
        first | omega | (simp; omega)
    · skip
      refine AOps.nil ?_
      refine AWp.seq ?_
      refine AWp.cond_f rfl ?_
      refine AWp.exit ?_
      refine AWp.seq ?_
      refine AWp.region ?_
      refine AOps.cons rfl rfl (q_move) ?_
      refine AOps.cons rfl rfl (q_assign) ?_
      refine AOps.nil ?_
      refine AWp.ret ?_
      show Fin te Try.f34 _ _
      obtain rfl : i = x.ds.length := by omega
      rw [List.take_length] at hacc
      obtain rfl : acc = putB x := hacc
      refine q_ret (0) [_] [_] ?_
      rfl

set_option maxRecDepth 20000 in
theorem c_bytes_del (x : ESet) (h : x.nm.length ≤ 1000000000) (h1 : 0 ≤ x.ty ∧ x.ty ≤ 65535) (h2 : 0 ≤ x.cs ∧ x.cs ≤ 65535) : AC Try.prog 34 [.agg (tf true :: setC x)] emp (Ret (.fz 0 (delB x).length (cl bc (delB x)))) := by
  have hl1 : (numW 2 x.ty).length = 2 := numW_len _ _
  have hl2 : (numW 2 x.cs).length = 2 := numW_len _ _
  refine AC.intro te_ok (fn := Try.f34) ⟨Try.func34, rfl, rfl⟩ (Nat.le_of_ble_eq_true rfl) ?_
  refine AWp.seq ?_
  refine AWp.region ?_
  refine AOps.cons rfl rfl (q_box 100) ?_
  refine AOps.cons rfl rfl (q_assign) ?_
  refine AOps.nil ?_
  refine AWp.seq ?_
  refine AWp.region ?_
  refine AOps.cons rfl rfl (q_fa) ?_
  refine AOps.cons rfl rfl (q_load) ?_
  refine AOps.cons rfl rfl (q_alloc 202) ?_
  refine AOps.cons rfl rfl (q_store) ?_
  refine AOps.nil ?_
  refine AWp.seq ?_
  refine AWp.region ?_
  refine AOps.cons rfl rfl (q_fa) ?_
  refine AOps.cons rfl rfl (q_load) ?_
  refine AOps.cons rfl rfl (q_len_str) ?_
  refine AOps.cons rfl rfl (q_conv_u8) ?_
  refine AOps.cons rfl rfl (q_bs 304 bc [0, _] [(_, _), (_, _)]) ?_
  refine AOps.cons rfl rfl (q_assign) ?_
  refine AOps.nil ?_
  refine AWp.seq ?_
  refine AWp.seq ?_
  refine AWp.region ?_
  refine AOps.cons rfl rfl (q_fa) ?_
  refine AOps.cons rfl rfl ((OpOk.bool_is (c := true) (q_load) (rfl))) ?_
  refine AOps.nil ?_
  refine AWp.cond_t rfl ?_
  refine AWp.region ?_
  refine AOps.cons rfl rfl (q_move) ?_
  refine AOps.cons rfl rfl (q_ix (h1 := by simp)) ?_
  refine AOps.cons rfl rfl (q_store (hx := rfl) (hs := .el (id := 304) (ver := 0) (sz := 1) (f := bc) (l := [0, byte (x.nm.length : Int)]) (a := 1) (j := 0) rfl .row rfl (fun _ => rfl) (by decide) (by simp))) ?_
  refine AOps.nil ?_
  refine AWp.seq ?_
  refine AWp.draws [⟨0, [4], [], some 18, _, none⟩,
      ⟨1, [3], [202], some 19, _, none⟩,
      ⟨2, [19], [202], some 20, _, none⟩,
      ⟨3, [18, 20], [304], some 21, _, some (304, _)⟩,
      ⟨4, [3], [202], some 22, _, none⟩,
      ⟨5, [22], [202], some 23, _, none⟩,
      ⟨6, [23], [], some 24, _, none⟩,
      ⟨7, [21, 24], [304], some 25, _, some (304, _)⟩,
      ⟨8, [3], [202], some 26, _, none⟩,
      ⟨9, [26], [202], some 27, _, none⟩,
      ⟨10, [27], [], some 28, _, none⟩,
      ⟨11, [25, 28], [304], some 29, _, some (304, _)⟩,
      ⟨12, [29], [], some 4, _, none⟩]
    [⟨0, [4], [], some 18, .any, none⟩,
        ⟨1, [3], [202], some 19, .any, none⟩,
        ⟨2, [19], [202], some 20, .any, none⟩,
        ⟨3, [18, 20], [304], some 21, .any, some (304, .box [])⟩,
        ⟨4, [3], [202], some 22, .any, none⟩,
        ⟨5, [22], [202], some 23, .any, none⟩,
        ⟨6, [23], [], some 24, .any, none⟩,
        ⟨7, [21, 24], [304], some 25, .any, some (304, .box [])⟩,
        ⟨8, [3], [202], some 26, .any, none⟩,
        ⟨9, [26], [202], some 27, .any, none⟩,
        ⟨10, [27], [], some 28, .any, none⟩,
        ⟨11, [25, 28], [304], some 29, .any, some (304, .box [])⟩,
        ⟨12, [29], [], some 4, .any, none⟩]
    mixed_ok rfl (by kernel_rfl) ⟨DS.ok_over fun s0 => OpAt.go rfl rfl (q_move),
        DS.ok_over fun s0 => OpAt.go rfl rfl (q_fa),
        DS.ok_over fun s0 => OpAt.go rfl rfl (q_load),
        DS.ok_over fun s0 => OpAt.go rfl rfl (q_app (l := [0, byte (x.nm.length : Int)].set 0 1) (m := x.nm)),
        DS.ok_over fun s0 => OpAt.go rfl rfl (q_fa),
        DS.ok_over fun s0 => OpAt.go rfl rfl (q_load),
        DS.ok_over fun s0 => OpAt.go rfl rfl (q_call (0) (hc := (c_ciceroneref07_Big x.ty 2 (by omega) (by omega) (by decide)))),
        DS.ok_over fun s0 => OpAt.go rfl rfl (q_app),
        DS.ok_over fun s0 => OpAt.go rfl rfl (q_fa),
        DS.ok_over fun s0 => OpAt.go rfl rfl (q_load),
        DS.ok_over fun s0 => OpAt.go rfl rfl (q_call (0) (hc := (c_ciceroneref07_Big x.cs 2 (by omega) (by omega) (by decide)))),
        DS.ok_over fun s0 => OpAt.go rfl rfl (q_app),
        DS.ok_over fun s0 => OpAt.go rfl rfl (q_assign), trivial⟩ ?_
  dsimp only [final, DS.upd, AS.seto]
  refine AWp.seq ?_
  refine AWp.seq ?_
  refine AWp.region ?_
  refine AOps.cons rfl rfl (q_fa) ?_
  refine AOps.cons rfl rfl ((OpOk.bool_is (c := true) (q_load) (rfl))) ?_
  refine AOps.nil ?_
  refine AWp.cond_t rfl ?_
  refine AWp.seq ?_
  refine AWp.region ?_
  refine AOps.cons rfl rfl (q_move) ?_
  refine AOps.cons rfl rfl (q_assign) ?_
  refine AOps.nil ?_
  refine AWp.ret ?_
  show Fin te Try.f34 _ _
  refine q_ret (0) [_] [_] ?_
  rw [← delB_eq x]; rfl

set_option maxRecDepth 20000 in
theorem c_ciceroneref08_Size (x : ESet) (h : Small x) (hn : Nat0 x) : AC Try.prog 43 [.agg (setC x)] emp (Ret (i64 (putB x).length)) := by
  have hp := putB_len x
  obtain ⟨h1, h2, h3⟩ := id h
  refine AC.intro te_ok (fn := Try.f43) ⟨Try.func43, rfl, rfl⟩ (Nat.le_of_ble_eq_true rfl) ?_
  refine AWp.seq ?_
  refine AWp.region ?_
  refine AOps.cons rfl rfl (q_box 100) ?_
  refine AOps.cons rfl rfl (q_assign) ?_
  refine AOps.nil ?_
  refine AWp.seq ?_
  refine AWp.region ?_
  refine AOps.cons rfl rfl (q_load) ?_
  refine AOps.cons rfl rfl (q_build [(_, _)]) ?_
  refine AOps.cons rfl rfl (q_call (0) (hc := (c_bytes_put x h hn))) ?_
  refine AOps.cons rfl rfl (q_len) ?_
  refine AOps.cons rfl rfl (q_assign) ?_
  refine AOps.nil ?_
  refine AWp.ret ?_
  show Fin te Try.f43 _ _
  refine q_ret (0) [_] [_] ?_
  rfl

set_option maxRecDepth 20000 in
theorem c_ciceroneref08_short (n : Int) : AC Try.prog 41 [i64 n] emp (Ret (tf (shortB n))) := by
  refine AC.intro te_ok (fn := Try.f41) ⟨Try.func41, rfl, rfl⟩ (Nat.le_of_ble_eq_true rfl) ?_
  refine AWp.seq ?_
  refine AWp.region ?_
  refine AOps.cons rfl rfl (q_assign) ?_
  refine AOps.nil ?_
  refine AWp.seq ?_
  refine AWp.region ?_
  refine AOps.cons rfl rfl (q_move) ?_
  refine AOps.dec rfl rfl (q_geq) (fun h1_1 => ?_) (fun h1_1 => ?_)
  · skip
    refine AOps.cons rfl rfl (q_move) ?_
    refine AOps.gcons rfl rfl rfl rfl rfl (q_move) ?_
    refine AOps.gcons rfl rfl rfl rfl rfl (q_leq) ?_
    refine AOps.cons rfl rfl (q_pick) ?_
    refine AOps.cons rfl rfl (q_assign) ?_
    refine AOps.nil ?_
    refine AWp.ret ?_
    show Fin te Try.f41 _ _
    refine q_ret (0) [_] [_] ?_
    exact congrArg tf (by simp [shortB, *])
  · skip
    refine AOps.cons rfl rfl (q_move) ?_
    refine AOps.gskip rfl rfl rfl rfl rfl rfl rfl rfl ?_
    refine AOps.gskip rfl rfl rfl rfl rfl rfl rfl rfl ?_
    refine AOps.cons rfl rfl (q_pick) ?_
    refine AOps.cons rfl rfl (q_assign) ?_
    refine AOps.nil ?_
    refine AWp.ret ?_
    show Fin te Try.f41 _ _
    refine q_ret (0) [_] [_] ?_
    exact congrArg tf (by simp [shortB, *])

end Go.Proofs.Ytaemmklgofddmaa.Fw

/- Walks of layer 8: the reference: whether a set can be kept. -/
set_option linter.unusedVariables false
set_option linter.unusedSimpArgs false
namespace Go.Proofs.Ytaemmklgofddmaa.Fw
open Go.RowKit


theorem shortB_iff {n : Int} : shortB n = true ↔ 0 ≤ n ∧ n ≤ 65535 := by simp [shortB]
def dsA (x : ESet) : Bool := x.ds.all (canS x.ty)
def dsN (x : ESet) : Bool := decide (x.ds ≠ [])
def ds1 (x : ESet) : Bool := canS 6 (x.ds.getD 0 default)
def canQ (x : ESet) : Bool := if x.kind = 0 then decide (x.zone = []) && dsN x && decide (x.ty ≠ 0) && dsA x && decide (((putB x).length : Int) ≤ 4000)
  else if x.kind = 1 ∨ x.kind = 2 then canN x.zone && decide ((x.ds.length : Int) = 1) && ds1 x && kN x && decide (((putB x).length : Int) ≤ 4000) else false
def canP (x : ESet) : Bool := canN x.nm && shortB x.ty && shortB x.cs && !decide (x.rank < 1) && !decide (3 < x.rank) && !decide (x.exp < 0) && !decide (1099511627776 < x.exp) && !decide (4000 < (x.ds.length : Int))
def canRf (x : ESet) : Bool := canP x && canQ x
theorem keyO_iff {x : ESet} : keyO x = true ↔ canN x.nm = true ∧ shortB x.ty = true ∧ shortB x.cs = true := by
  simp only [keyO, Bool.and_eq_true, decide_eq_true_eq, shortB_iff]; constructor
  · rintro ⟨a, b, c, d, e⟩; exact ⟨a, ⟨b, by omega⟩, d, by omega⟩
  · rintro ⟨a, ⟨b, c⟩, d, e⟩; exact ⟨a, b, by omega, d, by omega⟩
theorem keyO_eq (x : ESet) : keyO x = (canN x.nm && shortB x.ty && shortB x.cs) := by
  rw [Bool.eq_iff_iff, keyO_iff]; simp [and_assoc]
theorem any_not_all {t : Int} {l : List (List UInt8)} : (l.any fun d => !canS t d) = !(l.all (canS t)) := by
  induction l with
  | nil => rfl
  | cons a l ih => rw [List.any_cons, List.all_cons, ih, Bool.not_and]
theorem nat0_of {x : ESet} (h : canP x = true) : Nat0 x ∧ x.nm.length ≤ 255 ∧ x.ds.length ≤ 4000 := by
  simp only [canP, Bool.and_eq_true, Bool.not_eq_true', decide_eq_false_iff_not, shortB_iff] at h
  obtain ⟨⟨⟨⟨⟨⟨⟨a, b⟩, c⟩, _⟩, _⟩, d⟩, e⟩, f⟩ := h
  exact ⟨⟨b.1, b.2, c.1, c.2, by omega, by omega⟩, canN_len a, by omega⟩
theorem rsmall_of {x : ESet} {t : Int} (h : canP x = true) (hz : x.zone.length ≤ 255) (hd : x.ds.all (canS t) = true) : Small x ∧ Nat0 x := by
  obtain ⟨h0, h1, h2⟩ := nat0_of h
  have := dsB_le (l := x.ds) fun d hd' => canS_len (List.all_eq_true.1 hd d hd')
  exact ⟨⟨by omega, by omega, by omega⟩, h0⟩
theorem one_all {x : ESet} (h : x.ds.length = 1) : x.ds.all (canS 6) = canS 6 (x.ds.getD 0 default) := by
  match hx : x.ds, h with
  | [a], _ => simp
theorem wsum_small {x : ESet} {t : Int} (hx : SetOk x) (hd : x.ds.all (canS t) = true) : wsum x.ds = (dsB x.ds).length := by
  have := wsum_dsB (l := x.ds) (fun d hd' => canS_len (List.all_eq_true.1 hd d hd')) hx.2.2.1 x.ds.length (Nat.le_refl _)
  rwa [List.take_length] at this
theorem canRf_eq {x : ESet} (hx : SetOk x) : canRf x = canE x := by
  have hb := putB_len x
  have h2 := dsB_two x.ds
  have hlen : (x.ds.length : Int) = 0 ↔ x.ds = [] := by rw [← List.length_eq_zero_iff]; omega
  rw [Bool.eq_iff_iff]
  constructor
  · intro h
    simp only [canRf, Bool.and_eq_true] at h
    obtain ⟨hp, hq⟩ := h
    have hp0 := hp
    simp only [canP, Bool.and_eq_true, Bool.not_eq_true', decide_eq_false_iff_not] at hp
    obtain ⟨⟨⟨⟨⟨⟨⟨a, b⟩, c⟩, r1⟩, r3⟩, e0⟩, e1⟩, l4⟩ := hp
    have hk : keyO x = true := keyO_iff.2 ⟨a, b, c⟩
    simp only [canE, Bool.and_eq_true, Bool.not_eq_true', decide_eq_false_iff_not]
    unfold canQ at hq
    split at hq
    · rename_i k0
      simp only [Bool.and_eq_true, decide_eq_true_eq, dsN, dsA] at hq
      obtain ⟨⟨⟨⟨z, d0⟩, t0⟩, al⟩, sz⟩ := hq
      have hw := wsum_small hx al
      have hty := (shortB_iff.1 b).1
      refine ⟨⟨⟨⟨⟨⟨⟨⟨hk, r1⟩, r3⟩, e0⟩, e1⟩, fun e => d0 (hlen.1 e)⟩, by omega⟩, by rw [kT, if_pos k0, any_not_all, al]; rfl⟩, ?_⟩
      rw [canK, if_pos k0]
      simp only [Bool.and_eq_true, decide_eq_true_eq]
      exact ⟨⟨by omega, z⟩, sz⟩
    · rename_i k0
      split at hq
      · rename_i k1
        simp only [Bool.and_eq_true, decide_eq_true_eq, ds1] at hq
        obtain ⟨⟨⟨⟨z, d1⟩, al⟩, kn⟩, sz⟩ := hq
        rw [← one_all (by omega)] at al
        have hw := wsum_small hx al
        refine ⟨⟨⟨⟨⟨⟨⟨⟨hk, r1⟩, r3⟩, e0⟩, e1⟩, by omega⟩, by omega⟩, by rw [kT, if_neg k0, any_not_all, al]; rfl⟩, ?_⟩
        rw [canK, if_neg k0, if_pos k1]
        simp only [Bool.and_eq_true, decide_eq_true_eq]
        exact ⟨⟨⟨z, by omega⟩, kn⟩, sz⟩
      · cases hq
  · intro h
    have hs := canE_small hx h
    simp only [canE, Bool.and_eq_true, Bool.not_eq_true', decide_eq_false_iff_not] at h
    obtain ⟨⟨⟨⟨⟨⟨⟨⟨hk, r1⟩, r3⟩, e0⟩, e1⟩, d0⟩, hw⟩, al⟩, hq⟩ := h
    obtain ⟨a, b, c⟩ := keyO_iff.1 hk
    rw [any_not_all] at al
    simp only [Bool.not_eq_false'] at al
    simp only [canRf, canP, Bool.and_eq_true, Bool.not_eq_true', decide_eq_false_iff_not]
    refine ⟨⟨⟨⟨⟨⟨⟨⟨a, b⟩, c⟩, r1⟩, r3⟩, e0⟩, e1⟩, by have := hs.2; omega⟩, ?_⟩
    unfold canK at hq
    unfold canQ
    split at hq
    · rename_i k0
      rw [if_pos k0]
      rw [kT, if_pos k0] at al
      simp only [Bool.and_eq_true, decide_eq_true_eq, dsN, dsA] at hq ⊢
      exact ⟨⟨⟨⟨hq.1.2, fun e => d0 (hlen.2 e)⟩, by omega⟩, al⟩, hq.2⟩
    · rename_i k0
      rw [if_neg k0]
      rw [kT, if_neg k0] at al
      split at hq
      · rename_i k1
        rw [if_pos k1]
        simp only [Bool.and_eq_true, decide_eq_true_eq, ds1] at hq ⊢
        have d1 : x.ds.length = 1 := by omega
        exact ⟨⟨⟨⟨hq.1.1.1, hq.1.1.2⟩, by rw [← one_all d1]; exact al⟩, hq.1.2⟩, hq.2⟩
      · cases hq
theorem allp_step {p : List UInt8 → Bool} {l : List (List UInt8)} {i : Nat} (hi : i < l.length) (h : (l.take i).all p = true) (he : p (l.getD i default) = true) : (l.take (i + 1)).all p = true := by
  rw [take_step' hi, List.all_append, h, List.all_cons, he]; rfl
theorem allp_no {p : List UInt8 → Bool} {l : List (List UInt8)} {i : Nat} (hi : i < l.length) (he : p (l.getD i default) = false) : l.all p = false := by
  rw [Bool.eq_false_iff]; intro h
  have := List.all_eq_true.1 h _ (getD_mem hi)
  rw [he] at this; cases this

set_option maxRecDepth 20000 in
theorem c_ciceroneref08_Can (x : ESet) (hx : SetOk x) : AC Try.prog 17 [.agg (setC x)] emp (Ret (tf (canE x))) := by
  obtain ⟨h1, h2, h3, h4⟩ := id hx
  rw [← canRf_eq hx]
  refine AC.intro te_ok (fn := Try.f17) ⟨Try.func17, rfl, rfl⟩ (Nat.le_of_ble_eq_true rfl) ?_
  refine AWp.seq ?_
  refine AWp.region ?_
  refine AOps.cons rfl rfl (q_box 100) ?_
  refine AOps.cons rfl rfl (q_assign) ?_
  refine AOps.nil ?_
  refine AWp.seq ?_
  refine AWp.seq ?_
  refine AWp.region ?_
  refine AOps.cons rfl rfl (q_fa) ?_
  refine AOps.cons rfl rfl (q_load) ?_
  refine AOps.bool rfl rfl (q_call (0) (hc := (c_ciceroneref01_Can x.nm (by omega)))) (fun h1_2 => ?_) (fun h1_2 => ?_)
  · skip
    refine AOps.cons rfl rfl (q_not) ?_
    refine AOps.cons rfl rfl (q_move) ?_
    refine AOps.gcons rfl rfl rfl rfl rfl (q_fa) ?_
    refine AOps.gcons rfl rfl rfl rfl rfl (q_load) ?_
    refine AOps.gbool rfl rfl rfl rfl rfl (q_call (0) (hc := c_ciceroneref08_short _)) (fun h1_7 => ?_) (fun h1_7 => ?_)
    · skip
      refine AOps.gcons rfl rfl rfl rfl rfl (q_not) ?_
      refine AOps.cons rfl rfl (q_pick) ?_
      refine AOps.cons rfl rfl (q_move) ?_
      refine AOps.gcons rfl rfl rfl rfl rfl (q_fa) ?_
      refine AOps.gcons rfl rfl rfl rfl rfl (q_load) ?_
      refine AOps.gbool rfl rfl rfl rfl rfl (q_call (0) (hc := c_ciceroneref08_short _)) (fun h1_13 => ?_) (fun h1_13 => ?_)
      · skip
        refine AOps.gcons rfl rfl rfl rfl rfl (q_not) ?_
        refine AOps.cons rfl rfl (q_pick) ?_
        refine AOps.cons rfl rfl (q_move) ?_
        refine AOps.gcons rfl rfl rfl rfl rfl (q_fa) ?_
        refine AOps.gcons rfl rfl rfl rfl rfl (q_load) ?_
        refine AOps.gdec rfl rfl rfl rfl rfl (q_lss) (fun h1_19 => ?_) (fun h1_19 => ?_)
        · skip
          refine AOps.cons rfl rfl (q_pick) ?_
          refine AOps.cons rfl rfl (q_move) ?_
          refine AOps.gskip rfl rfl rfl rfl rfl rfl rfl rfl ?_
          refine AOps.gskip rfl rfl rfl rfl rfl rfl rfl rfl ?_
          refine AOps.gskip rfl rfl rfl rfl rfl rfl rfl rfl ?_
          refine AOps.cons rfl rfl (q_pick) ?_
          refine AOps.cons rfl rfl (q_move) ?_
          refine AOps.gskip rfl rfl rfl rfl rfl rfl rfl rfl ?_
          refine AOps.gskip rfl rfl rfl rfl rfl rfl rfl rfl ?_
          refine AOps.gskip rfl rfl rfl rfl rfl rfl rfl rfl ?_
          refine AOps.cons rfl rfl (q_pick) ?_
          refine AOps.cons rfl rfl (q_move) ?_
          refine AOps.gskip rfl rfl rfl rfl rfl rfl rfl rfl ?_
          refine AOps.gskip rfl rfl rfl rfl rfl rfl rfl rfl ?_
          refine AOps.gskip rfl rfl rfl rfl rfl rfl rfl rfl ?_
          refine AOps.cons rfl rfl (q_pick) ?_
          refine AOps.cons rfl rfl (q_move) ?_
          refine AOps.gskip rfl rfl rfl rfl rfl rfl rfl rfl ?_
          refine AOps.gskip rfl rfl rfl rfl rfl rfl rfl rfl ?_
          refine AOps.gskip rfl rfl rfl rfl rfl rfl rfl rfl ?_
          refine AOps.gskip rfl rfl rfl rfl rfl rfl rfl rfl ?_
          refine AOps.cons rfl rfl (q_pick) ?_
          refine AOps.nil ?_
          refine AWp.cond_t rfl ?_
          refine AWp.seq ?_
          refine AWp.region ?_
          refine AOps.cons rfl rfl (q_assign) ?_
          refine AOps.nil ?_
          refine AWp.ret ?_
          show Fin te Try.f17 _ _
          refine q_ret (0) [_] [_] ?_
          exact congrArg tf (by simp [canRf, canQ, canP, *])
        · skip
          refine AOps.cons rfl rfl (q_pick) ?_
          refine AOps.cons rfl rfl (q_move) ?_
          refine AOps.gcons rfl rfl rfl rfl rfl (q_fa) ?_
          refine AOps.gcons rfl rfl rfl rfl rfl (q_load) ?_
          refine AOps.gdec rfl rfl rfl rfl rfl (q_gtr) (fun h1_24 => ?_) (fun h1_24 => ?_)
          · skip
            refine AOps.cons rfl rfl (q_pick) ?_
            refine AOps.cons rfl rfl (q_move) ?_
            refine AOps.gskip rfl rfl rfl rfl rfl rfl rfl rfl ?_
            refine AOps.gskip rfl rfl rfl rfl rfl rfl rfl rfl ?_
            refine AOps.gskip rfl rfl rfl rfl rfl rfl rfl rfl ?_
            refine AOps.cons rfl rfl (q_pick) ?_
            refine AOps.cons rfl rfl (q_move) ?_
            refine AOps.gskip rfl rfl rfl rfl rfl rfl rfl rfl ?_
            refine AOps.gskip rfl rfl rfl rfl rfl rfl rfl rfl ?_
            refine AOps.gskip rfl rfl rfl rfl rfl rfl rfl rfl ?_
            refine AOps.cons rfl rfl (q_pick) ?_
            refine AOps.cons rfl rfl (q_move) ?_
            refine AOps.gskip rfl rfl rfl rfl rfl rfl rfl rfl ?_
            refine AOps.gskip rfl rfl rfl rfl rfl rfl rfl rfl ?_
            refine AOps.gskip rfl rfl rfl rfl rfl rfl rfl rfl ?_
            refine AOps.gskip rfl rfl rfl rfl rfl rfl rfl rfl ?_
            refine AOps.cons rfl rfl (q_pick) ?_
            refine AOps.nil ?_
            refine AWp.cond_t rfl ?_
            refine AWp.seq ?_
            refine AWp.region ?_
            refine AOps.cons rfl rfl (q_assign) ?_
            refine AOps.nil ?_
            refine AWp.ret ?_
            show Fin te Try.f17 _ _
            refine q_ret (0) [_] [_] ?_
            exact congrArg tf (by simp [canRf, canQ, canP, *])
          · skip
            refine AOps.cons rfl rfl (q_pick) ?_
            refine AOps.cons rfl rfl (q_move) ?_
            refine AOps.gcons rfl rfl rfl rfl rfl (q_fa) ?_
            refine AOps.gcons rfl rfl rfl rfl rfl (q_load) ?_
            refine AOps.gdec rfl rfl rfl rfl rfl (q_lss) (fun h1_29 => ?_) (fun h1_29 => ?_)
            · skip
              refine AOps.cons rfl rfl (q_pick) ?_
              refine AOps.cons rfl rfl (q_move) ?_
              refine AOps.gskip rfl rfl rfl rfl rfl rfl rfl rfl ?_
              refine AOps.gskip rfl rfl rfl rfl rfl rfl rfl rfl ?_
              refine AOps.gskip rfl rfl rfl rfl rfl rfl rfl rfl ?_
              refine AOps.cons rfl rfl (q_pick) ?_
              refine AOps.cons rfl rfl (q_move) ?_
              refine AOps.gskip rfl rfl rfl rfl rfl rfl rfl rfl ?_
              refine AOps.gskip rfl rfl rfl rfl rfl rfl rfl rfl ?_
              refine AOps.gskip rfl rfl rfl rfl rfl rfl rfl rfl ?_
              refine AOps.gskip rfl rfl rfl rfl rfl rfl rfl rfl ?_
              refine AOps.cons rfl rfl (q_pick) ?_
              refine AOps.nil ?_
              refine AWp.cond_t rfl ?_
              refine AWp.seq ?_
              refine AWp.region ?_
              refine AOps.cons rfl rfl (q_assign) ?_
              refine AOps.nil ?_
              refine AWp.ret ?_
              show Fin te Try.f17 _ _
              refine q_ret (0) [_] [_] ?_
              exact congrArg tf (by simp [canRf, canQ, canP, *])
            · skip
              refine AOps.cons rfl rfl (q_pick) ?_
              refine AOps.cons rfl rfl (q_move) ?_
              refine AOps.gcons rfl rfl rfl rfl rfl (q_fa) ?_
              refine AOps.gcons rfl rfl rfl rfl rfl (q_load) ?_
              refine AOps.gdec rfl rfl rfl rfl rfl (q_gtr) (fun h1_34 => ?_) (fun h1_34 => ?_)
              · skip
                refine AOps.cons rfl rfl (q_pick) ?_
                refine AOps.cons rfl rfl (q_move) ?_
                refine AOps.gskip rfl rfl rfl rfl rfl rfl rfl rfl ?_
                refine AOps.gskip rfl rfl rfl rfl rfl rfl rfl rfl ?_
                refine AOps.gskip rfl rfl rfl rfl rfl rfl rfl rfl ?_
                refine AOps.gskip rfl rfl rfl rfl rfl rfl rfl rfl ?_
                refine AOps.cons rfl rfl (q_pick) ?_
                refine AOps.nil ?_
                refine AWp.cond_t rfl ?_
                refine AWp.seq ?_
                refine AWp.region ?_
                refine AOps.cons rfl rfl (q_assign) ?_
                refine AOps.nil ?_
                refine AWp.ret ?_
                show Fin te Try.f17 _ _
                refine q_ret (0) [_] [_] ?_
                exact congrArg tf (by simp [canRf, canQ, canP, *])
              · skip
                refine AOps.cons rfl rfl (q_pick) ?_
                refine AOps.cons rfl rfl (q_move) ?_
                refine AOps.gcons rfl rfl rfl rfl rfl (q_fa) ?_
                refine AOps.gcons rfl rfl rfl rfl rfl (q_load) ?_
                refine AOps.gcons rfl rfl rfl rfl rfl (q_len) ?_
                refine AOps.gdec rfl rfl rfl rfl rfl (q_gtr) (fun h1_40 => ?_) (fun h1_40 => ?_)
                · skip
                  refine AOps.cons rfl rfl (q_pick) ?_
                  refine AOps.nil ?_
                  refine AWp.cond_t rfl ?_
                  refine AWp.seq ?_
                  refine AWp.region ?_
                  refine AOps.cons rfl rfl (q_assign) ?_
                  refine AOps.nil ?_
                  refine AWp.ret ?_
                  show Fin te Try.f17 _ _
                  refine q_ret (0) [_] [_] ?_
                  exact congrArg tf (by simp [canRf, canQ, canP, *])
                · skip
                  refine AOps.cons rfl rfl (q_pick) ?_
                  refine AOps.nil ?_
                  refine AWp.cond_f rfl ?_
                  refine AWp.skip ?_
                  refine AWp.seq ?_
                  refine AWp.seq ?_
                  refine AWp.region ?_
                  have hcp : canP x = true := by simp [canP, *]
                  refine AOps.cons rfl rfl (q_fa) ?_
                  refine AOps.cons rfl rfl (q_load) ?_
                  refine AOps.nil ?_
                  refine AWp.block ?_
                  refine AWp.seq ?_
                  refine AWp.region ?_
                  refine AOps.dec rfl rfl (q_eql) (fun h5_0 => ?_) (fun h5_0 => ?_)
                  · skip
                    refine AOps.cons rfl rfl (q_assign) ?_
                    refine AOps.nil ?_
                    refine AWp.cond_t rfl ?_
                    refine AWp.seq ?_
                    refine AWp.seq ?_
                    refine AWp.region ?_
                    refine AOps.cons rfl rfl (q_fa) ?_
                    refine AOps.cons rfl rfl (q_load) ?_
                    refine AOps.dec rfl rfl (q_sneq) (fun h6_2 => ?_) (fun h6_2 => ?_)
                    · skip
                      refine AOps.cons rfl rfl (q_move) ?_
                      refine AOps.gskip rfl rfl rfl rfl rfl rfl rfl rfl ?_
                      refine AOps.gskip rfl rfl rfl rfl rfl rfl rfl rfl ?_
                      refine AOps.gskip rfl rfl rfl rfl rfl rfl rfl rfl ?_
                      refine AOps.gskip rfl rfl rfl rfl rfl rfl rfl rfl ?_
                      refine AOps.cons rfl rfl (q_pick) ?_
                      refine AOps.cons rfl rfl (q_move) ?_
                      refine AOps.gskip rfl rfl rfl rfl rfl rfl rfl rfl ?_
                      refine AOps.gskip rfl rfl rfl rfl rfl rfl rfl rfl ?_
                      refine AOps.gskip rfl rfl rfl rfl rfl rfl rfl rfl ?_
                      refine AOps.cons rfl rfl (q_pick) ?_
                      refine AOps.nil ?_
                      refine AWp.cond_t rfl ?_
                      refine AWp.seq ?_
                      refine AWp.region ?_
                      refine AOps.cons rfl rfl (q_assign) ?_
                      refine AOps.nil ?_
                      refine AWp.ret ?_
                      show Fin te Try.f17 _ _
                      refine q_ret (0) [_] [_] ?_
                      exact congrArg tf (by simp [canRf, canQ, canP, *])
                    · skip
                      have hz0 : x.zone = [] := by simpa using h6_2
                      refine AOps.cons rfl rfl (q_move) ?_
                      refine AOps.gcons rfl rfl rfl rfl rfl (q_fa) ?_
                      refine AOps.gcons rfl rfl rfl rfl rfl (q_load) ?_
                      refine AOps.gcons rfl rfl rfl rfl rfl (q_len) ?_
                      refine AOps.gdec rfl rfl rfl rfl rfl (q_eql) (fun h6_7 => ?_) (fun h6_7 => ?_)
                      · skip
                        refine AOps.cons rfl rfl (q_pick) ?_
                        refine AOps.cons rfl rfl (q_move) ?_
                        refine AOps.gskip rfl rfl rfl rfl rfl rfl rfl rfl ?_
                        refine AOps.gskip rfl rfl rfl rfl rfl rfl rfl rfl ?_
                        refine AOps.gskip rfl rfl rfl rfl rfl rfl rfl rfl ?_
                        refine AOps.cons rfl rfl (q_pick) ?_
                        refine AOps.nil ?_
                        refine AWp.cond_t rfl ?_
                        refine AWp.seq ?_
                        refine AWp.region ?_
                        refine AOps.cons rfl rfl (q_assign) ?_
                        refine AOps.nil ?_
                        refine AWp.ret ?_
                        show Fin te Try.f17 _ _
                        have q1 : dsN x = false := by simp [dsN, List.length_eq_zero_iff.1 (show x.ds.length = 0 by omega)]
                        refine q_ret (0) [_] [_] ?_
                        exact congrArg tf (by simp [canRf, canQ, canP, *])
                      · skip
                        refine AOps.cons rfl rfl (q_pick) ?_
                        refine AOps.cons rfl rfl (q_move) ?_
                        refine AOps.gcons rfl rfl rfl rfl rfl (q_fa) ?_
                        refine AOps.gcons rfl rfl rfl rfl rfl (q_load) ?_
                        refine AOps.gdec rfl rfl rfl rfl rfl (q_eql) (fun h6_12 => ?_) (fun h6_12 => ?_)
                        · skip
                          refine AOps.cons rfl rfl (q_pick) ?_
                          refine AOps.nil ?_
                          refine AWp.cond_t rfl ?_
                          refine AWp.seq ?_
                          refine AWp.region ?_
                          refine AOps.cons rfl rfl (q_assign) ?_
                          refine AOps.nil ?_
                          refine AWp.ret ?_
                          show Fin te Try.f17 _ _
                          have q1 : dsN x = true := decide_eq_true fun e => h6_7 (by rw [e]; rfl)
                          refine q_ret (0) [_] [_] ?_
                          exact congrArg tf (by simp [canRf, canQ, canP, *])
                        · skip
                          refine AOps.cons rfl rfl (q_pick) ?_
                          refine AOps.nil ?_
                          refine AWp.cond_f rfl ?_
                          refine AWp.skip ?_
                          refine AWp.seq ?_
                          refine AWp.region ?_
                          refine AOps.cons rfl rfl (q_fa) ?_
                          refine AOps.cons rfl rfl (q_load) ?_
                          refine AOps.cons rfl rfl (q_len) ?_
                          refine AOps.cons rfl rfl (q_move) ?_
                          refine AOps.nil ?_
                          refine AWp.block ?_
                          refine AWp.loopR (α := Nat) [2, 4, 68, 69, 70, 71, 72, 73, 74, 75, 76, 77] (fun i => [(68, i64 i)]) (fun i => []) (fun i => i ≤ x.ds.length ∧ (x.ds.take i).all (canS x.ty) = true) (fun i => x.ds.length - i) 0 ?_ (Back.mk' (HasT.cons HasT.nil) HasH.nil) ?_
                          · exact ⟨Nat.zero_le _, rfl⟩
                          · rintro i ⟨hi, hall⟩
                            refine AWp.seq ?_
                            refine AWp.region ?_
                            refine AOps.dec rfl rfl (q_lss) (fun h9_0 => ?_) (fun h9_0 => ?_)
                            · skip
                              refine AOps.nil ?_
                              refine AWp.seq ?_
                              refine AWp.cond_t rfl ?_
                              refine AWp.skip ?_
                              refine AWp.seq ?_
                              refine AWp.block ?_
                              refine AWp.seq ?_
                              refine AWp.region ?_
                              refine AOps.cons rfl rfl (q_ix) ?_
                              refine AOps.cons rfl rfl (q_load) ?_
                              refine AOps.cons rfl rfl (q_assign) ?_
                              refine AOps.nil ?_
                              refine AWp.seq ?_
                              refine AWp.region ?_
                              have hdi : (x.ds.getD i default).length ≤ 140737488351232 := h4 _ (getD_mem (by omega))
                              refine AOps.cons rfl rfl (q_fa) ?_
                              refine AOps.cons rfl rfl (q_load) ?_
                              refine AOps.cons rfl rfl (q_move) ?_
                              refine AOps.bool rfl rfl (q_call (0) (hc := (c_ciceroneref03_Can x.ty (x.ds.getD i default) 0 (by omega)))) (fun h11_3 => ?_) (fun h11_3 => ?_)
                              · skip
                                refine AOps.cons rfl rfl (q_not) ?_
                                refine AOps.nil ?_
                                refine AWp.cond_f rfl ?_
                                refine AWp.skip ?_
                                refine AWp.region ?_
                                refine AOps.cons rfl rfl (q_add) ?_
                                refine AOps.cons rfl rfl (q_move) ?_
                                refine AOps.nil ?_
                                refine ⟨i + 1, ?_, Back.mk' (HasT.cons HasT.nil) HasH.nil, ?_⟩
                                · exact ⟨by omega, allp_step (by omega) hall h11_3⟩
                                · first | omega | (simp; omega)
                              · skip
                                refine AOps.cons rfl rfl (q_not) ?_
                                refine AOps.nil ?_
                                refine AWp.cond_t rfl ?_
                                refine AWp.seq ?_
                                refine AWp.region ?_
                                refine AOps.cons rfl rfl (q_assign) ?_
                                refine AOps.nil ?_
                                refine AWp.ret ?_
                                show Fin te Try.f17 _ _
                                have q1 : dsN x = true := decide_eq_true fun e => h6_7 (by rw [e]; rfl)
                                have q2 : dsA x = false := allp_no (by omega) h11_3
                                refine q_ret (0) [_] [_] ?_
                                exact congrArg tf (by simp [canRf, canQ, canP, *])
                            · skip
                              refine AOps.nil ?_
                              refine AWp.seq ?_
                              refine AWp.cond_f rfl ?_
                              refine AWp.exit ?_
                              refine AWp.seq ?_
                              refine AWp.region ?_
                              obtain rfl : i = x.ds.length := by omega
                              rw [List.take_length] at hall
                              have hsm := rsmall_of hcp (by rw [show x.zone = [] from by simpa using h6_2]; decide) hall
                              refine AOps.cons rfl rfl (q_load) ?_
                              refine AOps.cons rfl rfl (q_call (0) (hc := (c_ciceroneref08_Size x hsm.1 hsm.2))) ?_
                              refine AOps.cons rfl rfl (q_leq) ?_
                              refine AOps.cons rfl rfl (q_assign) ?_
                              refine AOps.nil ?_
                              refine AWp.ret ?_
                              show Fin te Try.f17 _ _
                              have q1 : dsN x = true := decide_eq_true fun e => h6_7 (by rw [e]; rfl)
                              have q2 : dsA x = true := hall
                              refine q_ret (0) [_] [_] ?_
                              exact congrArg tf (by simp [canRf, canQ, canP, *])
                  · skip
                    refine AOps.cons rfl rfl (q_assign) ?_
                    refine AOps.nil ?_
                    refine AWp.cond_f rfl ?_
                    refine AWp.seq ?_
                    refine AWp.seq ?_
                    refine AWp.region ?_
                    refine AOps.dec rfl rfl (q_eql) (fun h14_0 => ?_) (fun h14_0 => ?_)
                    · skip
                      refine AOps.cons rfl rfl (q_assign) ?_
                      refine AOps.nil ?_
                      refine AWp.cond_t rfl ?_
                      refine AWp.skip ?_
                      refine AWp.cond_t rfl ?_
                      refine AWp.seq ?_
                      refine AWp.region ?_
                      refine AOps.cons rfl rfl (q_fa) ?_
                      refine AOps.cons rfl rfl (q_load) ?_
                      refine AOps.bool rfl rfl (q_call (0) (hc := (c_ciceroneref01_Can x.zone (by omega)))) (fun h16_2 => ?_) (fun h16_2 => ?_)
                      · skip
                        refine AOps.cons rfl rfl (q_not) ?_
                        refine AOps.cons rfl rfl (q_move) ?_
                        refine AOps.gcons rfl rfl rfl rfl rfl (q_fa) ?_
                        refine AOps.gcons rfl rfl rfl rfl rfl (q_load) ?_
                        refine AOps.gcons rfl rfl rfl rfl rfl (q_len) ?_
                        refine AOps.gdec rfl rfl rfl rfl rfl (q_neq) (fun h16_8 => ?_) (fun h16_8 => ?_)
                        · skip
                          refine AOps.cons rfl rfl (q_pick) ?_
                          refine AOps.cons rfl rfl (q_move) ?_
                          refine AOps.gskip rfl rfl rfl rfl rfl rfl rfl rfl ?_
                          refine AOps.gskip rfl rfl rfl rfl rfl rfl rfl rfl ?_
                          refine AOps.gskip rfl rfl rfl rfl rfl rfl rfl rfl ?_
                          refine AOps.gskip rfl rfl rfl rfl rfl rfl rfl rfl ?_
                          refine AOps.gskip rfl rfl rfl rfl rfl rfl rfl rfl ?_
                          refine AOps.gskip rfl rfl rfl rfl rfl rfl rfl rfl ?_
                          refine AOps.cons rfl rfl (q_pick) ?_
                          refine AOps.cons rfl rfl (q_move) ?_
                          refine AOps.gskip rfl rfl rfl rfl rfl rfl rfl rfl ?_
                          refine AOps.gskip rfl rfl rfl rfl rfl rfl rfl rfl ?_
                          refine AOps.gskip rfl rfl rfl rfl rfl rfl rfl rfl ?_
                          refine AOps.gskip rfl rfl rfl rfl rfl rfl rfl rfl ?_
                          refine AOps.gskip rfl rfl rfl rfl rfl rfl rfl rfl ?_
                          refine AOps.gskip rfl rfl rfl rfl rfl rfl rfl rfl ?_
                          refine AOps.gskip rfl rfl rfl rfl rfl rfl rfl rfl ?_
                          refine AOps.cons rfl rfl (q_pick) ?_
                          refine AOps.nil ?_
                          refine AWp.cond_t rfl ?_
                          refine AWp.seq ?_
                          refine AWp.region ?_
                          refine AOps.cons rfl rfl (q_assign) ?_
                          refine AOps.nil ?_
                          refine AWp.ret ?_
                          show Fin te Try.f17 _ _
                          refine q_ret (0) [_] [_] ?_
                          exact congrArg tf (by simp [canRf, canQ, canP, *])
                        · skip
                          refine AOps.cons rfl rfl (q_pick) ?_
                          refine AOps.cons rfl rfl (q_move) ?_
                          have hd1 : x.ds.length = 1 := by omega
                          have hdi : (x.ds.getD 0 default).length ≤ 140737488351232 := h4 _ (getD_mem (by omega))
                          refine AOps.gcons rfl rfl rfl rfl rfl (q_fa) ?_
                          refine AOps.gcons rfl rfl rfl rfl rfl (q_load) ?_
                          refine AOps.gcons rfl rfl rfl rfl rfl (q_ix (i := 0)) ?_
                          refine AOps.gcons rfl rfl rfl rfl rfl (q_load) ?_
                          refine AOps.gbool rfl rfl rfl rfl rfl (q_call (0) (hc := (c_ciceroneref03_Can 6 (x.ds.getD 0 default) 0 (by omega)))) (fun h16_15 => ?_) (fun h16_15 => ?_)
                          · skip
                            refine AOps.gcons rfl rfl rfl rfl rfl (q_not) ?_
                            refine AOps.cons rfl rfl (q_pick) ?_
                            refine AOps.cons rfl rfl (q_move) ?_
                            refine AOps.gcons rfl rfl rfl rfl rfl (q_fa) ?_
                            refine AOps.gcons rfl rfl rfl rfl rfl (q_load) ?_
                            refine AOps.gcons rfl rfl rfl rfl rfl (q_eql) ?_
                            refine AOps.gcons rfl rfl rfl rfl rfl (q_fa) ?_
                            refine AOps.gcons rfl rfl rfl rfl rfl (q_load) ?_
                            refine AOps.gcons rfl rfl rfl rfl rfl (q_eql) ?_
                            refine AOps.gbool rfl rfl rfl rfl rfl (q_bneq) (fun h16_25 => ?_) (fun h16_25 => ?_)
                            · skip
                              have hkn : kN x = false := by simpa [kN] using h16_25
                              refine AOps.cons rfl rfl (q_pick) ?_
                              refine AOps.nil ?_
                              refine AWp.cond_t rfl ?_
                              refine AWp.seq ?_
                              refine AWp.region ?_
                              refine AOps.cons rfl rfl (q_assign) ?_
                              refine AOps.nil ?_
                              refine AWp.ret ?_
                              show Fin te Try.f17 _ _
                              have q3 : ds1 x = true := h16_15
                              refine q_ret (0) [_] [_] ?_
                              exact congrArg tf (by simp [canRf, canQ, canP, *])
                            · skip
                              have hkn : kN x = true := by simpa [kN] using h16_25
                              refine AOps.cons rfl rfl (q_pick) ?_
                              refine AOps.nil ?_
                              refine AWp.cond_f rfl ?_
                              refine AWp.skip ?_
                              refine AWp.seq ?_
                              refine AWp.region ?_
                              have hsm := rsmall_of hcp (canN_len h16_2) ((one_all hd1).trans h16_15)
                              refine AOps.cons rfl rfl (q_load) ?_
                              refine AOps.cons rfl rfl (q_call (0) (hc := (c_ciceroneref08_Size x hsm.1 hsm.2))) ?_
                              refine AOps.cons rfl rfl (q_leq) ?_
                              refine AOps.cons rfl rfl (q_assign) ?_
                              refine AOps.nil ?_
                              refine AWp.ret ?_
                              show Fin te Try.f17 _ _
                              have q3 : ds1 x = true := h16_15
                              refine q_ret (0) [_] [_] ?_
                              exact congrArg tf (by simp [canRf, canQ, canP, *])
                          · skip
                            refine AOps.gcons rfl rfl rfl rfl rfl (q_not) ?_
                            refine AOps.cons rfl rfl (q_pick) ?_
                            refine AOps.cons rfl rfl (q_move) ?_
                            refine AOps.gskip rfl rfl rfl rfl rfl rfl rfl rfl ?_
                            refine AOps.gskip rfl rfl rfl rfl rfl rfl rfl rfl ?_
                            refine AOps.gskip rfl rfl rfl rfl rfl rfl rfl rfl ?_
                            refine AOps.gskip rfl rfl rfl rfl rfl rfl rfl rfl ?_
                            refine AOps.gskip rfl rfl rfl rfl rfl rfl rfl rfl ?_
                            refine AOps.gskip rfl rfl rfl rfl rfl rfl rfl rfl ?_
                            refine AOps.gskip rfl rfl rfl rfl rfl rfl rfl rfl ?_
                            refine AOps.cons rfl rfl (q_pick) ?_
                            refine AOps.nil ?_
                            refine AWp.cond_t rfl ?_
                            refine AWp.seq ?_
                            refine AWp.region ?_
                            refine AOps.cons rfl rfl (q_assign) ?_
                            refine AOps.nil ?_
                            refine AWp.ret ?_
                            show Fin te Try.f17 _ _
                            have q3 : ds1 x = false := h16_15
                            refine q_ret (0) [_] [_] ?_
                            exact congrArg tf (by simp [canRf, canQ, canP, *])
                      · skip
                        refine AOps.cons rfl rfl (q_not) ?_
                        refine AOps.cons rfl rfl (q_move) ?_
                        refine AOps.gskip rfl rfl rfl rfl rfl rfl rfl rfl ?_
                        refine AOps.gskip rfl rfl rfl rfl rfl rfl rfl rfl ?_
                        refine AOps.gskip rfl rfl rfl rfl rfl rfl rfl rfl ?_
                        refine AOps.gskip rfl rfl rfl rfl rfl rfl rfl rfl ?_
                        refine AOps.cons rfl rfl (q_pick) ?_
                        refine AOps.cons rfl rfl (q_move) ?_
                        refine AOps.gskip rfl rfl rfl rfl rfl rfl rfl rfl ?_
                        refine AOps.gskip rfl rfl rfl rfl rfl rfl rfl rfl ?_
                        refine AOps.gskip rfl rfl rfl rfl rfl rfl rfl rfl ?_
                        refine AOps.gskip rfl rfl rfl rfl rfl rfl rfl rfl ?_
                        refine AOps.gskip rfl rfl rfl rfl rfl rfl rfl rfl ?_
                        refine AOps.gskip rfl rfl rfl rfl rfl rfl rfl rfl ?_
                        refine AOps.cons rfl rfl (q_pick) ?_
                        refine AOps.cons rfl rfl (q_move) ?_
                        refine AOps.gskip rfl rfl rfl rfl rfl rfl rfl rfl ?_
                        refine AOps.gskip rfl rfl rfl rfl rfl rfl rfl rfl ?_
                        refine AOps.gskip rfl rfl rfl rfl rfl rfl rfl rfl ?_
                        refine AOps.gskip rfl rfl rfl rfl rfl rfl rfl rfl ?_
                        refine AOps.gskip rfl rfl rfl rfl rfl rfl rfl rfl ?_
                        refine AOps.gskip rfl rfl rfl rfl rfl rfl rfl rfl ?_
                        refine AOps.gskip rfl rfl rfl rfl rfl rfl rfl rfl ?_
                        refine AOps.cons rfl rfl (q_pick) ?_
                        refine AOps.nil ?_
                        refine AWp.cond_t rfl ?_
                        refine AWp.seq ?_
                        refine AWp.region ?_
                        refine AOps.cons rfl rfl (q_assign) ?_
                        refine AOps.nil ?_
                        refine AWp.ret ?_
                        show Fin te Try.f17 _ _
                        refine q_ret (0) [_] [_] ?_
                        exact congrArg tf (by simp [canRf, canQ, canP, *])
                    · skip
                      refine AOps.cons rfl rfl (q_assign) ?_
                      refine AOps.nil ?_
                      refine AWp.cond_f rfl ?_
                      refine AWp.region ?_
                      refine AOps.dec rfl rfl (q_eql) (fun h15_0 => ?_) (fun h15_0 => ?_)
                      · skip
                        refine AOps.cons rfl rfl (q_assign) ?_
                        refine AOps.nil ?_
                        refine AWp.cond_t rfl ?_
                        refine AWp.seq ?_
                        refine AWp.region ?_
                        refine AOps.cons rfl rfl (q_fa) ?_
                        refine AOps.cons rfl rfl (q_load) ?_
                        refine AOps.bool rfl rfl (q_call (0) (hc := (c_ciceroneref01_Can x.zone (by omega)))) (fun h16_2 => ?_) (fun h16_2 => ?_)
                        · skip
                          refine AOps.cons rfl rfl (q_not) ?_
                          refine AOps.cons rfl rfl (q_move) ?_
                          refine AOps.gcons rfl rfl rfl rfl rfl (q_fa) ?_
                          refine AOps.gcons rfl rfl rfl rfl rfl (q_load) ?_
                          refine AOps.gcons rfl rfl rfl rfl rfl (q_len) ?_
                          refine AOps.gdec rfl rfl rfl rfl rfl (q_neq) (fun h16_8 => ?_) (fun h16_8 => ?_)
                          · skip
                            refine AOps.cons rfl rfl (q_pick) ?_
                            refine AOps.cons rfl rfl (q_move) ?_
                            refine AOps.gskip rfl rfl rfl rfl rfl rfl rfl rfl ?_
                            refine AOps.gskip rfl rfl rfl rfl rfl rfl rfl rfl ?_
                            refine AOps.gskip rfl rfl rfl rfl rfl rfl rfl rfl ?_
                            refine AOps.gskip rfl rfl rfl rfl rfl rfl rfl rfl ?_
                            refine AOps.gskip rfl rfl rfl rfl rfl rfl rfl rfl ?_
                            refine AOps.gskip rfl rfl rfl rfl rfl rfl rfl rfl ?_
                            refine AOps.cons rfl rfl (q_pick) ?_
                            refine AOps.cons rfl rfl (q_move) ?_
                            refine AOps.gskip rfl rfl rfl rfl rfl rfl rfl rfl ?_
                            refine AOps.gskip rfl rfl rfl rfl rfl rfl rfl rfl ?_
                            refine AOps.gskip rfl rfl rfl rfl rfl rfl rfl rfl ?_
                            refine AOps.gskip rfl rfl rfl rfl rfl rfl rfl rfl ?_
                            refine AOps.gskip rfl rfl rfl rfl rfl rfl rfl rfl ?_
                            refine AOps.gskip rfl rfl rfl rfl rfl rfl rfl rfl ?_
                            refine AOps.gskip rfl rfl rfl rfl rfl rfl rfl rfl ?_
                            refine AOps.cons rfl rfl (q_pick) ?_
                            refine AOps.nil ?_
                            refine AWp.cond_t rfl ?_
                            refine AWp.seq ?_
                            refine AWp.region ?_
                            refine AOps.cons rfl rfl (q_assign) ?_
                            refine AOps.nil ?_
                            refine AWp.ret ?_
                            show Fin te Try.f17 _ _
                            refine q_ret (0) [_] [_] ?_
                            exact congrArg tf (by simp [canRf, canQ, canP, *])
                          · skip
                            refine AOps.cons rfl rfl (q_pick) ?_
                            refine AOps.cons rfl rfl (q_move) ?_
                            have hd1 : x.ds.length = 1 := by omega
                            have hdi : (x.ds.getD 0 default).length ≤ 140737488351232 := h4 _ (getD_mem (by omega))
                            refine AOps.gcons rfl rfl rfl rfl rfl (q_fa) ?_
                            refine AOps.gcons rfl rfl rfl rfl rfl (q_load) ?_
                            refine AOps.gcons rfl rfl rfl rfl rfl (q_ix (i := 0)) ?_
                            refine AOps.gcons rfl rfl rfl rfl rfl (q_load) ?_
                            refine AOps.gbool rfl rfl rfl rfl rfl (q_call (0) (hc := (c_ciceroneref03_Can 6 (x.ds.getD 0 default) 0 (by omega)))) (fun h16_15 => ?_) (fun h16_15 => ?_)
                            · skip
                              refine AOps.gcons rfl rfl rfl rfl rfl (q_not) ?_
                              refine AOps.cons rfl rfl (q_pick) ?_
                              refine AOps.cons rfl rfl (q_move) ?_
                              refine AOps.gcons rfl rfl rfl rfl rfl (q_fa) ?_
                              refine AOps.gcons rfl rfl rfl rfl rfl (q_load) ?_
                              refine AOps.gcons rfl rfl rfl rfl rfl (q_eql) ?_
                              refine AOps.gcons rfl rfl rfl rfl rfl (q_fa) ?_
                              refine AOps.gcons rfl rfl rfl rfl rfl (q_load) ?_
                              refine AOps.gcons rfl rfl rfl rfl rfl (q_eql) ?_
                              refine AOps.gbool rfl rfl rfl rfl rfl (q_bneq) (fun h16_25 => ?_) (fun h16_25 => ?_)
                              · skip
                                have hkn : kN x = false := by simpa [kN] using h16_25
                                refine AOps.cons rfl rfl (q_pick) ?_
                                refine AOps.nil ?_
                                refine AWp.cond_t rfl ?_
                                refine AWp.seq ?_
                                refine AWp.region ?_
                                refine AOps.cons rfl rfl (q_assign) ?_
                                refine AOps.nil ?_
                                refine AWp.ret ?_
                                show Fin te Try.f17 _ _
                                have q3 : ds1 x = true := h16_15
                                refine q_ret (0) [_] [_] ?_
                                exact congrArg tf (by simp [canRf, canQ, canP, *])
                              · skip
                                have hkn : kN x = true := by simpa [kN] using h16_25
                                refine AOps.cons rfl rfl (q_pick) ?_
                                refine AOps.nil ?_
                                refine AWp.cond_f rfl ?_
                                refine AWp.skip ?_
                                refine AWp.seq ?_
                                refine AWp.region ?_
                                have hsm := rsmall_of hcp (canN_len h16_2) ((one_all hd1).trans h16_15)
                                refine AOps.cons rfl rfl (q_load) ?_
                                refine AOps.cons rfl rfl (q_call (0) (hc := (c_ciceroneref08_Size x hsm.1 hsm.2))) ?_
                                refine AOps.cons rfl rfl (q_leq) ?_
                                refine AOps.cons rfl rfl (q_assign) ?_
                                refine AOps.nil ?_
                                refine AWp.ret ?_
                                show Fin te Try.f17 _ _
                                have q3 : ds1 x = true := h16_15
                                refine q_ret (0) [_] [_] ?_
                                exact congrArg tf (by simp [canRf, canQ, canP, *])
                            · skip
                              refine AOps.gcons rfl rfl rfl rfl rfl (q_not) ?_
                              refine AOps.cons rfl rfl (q_pick) ?_
                              refine AOps.cons rfl rfl (q_move) ?_
                              refine AOps.gskip rfl rfl rfl rfl rfl rfl rfl rfl ?_
                              refine AOps.gskip rfl rfl rfl rfl rfl rfl rfl rfl ?_
                              refine AOps.gskip rfl rfl rfl rfl rfl rfl rfl rfl ?_
                              refine AOps.gskip rfl rfl rfl rfl rfl rfl rfl rfl ?_
                              refine AOps.gskip rfl rfl rfl rfl rfl rfl rfl rfl ?_
                              refine AOps.gskip rfl rfl rfl rfl rfl rfl rfl rfl ?_
                              refine AOps.gskip rfl rfl rfl rfl rfl rfl rfl rfl ?_
                              refine AOps.cons rfl rfl (q_pick) ?_
                              refine AOps.nil ?_
                              refine AWp.cond_t rfl ?_
                              refine AWp.seq ?_
                              refine AWp.region ?_
                              refine AOps.cons rfl rfl (q_assign) ?_
                              refine AOps.nil ?_
                              refine AWp.ret ?_
                              show Fin te Try.f17 _ _
                              have q3 : ds1 x = false := h16_15
                              refine q_ret (0) [_] [_] ?_
                              exact congrArg tf (by simp [canRf, canQ, canP, *])
                        · skip
                          refine AOps.cons rfl rfl (q_not) ?_
                          refine AOps.cons rfl rfl (q_move) ?_
                          refine AOps.gskip rfl rfl rfl rfl rfl rfl rfl rfl ?_
                          refine AOps.gskip rfl rfl rfl rfl rfl rfl rfl rfl ?_
                          refine AOps.gskip rfl rfl rfl rfl rfl rfl rfl rfl ?_
                          refine AOps.gskip rfl rfl rfl rfl rfl rfl rfl rfl ?_
                          refine AOps.cons rfl rfl (q_pick) ?_
                          refine AOps.cons rfl rfl (q_move) ?_
                          refine AOps.gskip rfl rfl rfl rfl rfl rfl rfl rfl ?_
                          refine AOps.gskip rfl rfl rfl rfl rfl rfl rfl rfl ?_
                          refine AOps.gskip rfl rfl rfl rfl rfl rfl rfl rfl ?_
                          refine AOps.gskip rfl rfl rfl rfl rfl rfl rfl rfl ?_
                          refine AOps.gskip rfl rfl rfl rfl rfl rfl rfl rfl ?_
                          refine AOps.gskip rfl rfl rfl rfl rfl rfl rfl rfl ?_
                          refine AOps.cons rfl rfl (q_pick) ?_
                          refine AOps.cons rfl rfl (q_move) ?_
                          refine AOps.gskip rfl rfl rfl rfl rfl rfl rfl rfl ?_
                          refine AOps.gskip rfl rfl rfl rfl rfl rfl rfl rfl ?_
                          refine AOps.gskip rfl rfl rfl rfl rfl rfl rfl rfl ?_
                          refine AOps.gskip rfl rfl rfl rfl rfl rfl rfl rfl ?_
                          refine AOps.gskip rfl rfl rfl rfl rfl rfl rfl rfl ?_
                          refine AOps.gskip rfl rfl rfl rfl rfl rfl rfl rfl ?_
                          refine AOps.gskip rfl rfl rfl rfl rfl rfl rfl rfl ?_
                          refine AOps.cons rfl rfl (q_pick) ?_
                          refine AOps.nil ?_
                          refine AWp.cond_t rfl ?_
                          refine AWp.seq ?_
                          refine AWp.region ?_
                          refine AOps.cons rfl rfl (q_assign) ?_
                          refine AOps.nil ?_
                          refine AWp.ret ?_
                          show Fin te Try.f17 _ _
                          refine q_ret (0) [_] [_] ?_
                          exact congrArg tf (by simp [canRf, canQ, canP, *])
                      · skip
                        refine AOps.cons rfl rfl (q_assign) ?_
                        refine AOps.nil ?_
                        refine AWp.cond_f rfl ?_
                        refine AWp.seq ?_
                        refine AWp.region ?_
                        refine AOps.cons rfl rfl (q_assign) ?_
                        refine AOps.nil ?_
                        refine AWp.ret ?_
                        show Fin te Try.f17 _ _
                        refine q_ret (0) [_] [_] ?_
                        exact congrArg tf (by simp [canRf, canQ, canP, *])
      · skip
        refine AOps.gcons rfl rfl rfl rfl rfl (q_not) ?_
        refine AOps.cons rfl rfl (q_pick) ?_
        refine AOps.cons rfl rfl (q_move) ?_
        refine AOps.gskip rfl rfl rfl rfl rfl rfl rfl rfl ?_
        refine AOps.gskip rfl rfl rfl rfl rfl rfl rfl rfl ?_
        refine AOps.gskip rfl rfl rfl rfl rfl rfl rfl rfl ?_
        refine AOps.cons rfl rfl (q_pick) ?_
        refine AOps.cons rfl rfl (q_move) ?_
        refine AOps.gskip rfl rfl rfl rfl rfl rfl rfl rfl ?_
        refine AOps.gskip rfl rfl rfl rfl rfl rfl rfl rfl ?_
        refine AOps.gskip rfl rfl rfl rfl rfl rfl rfl rfl ?_
        refine AOps.cons rfl rfl (q_pick) ?_
        refine AOps.cons rfl rfl (q_move) ?_
        refine AOps.gskip rfl rfl rfl rfl rfl rfl rfl rfl ?_
        refine AOps.gskip rfl rfl rfl rfl rfl rfl rfl rfl ?_
        refine AOps.gskip rfl rfl rfl rfl rfl rfl rfl rfl ?_
        refine AOps.cons rfl rfl (q_pick) ?_
        refine AOps.cons rfl rfl (q_move) ?_
        refine AOps.gskip rfl rfl rfl rfl rfl rfl rfl rfl ?_
        refine AOps.gskip rfl rfl rfl rfl rfl rfl rfl rfl ?_
        refine AOps.gskip rfl rfl rfl rfl rfl rfl rfl rfl ?_
        refine AOps.cons rfl rfl (q_pick) ?_
        refine AOps.cons rfl rfl (q_move) ?_
        refine AOps.gskip rfl rfl rfl rfl rfl rfl rfl rfl ?_
        refine AOps.gskip rfl rfl rfl rfl rfl rfl rfl rfl ?_
        refine AOps.gskip rfl rfl rfl rfl rfl rfl rfl rfl ?_
        refine AOps.gskip rfl rfl rfl rfl rfl rfl rfl rfl ?_
        refine AOps.cons rfl rfl (q_pick) ?_
        refine AOps.nil ?_
        refine AWp.cond_t rfl ?_
        refine AWp.seq ?_
        refine AWp.region ?_
        refine AOps.cons rfl rfl (q_assign) ?_
        refine AOps.nil ?_
        refine AWp.ret ?_
        show Fin te Try.f17 _ _
        refine q_ret (0) [_] [_] ?_
        exact congrArg tf (by simp [canRf, canQ, canP, *])
    · skip
      refine AOps.gcons rfl rfl rfl rfl rfl (q_not) ?_
      refine AOps.cons rfl rfl (q_pick) ?_
      refine AOps.cons rfl rfl (q_move) ?_
      refine AOps.gskip rfl rfl rfl rfl rfl rfl rfl rfl ?_
      refine AOps.gskip rfl rfl rfl rfl rfl rfl rfl rfl ?_
      refine AOps.gskip rfl rfl rfl rfl rfl rfl rfl rfl ?_
      refine AOps.gskip rfl rfl rfl rfl rfl rfl rfl rfl ?_
      refine AOps.cons rfl rfl (q_pick) ?_
      refine AOps.cons rfl rfl (q_move) ?_
      refine AOps.gskip rfl rfl rfl rfl rfl rfl rfl rfl ?_
      refine AOps.gskip rfl rfl rfl rfl rfl rfl rfl rfl ?_
      refine AOps.gskip rfl rfl rfl rfl rfl rfl rfl rfl ?_
      refine AOps.cons rfl rfl (q_pick) ?_
      refine AOps.cons rfl rfl (q_move) ?_
      refine AOps.gskip rfl rfl rfl rfl rfl rfl rfl rfl ?_
      refine AOps.gskip rfl rfl rfl rfl rfl rfl rfl rfl ?_
      refine AOps.gskip rfl rfl rfl rfl rfl rfl rfl rfl ?_
      refine AOps.cons rfl rfl (q_pick) ?_
      refine AOps.cons rfl rfl (q_move) ?_
      refine AOps.gskip rfl rfl rfl rfl rfl rfl rfl rfl ?_
      refine AOps.gskip rfl rfl rfl rfl rfl rfl rfl rfl ?_
      refine AOps.gskip rfl rfl rfl rfl rfl rfl rfl rfl ?_
      refine AOps.cons rfl rfl (q_pick) ?_
      refine AOps.cons rfl rfl (q_move) ?_
      refine AOps.gskip rfl rfl rfl rfl rfl rfl rfl rfl ?_
      refine AOps.gskip rfl rfl rfl rfl rfl rfl rfl rfl ?_
      refine AOps.gskip rfl rfl rfl rfl rfl rfl rfl rfl ?_
      refine AOps.cons rfl rfl (q_pick) ?_
      refine AOps.cons rfl rfl (q_move) ?_
      refine AOps.gskip rfl rfl rfl rfl rfl rfl rfl rfl ?_
      refine AOps.gskip rfl rfl rfl rfl rfl rfl rfl rfl ?_
      refine AOps.gskip rfl rfl rfl rfl rfl rfl rfl rfl ?_
      refine AOps.gskip rfl rfl rfl rfl rfl rfl rfl rfl ?_
      refine AOps.cons rfl rfl (q_pick) ?_
      refine AOps.nil ?_
      refine AWp.cond_t rfl ?_
      refine AWp.seq ?_
      refine AWp.region ?_
      refine AOps.cons rfl rfl (q_assign) ?_
      refine AOps.nil ?_
      refine AWp.ret ?_
      show Fin te Try.f17 _ _
      refine q_ret (0) [_] [_] ?_
      exact congrArg tf (by simp [canRf, canQ, canP, *])
  · skip
    refine AOps.cons rfl rfl (q_not) ?_
    refine AOps.cons rfl rfl (q_move) ?_
    refine AOps.gskip rfl rfl rfl rfl rfl rfl rfl rfl ?_
    refine AOps.gskip rfl rfl rfl rfl rfl rfl rfl rfl ?_
    refine AOps.gskip rfl rfl rfl rfl rfl rfl rfl rfl ?_
    refine AOps.gskip rfl rfl rfl rfl rfl rfl rfl rfl ?_
    refine AOps.cons rfl rfl (q_pick) ?_
    refine AOps.cons rfl rfl (q_move) ?_
    refine AOps.gskip rfl rfl rfl rfl rfl rfl rfl rfl ?_
    refine AOps.gskip rfl rfl rfl rfl rfl rfl rfl rfl ?_
    refine AOps.gskip rfl rfl rfl rfl rfl rfl rfl rfl ?_
    refine AOps.gskip rfl rfl rfl rfl rfl rfl rfl rfl ?_
    refine AOps.cons rfl rfl (q_pick) ?_
    refine AOps.cons rfl rfl (q_move) ?_
    refine AOps.gskip rfl rfl rfl rfl rfl rfl rfl rfl ?_
    refine AOps.gskip rfl rfl rfl rfl rfl rfl rfl rfl ?_
    refine AOps.gskip rfl rfl rfl rfl rfl rfl rfl rfl ?_
    refine AOps.cons rfl rfl (q_pick) ?_
    refine AOps.cons rfl rfl (q_move) ?_
    refine AOps.gskip rfl rfl rfl rfl rfl rfl rfl rfl ?_
    refine AOps.gskip rfl rfl rfl rfl rfl rfl rfl rfl ?_
    refine AOps.gskip rfl rfl rfl rfl rfl rfl rfl rfl ?_
    refine AOps.cons rfl rfl (q_pick) ?_
    refine AOps.cons rfl rfl (q_move) ?_
    refine AOps.gskip rfl rfl rfl rfl rfl rfl rfl rfl ?_
    refine AOps.gskip rfl rfl rfl rfl rfl rfl rfl rfl ?_
    refine AOps.gskip rfl rfl rfl rfl rfl rfl rfl rfl ?_
    refine AOps.cons rfl rfl (q_pick) ?_
    refine AOps.cons rfl rfl (q_move) ?_
    refine AOps.gskip rfl rfl rfl rfl rfl rfl rfl rfl ?_
    refine AOps.gskip rfl rfl rfl rfl rfl rfl rfl rfl ?_
    refine AOps.gskip rfl rfl rfl rfl rfl rfl rfl rfl ?_
    refine AOps.cons rfl rfl (q_pick) ?_
    refine AOps.cons rfl rfl (q_move) ?_
    refine AOps.gskip rfl rfl rfl rfl rfl rfl rfl rfl ?_
    refine AOps.gskip rfl rfl rfl rfl rfl rfl rfl rfl ?_
    refine AOps.gskip rfl rfl rfl rfl rfl rfl rfl rfl ?_
    refine AOps.gskip rfl rfl rfl rfl rfl rfl rfl rfl ?_
    refine AOps.cons rfl rfl (q_pick) ?_
    refine AOps.nil ?_
    refine AWp.cond_t rfl ?_
    refine AWp.seq ?_
    refine AWp.region ?_
    refine AOps.cons rfl rfl (q_assign) ?_
    refine AOps.nil ?_
    refine AWp.ret ?_
    show Fin te Try.f17 _ _
    refine q_ret (0) [_] [_] ?_
    exact congrArg tf (by simp [canRf, canQ, canP, *])

end Go.Proofs.Ytaemmklgofddmaa.Fw

/- Walks of layer 8: the reference: entries. -/
set_option linter.unusedVariables false
set_option linter.unusedSimpArgs false
namespace Go.Proofs.Ytaemmklgofddmaa.Fw
open Go.RowKit


theorem canRf_nat {x : ESet} (hx : SetOk x) (h : canE x = true) : Nat0 x := by
  rw [← canRf_eq hx] at h
  simp only [canRf, Bool.and_eq_true] at h
  exact (nat0_of h.1).1
theorem delO_iff {x : ESet} (h : delO x = true) : x.nm.length ≤ 255 ∧ (0 ≤ x.ty ∧ x.ty ≤ 65535) ∧ 0 ≤ x.cs ∧ x.cs ≤ 65535 := by
  simp only [delO, Bool.and_eq_true] at h
  obtain ⟨a, b, c⟩ := keyO_iff.1 h.1
  exact ⟨canN_len a, shortB_iff.1 b, shortB_iff.1 c⟩

set_option maxRecDepth 20000 in
theorem c_RCan_put (x : ESet) (hx : SetOk x) : AC Try.prog 24 [.agg (tf false :: setC x)] emp (Ret (tf (canE x))) := by
  refine AC.intro te_ok (fn := Try.f24) ⟨Try.func24, rfl, rfl⟩ (Nat.le_of_ble_eq_true rfl) ?_
  refine AWp.seq ?_
  refine AWp.region ?_
  refine AOps.cons rfl rfl (q_box 100) ?_
  refine AOps.cons rfl rfl (q_assign) ?_
  refine AOps.nil ?_
  refine AWp.seq ?_
  refine AWp.seq ?_
  refine AWp.region ?_
  refine AOps.cons rfl rfl (q_fa) ?_
  refine AOps.cons rfl rfl ((OpOk.bool_is (c := false) (q_load) (rfl))) ?_
  refine AOps.cons rfl rfl (q_not) ?_
  refine AOps.nil ?_
  refine AWp.cond_t rfl ?_
  refine AWp.seq ?_
  refine AWp.region ?_
  refine AOps.cons rfl rfl (q_fa) ?_
  refine AOps.cons rfl rfl (q_load) ?_
  refine AOps.cons rfl rfl (q_call (0) (hc := (c_ciceroneref08_Can x hx))) ?_
  refine AOps.cons rfl rfl (q_assign) ?_
  refine AOps.nil ?_
  refine AWp.ret ?_
  show Fin te Try.f24 _ _
  refine q_ret (0) [_] [_] ?_
  rfl

set_option maxRecDepth 20000 in
theorem c_RCan_del (x : ESet) (hx : SetOk x) : AC Try.prog 24 [.agg (tf true :: setC x)] emp (Ret (tf (delO x))) := by
  obtain ⟨h1, _⟩ := id hx
  have hk := keyO_eq x
  refine AC.intro te_ok (fn := Try.f24) ⟨Try.func24, rfl, rfl⟩ (Nat.le_of_ble_eq_true rfl) ?_
  refine AWp.seq ?_
  refine AWp.region ?_
  refine AOps.cons rfl rfl (q_box 100) ?_
  refine AOps.cons rfl rfl (q_assign) ?_
  refine AOps.nil ?_
  refine AWp.seq ?_
  refine AWp.seq ?_
  refine AWp.region ?_
  refine AOps.cons rfl rfl (q_fa) ?_
  refine AOps.cons rfl rfl ((OpOk.bool_is (c := true) (q_load) (rfl))) ?_
  refine AOps.cons rfl rfl (q_not) ?_
  refine AOps.nil ?_
  refine AWp.cond_f rfl ?_
  refine AWp.skip ?_
  refine AWp.seq ?_
  refine AWp.region ?_
  refine AOps.cons rfl rfl (q_fa) ?_
  refine AOps.cons rfl rfl (q_load) ?_
  refine AOps.cons rfl rfl (q_alloc 402) ?_
  refine AOps.cons rfl rfl (q_store) ?_
  refine AOps.nil ?_
  refine AWp.seq ?_
  refine AWp.region ?_
  refine AOps.cons rfl rfl (q_fa) ?_
  refine AOps.cons rfl rfl (q_load) ?_
  refine AOps.bool rfl rfl (q_call (0) (hc := (c_ciceroneref01_Can x.nm (by omega)))) (fun h4_2 => ?_) (fun h4_2 => ?_)
  · skip
    refine AOps.cons rfl rfl (q_move) ?_
    refine AOps.gcons rfl rfl rfl rfl rfl (q_fa) ?_
    refine AOps.gcons rfl rfl rfl rfl rfl (q_load) ?_
    refine AOps.gbool rfl rfl rfl rfl rfl (q_call (0) (hc := c_ciceroneref08_short _)) (fun h4_6 => ?_) (fun h4_6 => ?_)
    · skip
      refine AOps.cons rfl rfl (q_pick) ?_
      refine AOps.cons rfl rfl (q_move) ?_
      refine AOps.gcons rfl rfl rfl rfl rfl (q_fa) ?_
      refine AOps.gcons rfl rfl rfl rfl rfl (q_load) ?_
      refine AOps.gbool rfl rfl rfl rfl rfl (q_call (0) (hc := c_ciceroneref08_short _)) (fun h4_11 => ?_) (fun h4_11 => ?_)
      · skip
        refine AOps.cons rfl rfl (q_pick) ?_
        refine AOps.cons rfl rfl (q_move) ?_
        refine AOps.gcons rfl rfl rfl rfl rfl (q_load) ?_
        refine AOps.gcons rfl rfl rfl rfl rfl (q_fa) ?_
        refine AOps.gcons rfl rfl rfl rfl rfl (q_load) ?_
        refine AOps.gcons rfl rfl rfl rfl rfl (q_fa) ?_
        refine AOps.gcons rfl rfl rfl rfl rfl (q_load) ?_
        refine AOps.gcons rfl rfl rfl rfl rfl (q_fa) ?_
        refine AOps.gcons rfl rfl rfl rfl rfl (q_load) ?_
        refine AOps.gcons rfl rfl rfl rfl rfl (q_build [(_, _), (_, _), (_, _)]) ?_
        refine AOps.gcons rfl rfl rfl rfl rfl (q_call (0) (hA := by exact ⟨fv_okb rfl rfl, fv_agg ⟨fv_okb rfl rfl, fv_okb rfl rfl, fv_okb rfl rfl, fv_okb rfl rfl, fv_okb rfl rfl, fv_okb rfl rfl, fv_okb rfl rfl, fv_nilz, trivial⟩, trivial⟩) (hc := (c_ciceroneref08_Same x (bare x) hx))) ?_
        refine AOps.cons rfl rfl (q_pick) ?_
        refine AOps.cons rfl rfl (q_assign) ?_
        refine AOps.nil ?_
        refine AWp.ret ?_
        show Fin te Try.f24 _ _
        refine q_ret (0) [_] [_] ?_
        exact congrArg tf (by simp [delO, hk, *])
      · skip
        refine AOps.cons rfl rfl (q_pick) ?_
        refine AOps.cons rfl rfl (q_move) ?_
        refine AOps.gskip rfl rfl rfl rfl rfl rfl rfl rfl ?_
        refine AOps.gskip rfl rfl rfl rfl rfl rfl rfl rfl ?_
        refine AOps.gskip rfl rfl rfl rfl rfl rfl rfl rfl ?_
        refine AOps.gskip rfl rfl rfl rfl rfl rfl rfl rfl ?_
        refine AOps.gskip rfl rfl rfl rfl rfl rfl rfl rfl ?_
        refine AOps.gskip rfl rfl rfl rfl rfl rfl rfl rfl ?_
        refine AOps.gskip rfl rfl rfl rfl rfl rfl rfl rfl ?_
        refine AOps.gskip rfl rfl rfl rfl rfl rfl rfl rfl ?_
        refine AOps.gskip rfl rfl rfl rfl rfl rfl rfl rfl ?_
        refine AOps.cons rfl rfl (q_pick) ?_
        refine AOps.cons rfl rfl (q_assign) ?_
        refine AOps.nil ?_
        refine AWp.ret ?_
        show Fin te Try.f24 _ _
        refine q_ret (0) [_] [_] ?_
        exact congrArg tf (by simp [delO, hk, *])
    · skip
      refine AOps.cons rfl rfl (q_pick) ?_
      refine AOps.cons rfl rfl (q_move) ?_
      refine AOps.gskip rfl rfl rfl rfl rfl rfl rfl rfl ?_
      refine AOps.gskip rfl rfl rfl rfl rfl rfl rfl rfl ?_
      refine AOps.gskip rfl rfl rfl rfl rfl rfl rfl rfl ?_
      refine AOps.cons rfl rfl (q_pick) ?_
      refine AOps.cons rfl rfl (q_move) ?_
      refine AOps.gskip rfl rfl rfl rfl rfl rfl rfl rfl ?_
      refine AOps.gskip rfl rfl rfl rfl rfl rfl rfl rfl ?_
      refine AOps.gskip rfl rfl rfl rfl rfl rfl rfl rfl ?_
      refine AOps.gskip rfl rfl rfl rfl rfl rfl rfl rfl ?_
      refine AOps.gskip rfl rfl rfl rfl rfl rfl rfl rfl ?_
      refine AOps.gskip rfl rfl rfl rfl rfl rfl rfl rfl ?_
      refine AOps.gskip rfl rfl rfl rfl rfl rfl rfl rfl ?_
      refine AOps.gskip rfl rfl rfl rfl rfl rfl rfl rfl ?_
      refine AOps.gskip rfl rfl rfl rfl rfl rfl rfl rfl ?_
      refine AOps.cons rfl rfl (q_pick) ?_
      refine AOps.cons rfl rfl (q_assign) ?_
      refine AOps.nil ?_
      refine AWp.ret ?_
      show Fin te Try.f24 _ _
      refine q_ret (0) [_] [_] ?_
      exact congrArg tf (by simp [delO, hk, *])
  · skip
    refine AOps.cons rfl rfl (q_move) ?_
    refine AOps.gskip rfl rfl rfl rfl rfl rfl rfl rfl ?_
    refine AOps.gskip rfl rfl rfl rfl rfl rfl rfl rfl ?_
    refine AOps.gskip rfl rfl rfl rfl rfl rfl rfl rfl ?_
    refine AOps.cons rfl rfl (q_pick) ?_
    refine AOps.cons rfl rfl (q_move) ?_
    refine AOps.gskip rfl rfl rfl rfl rfl rfl rfl rfl ?_
    refine AOps.gskip rfl rfl rfl rfl rfl rfl rfl rfl ?_
    refine AOps.gskip rfl rfl rfl rfl rfl rfl rfl rfl ?_
    refine AOps.cons rfl rfl (q_pick) ?_
    refine AOps.cons rfl rfl (q_move) ?_
    refine AOps.gskip rfl rfl rfl rfl rfl rfl rfl rfl ?_
    refine AOps.gskip rfl rfl rfl rfl rfl rfl rfl rfl ?_
    refine AOps.gskip rfl rfl rfl rfl rfl rfl rfl rfl ?_
    refine AOps.gskip rfl rfl rfl rfl rfl rfl rfl rfl ?_
    refine AOps.gskip rfl rfl rfl rfl rfl rfl rfl rfl ?_
    refine AOps.gskip rfl rfl rfl rfl rfl rfl rfl rfl ?_
    refine AOps.gskip rfl rfl rfl rfl rfl rfl rfl rfl ?_
    refine AOps.gskip rfl rfl rfl rfl rfl rfl rfl rfl ?_
    refine AOps.gskip rfl rfl rfl rfl rfl rfl rfl rfl ?_
    refine AOps.cons rfl rfl (q_pick) ?_
    refine AOps.cons rfl rfl (q_assign) ?_
    refine AOps.nil ?_
    refine AWp.ret ?_
    show Fin te Try.f24 _ _
    refine q_ret (0) [_] [_] ?_
    exact congrArg tf (by simp [delO, hk, *])

set_option maxRecDepth 20000 in
theorem c_REncode_put (x : ESet) (hx : SetOk x) : AC Try.prog 14 [.agg (tf false :: setC x)] emp (Ret (.tup [.fz 0 (encB false x).length (cl bc (encB false x)), i64 (encE false x)])) := by
  refine AC.intro te_ok (fn := Try.f14) ⟨Try.func14, rfl, rfl⟩ (Nat.le_of_ble_eq_true rfl) ?_
  refine AWp.seq ?_
  refine AWp.region ?_
  refine AOps.cons rfl rfl (q_box 100) ?_
  refine AOps.cons rfl rfl (q_nilz (0) bc) ?_
  refine AOps.cons rfl rfl (q_assign) ?_
  refine AOps.nil ?_
  refine AWp.seq ?_
  refine AWp.seq ?_
  refine AWp.region ?_
  refine AOps.cons rfl rfl (q_load) ?_
  refine AOps.bool rfl rfl (q_call (0) (hc := (c_RCan_put x hx))) (fun h1_1 => ?_) (fun h1_1 => ?_)
  · skip
    refine AOps.cons rfl rfl (q_not) ?_
    refine AOps.nil ?_
    refine AWp.cond_f rfl ?_
    refine AWp.skip ?_
    refine AWp.seq ?_
    refine AWp.region ?_
    refine AOps.cons rfl rfl (q_load) ?_
    refine AOps.cons rfl rfl (q_call (0) (hc := (c_bytes_put x (canE_small hx h1_1).1 (canRf_nat hx h1_1)))) ?_
    refine AOps.cons rfl rfl (q_assign) ?_
    refine AOps.cons rfl rfl (q_assign) ?_
    refine AOps.nil ?_
    refine AWp.ret ?_
    show Fin te Try.f14 _ _
    refine q_ret (0) [_, _] [_, _] ?_
    have e : entO false x = true := h1_1
    rw [encB, encE, e]; rfl
  · skip
    refine AOps.cons rfl rfl (q_not) ?_
    refine AOps.nil ?_
    refine AWp.cond_t rfl ?_
    refine AWp.seq ?_
    refine AWp.region ?_
    refine AOps.cons rfl rfl (q_nilz (0) bc) ?_
    refine AOps.cons rfl rfl (q_assign) ?_
    refine AOps.nil ?_
    refine AWp.ret ?_
    show Fin te Try.f14 _ _
    refine q_ret (0) [_, _] [_, _] ?_
    have e : entO false x = false := h1_1
    rw [encB, encE, e]; rfl

set_option maxRecDepth 20000 in
theorem c_REncode_del (x : ESet) (hx : SetOk x) : AC Try.prog 14 [.agg (tf true :: setC x)] emp (Ret (.tup [.fz 0 (encB true x).length (cl bc (encB true x)), i64 (encE true x)])) := by
  refine AC.intro te_ok (fn := Try.f14) ⟨Try.func14, rfl, rfl⟩ (Nat.le_of_ble_eq_true rfl) ?_
  refine AWp.seq ?_
  refine AWp.region ?_
  refine AOps.cons rfl rfl (q_box 100) ?_
  refine AOps.cons rfl rfl (q_nilz (0) bc) ?_
  refine AOps.cons rfl rfl (q_assign) ?_
  refine AOps.nil ?_
  refine AWp.seq ?_
  refine AWp.seq ?_
  refine AWp.region ?_
  refine AOps.cons rfl rfl (q_load) ?_
  refine AOps.bool rfl rfl (q_call (0) (hc := (c_RCan_del x hx))) (fun h1_1 => ?_) (fun h1_1 => ?_)
  · skip
    refine AOps.cons rfl rfl (q_not) ?_
    refine AOps.nil ?_
    refine AWp.cond_f rfl ?_
    refine AWp.skip ?_
    refine AWp.seq ?_
    refine AWp.region ?_
    refine AOps.cons rfl rfl (q_load) ?_
    refine AOps.cons rfl rfl (q_call (0) (hc := (c_bytes_del x (by have := (delO_iff h1_1).1; omega) (delO_iff h1_1).2.1 (delO_iff h1_1).2.2))) ?_
    refine AOps.cons rfl rfl (q_assign) ?_
    refine AOps.cons rfl rfl (q_assign) ?_
    refine AOps.nil ?_
    refine AWp.ret ?_
    show Fin te Try.f14 _ _
    refine q_ret (0) [_, _] [_, _] ?_
    have e : entO true x = true := h1_1
    rw [encB, encE, e]; rfl
  · skip
    refine AOps.cons rfl rfl (q_not) ?_
    refine AOps.nil ?_
    refine AWp.cond_t rfl ?_
    refine AWp.seq ?_
    refine AWp.region ?_
    refine AOps.cons rfl rfl (q_nilz (0) bc) ?_
    refine AOps.cons rfl rfl (q_assign) ?_
    refine AOps.nil ?_
    refine AWp.ret ?_
    show Fin te Try.f14 _ _
    refine q_ret (0) [_, _] [_, _] ?_
    have e : entO true x = false := h1_1
    rw [encB, encE, e]; rfl


theorem c_REncodeA (d : Bool) (x : ESet) (hx : SetOk x) : AC Try.prog 14 [.agg (tf d :: setC x)] emp (Ret (.tup [.fz 0 (encB d x).length (cl bc (encB d x)), i64 (encE d x)])) := by
  cases d
  · exact c_REncode_put x hx
  · exact c_REncode_del x hx
theorem c_RCanA (d : Bool) (x : ESet) (hx : SetOk x) : AC Try.prog 24 [.agg (tf d :: setC x)] emp (Ret (tf (entO d x))) := by
  cases d
  · exact c_RCan_put x hx
  · exact c_RCan_del x hx

end Go.Proofs.Ytaemmklgofddmaa.Fw

/- Walks of layer 8: readers. -/
set_option linter.unusedVariables false
set_option linter.unusedSimpArgs false
namespace Go.Proofs.Ytaemmklgofddmaa.Fw
open Go.RowKit


/-- Bytes that are left; short ones make it bad. -/
structure Rd where
  l : List UInt8
  bad : Bool
  deriving Inhabited
def Rd.x (r : Rd) (n : Int) : Bool := r.bad || decide ((r.l.length : Int) < n)
def Rd.tk (r : Rd) (n : Int) : List UInt8 := if r.x n then [] else r.l.take n.toNat
def Rd.go (r : Rd) (n : Int) : Rd := if r.x n then ⟨r.l, true⟩ else ⟨r.l.drop n.toNat, false⟩
theorem Rd.tk_no {r : Rd} {n : Int} (h : r.x n = true) : r.tk n = [] := if_pos h
theorem Rd.go_no {r : Rd} {n : Int} (h : r.x n = true) : r.go n = ⟨r.l, true⟩ := if_pos h
theorem Rd.tk_yes {r : Rd} {n : Int} (h : r.x n = false) : r.tk n = r.l.take n.toNat := if_neg (by simp [h])
theorem Rd.go_yes {r : Rd} {n : Int} (h : r.x n = false) : r.go n = ⟨r.l.drop n.toNat, false⟩ := if_neg (by simp [h])
theorem Rd.go_len (r : Rd) (n : Int) : (r.go n).l.length ≤ r.l.length := by
  unfold Rd.go; split
  · exact Nat.le_refl _
  · rw [List.length_drop]; omega
theorem Rd.tk_len (r : Rd) (n : Int) : (r.tk n).length ≤ n.toNat ∧ (r.tk n).length ≤ r.l.length := by
  unfold Rd.tk; split
  · simp
  · rw [List.length_take]; omega
def beV (l : List UInt8) : Int := l.foldl (fun n x => n * 256 + (x.toNat : Int)) 0
theorem beV_snoc (l : List UInt8) (b : UInt8) : beV (l ++ [b]) = beV l * 256 + b.toNat := by simp [beV]
theorem beV_step {l : List UInt8} {i : Nat} (h : i < l.length) : beV (l.take (i + 1)) = beV (l.take i) * 256 + (l.getD i default).toNat := by rw [take_step' h, beV_snoc]
theorem beV_bound {l : List UInt8} : ∀ i, i ≤ l.length → 0 ≤ beV (l.take i) ∧ beV (l.take i) < 256 ^ i := by
  intro i
  induction i with
  | zero => intro _; exact ⟨Int.le_refl _, by simp [beV]⟩
  | succ i ih =>
    intro hi
    have h1 := ih (by omega)
    have h2 := (l.getD i default).toNat_lt
    rw [beV_step (by omega), Int.pow_succ]
    exact ⟨by omega, by omega⟩
theorem p256le {i : Nat} (h : i ≤ 8) : (256 : Int) ^ i ≤ 18446744073709551616 := by
  rcases (show i = 0 ∨ i = 1 ∨ i = 2 ∨ i = 3 ∨ i = 4 ∨ i = 5 ∨ i = 6 ∨ i = 7 ∨ i = 8 by omega) with rfl | rfl | rfl | rfl | rfl | rfl | rfl | rfl | rfl <;> decide
theorem p256lt {i : Nat} (h : i < 8) : (256 : Int) ^ i ≤ 72057594037927936 := by
  rcases (show i = 0 ∨ i = 1 ∨ i = 2 ∨ i = 3 ∨ i = 4 ∨ i = 5 ∨ i = 6 ∨ i = 7 by omega) with rfl | rfl | rfl | rfl | rfl | rfl | rfl | rfl <;> decide
def numV (b : List UInt8) : Int := if 4611686018427387904 < beV b then -1 else beV b

set_option maxRecDepth 20000 in
theorem c_take (r : Rd) (n : Int) (hn : 0 ≤ n) : AC Try.prog 46 [.ptr 0 0 0, i64 n] (hlook [(0, .box [.fz 0 r.l.length (cl bc r.l), tf r.bad])]) (RetH (.fz 0 (r.tk n).length (cl bc (r.tk n))) [(0, .box [.fz 0 (r.go n).l.length (cl bc (r.go n).l), tf (r.go n).bad])]) := by
  refine AC.intro te_ok (fn := Try.f46) ⟨Try.func46, rfl, rfl⟩ (Nat.le_of_ble_eq_true rfl) ?_
  refine AWp.seq ?_
  refine AWp.region ?_
  refine AOps.cons rfl rfl (q_assign) ?_
  refine AOps.nil ?_
  refine AWp.seq ?_
  refine AWp.seq ?_
  refine AWp.region ?_
  refine AOps.cons rfl rfl (q_move) ?_
  refine AOps.cons rfl rfl (q_move) ?_
  refine AOps.cons rfl rfl (q_nil) ?_
  refine AOps.cons rfl rfl (q_fa) ?_
  refine AOps.bool rfl rfl (q_load) (fun h1_4 => ?_) (fun h1_4 => ?_)
  · skip
    refine AOps.cons rfl rfl (q_move) ?_
    refine AOps.gskip rfl rfl rfl rfl rfl rfl rfl rfl ?_
    refine AOps.gskip rfl rfl rfl rfl rfl rfl rfl rfl ?_
    refine AOps.gskip rfl rfl rfl rfl rfl rfl rfl rfl ?_
    refine AOps.gskip rfl rfl rfl rfl rfl rfl rfl rfl ?_
    refine AOps.gskip rfl rfl rfl rfl rfl rfl rfl rfl ?_
    refine AOps.gskip rfl rfl rfl rfl rfl rfl rfl rfl ?_
    refine AOps.gskip rfl rfl rfl rfl rfl rfl rfl rfl ?_
    refine AOps.cons rfl rfl (q_pick) ?_
    refine AOps.cons rfl rfl (q_nil) ?_
    refine AOps.cons rfl rfl (q_fa) ?_
    refine AOps.cons rfl rfl (q_store) ?_
    refine AOps.nil ?_
    refine AWp.seq ?_
    refine AWp.region ?_
    refine AOps.cons rfl rfl (q_move) ?_
    refine AOps.cons rfl rfl (q_nil) ?_
    refine AOps.cons rfl rfl (q_fa) ?_
    refine AOps.cons rfl rfl ((OpOk.bool_is (c := true) (q_load) (rfl))) ?_
    refine AOps.nil ?_
    refine AWp.cond_t rfl ?_
    refine AWp.seq ?_
    refine AWp.region ?_
    refine AOps.cons rfl rfl (q_assign) ?_
    refine AOps.nil ?_
    refine AWp.ret ?_
    show Fin te Try.f46 _ _
    have e : r.x n = true := by simp [Rd.x, *]
    rw [Rd.tk_no e, Rd.go_no e]
    refine q_retH 0 [] [_] [.fz 0 ([] : List UInt8).length (cl bc [])] [(0, .box [_, _])] ?_
    rfl
  · skip
    refine AOps.cons rfl rfl (q_move) ?_
    refine AOps.gcons rfl rfl rfl rfl rfl (q_move) ?_
    refine AOps.gcons rfl rfl rfl rfl rfl (q_move) ?_
    refine AOps.gcons rfl rfl rfl rfl rfl (q_nil) ?_
    refine AOps.gcons rfl rfl rfl rfl rfl (q_fa) ?_
    refine AOps.gcons rfl rfl rfl rfl rfl (q_load) ?_
    refine AOps.gcons rfl rfl rfl rfl rfl (q_len) ?_
    refine AOps.gcons rfl rfl rfl rfl rfl (q_gtr) ?_
    refine AOps.cons rfl rfl (q_pick) ?_
    refine AOps.cons rfl rfl (q_nil) ?_
    refine AOps.cons rfl rfl (q_fa) ?_
    refine AOps.cons rfl rfl (q_store) ?_
    refine AOps.nil ?_
    refine AWp.seq ?_
    refine AWp.region ?_
    refine AOps.cons rfl rfl (q_move) ?_
    refine AOps.cons rfl rfl (q_nil) ?_
    refine AOps.cons rfl rfl (q_fa) ?_
    refine AOps.bool rfl rfl (q_load) (fun h2_3 => ?_) (fun h2_3 => ?_)
    · skip
      refine AOps.nil ?_
      refine AWp.cond_t rfl ?_
      refine AWp.seq ?_
      refine AWp.region ?_
      refine AOps.cons rfl rfl (q_assign) ?_
      refine AOps.nil ?_
      refine AWp.ret ?_
      show Fin te Try.f46 _ _
      have e : r.x n = true := by simp [Rd.x, *]
      rw [Rd.tk_no e, Rd.go_no e, h2_3]
      refine q_retH 0 [] [_] [.fz 0 ([] : List UInt8).length (cl bc [])] [(0, .box [_, _])] ?_
      rfl
    · skip
      refine AOps.nil ?_
      refine AWp.cond_f rfl ?_
      refine AWp.skip ?_
      refine AWp.seq ?_
      refine AWp.region ?_
      have hle : ¬ (r.l.length : Int) < n := by simpa using h2_3
      refine AOps.cons rfl rfl (q_move) ?_
      refine AOps.cons rfl rfl (q_nil) ?_
      refine AOps.cons rfl rfl (q_fa) ?_
      refine AOps.cons rfl rfl (q_load) ?_
      refine AOps.cons rfl rfl (q_move) ?_
      refine AOps.cons rfl rfl (q_move) ?_
      refine AOps.cons rfl rfl (q_sl3) ?_
      refine AOps.cons rfl rfl (q_assign) ?_
      refine AOps.nil ?_
      refine AWp.seq ?_
      refine AWp.region ?_
      refine AOps.cons rfl rfl (q_move) ?_
      refine AOps.cons rfl rfl (q_move) ?_
      refine AOps.cons rfl rfl (q_nil) ?_
      refine AOps.cons rfl rfl (q_fa) ?_
      refine AOps.cons rfl rfl (q_load) ?_
      refine AOps.cons rfl rfl (q_move) ?_
      refine AOps.cons rfl rfl (q_sl) ?_
      refine AOps.cons rfl rfl (q_nil) ?_
      refine AOps.cons rfl rfl (q_fa) ?_
      refine AOps.cons rfl rfl (q_store) ?_
      refine AOps.nil ?_
      refine AWp.seq ?_
      refine AWp.region ?_
      refine AOps.cons rfl rfl (q_move) ?_
      refine AOps.cons rfl rfl (q_assign) ?_
      refine AOps.nil ?_
      refine AWp.ret ?_
      show Fin te Try.f46 _ _
      have e : r.x n = false := by simp [Rd.x, *]; try omega
      rw [Rd.tk_yes e, Rd.go_yes e, h2_3]
      refine q_retH 0 [] [_] [_] [(_, _)] ?_
      rfl

set_option maxRecDepth 20000 in
theorem c_rtake (r : Rd) (n : Int) (hn : 0 ≤ n) : AC Try.prog 48 [.ptr 0 0 0, i64 n] (hlook [(0, .box [.fz 0 r.l.length (cl bc r.l), tf r.bad])]) (RetH (.fz 0 (r.tk n).length (cl bc (r.tk n))) [(0, .box [.fz 0 (r.go n).l.length (cl bc (r.go n).l), tf (r.go n).bad])]) := by
  refine AC.intro te_ok (fn := Try.f48) ⟨Try.func48, rfl, rfl⟩ (Nat.le_of_ble_eq_true rfl) ?_
  refine AWp.seq ?_
  refine AWp.region ?_
  refine AOps.cons rfl rfl (q_assign) ?_
  refine AOps.nil ?_
  refine AWp.seq ?_
  refine AWp.seq ?_
  refine AWp.region ?_
  refine AOps.cons rfl rfl (q_move) ?_
  refine AOps.cons rfl rfl (q_nil) ?_
  refine AOps.cons rfl rfl (q_fa) ?_
  refine AOps.bool rfl rfl (q_load) (fun h1_3 => ?_) (fun h1_3 => ?_)
  · skip
    refine AOps.cons rfl rfl (q_move) ?_
    refine AOps.gskip rfl rfl rfl rfl rfl rfl rfl rfl ?_
    refine AOps.gskip rfl rfl rfl rfl rfl rfl rfl rfl ?_
    refine AOps.gskip rfl rfl rfl rfl rfl rfl rfl rfl ?_
    refine AOps.gskip rfl rfl rfl rfl rfl rfl rfl rfl ?_
    refine AOps.gskip rfl rfl rfl rfl rfl rfl rfl rfl ?_
    refine AOps.gskip rfl rfl rfl rfl rfl rfl rfl rfl ?_
    refine AOps.gskip rfl rfl rfl rfl rfl rfl rfl rfl ?_
    refine AOps.cons rfl rfl (q_pick) ?_
    refine AOps.nil ?_
    refine AWp.cond_t rfl ?_
    refine AWp.seq ?_
    refine AWp.region ?_
    refine AOps.cons rfl rfl (q_move) ?_
    refine AOps.cons rfl rfl (q_nil) ?_
    refine AOps.cons rfl rfl (q_fa) ?_
    refine AOps.cons rfl rfl (q_store) ?_
    refine AOps.nil ?_
    refine AWp.seq ?_
    refine AWp.region ?_
    refine AOps.cons rfl rfl (q_assign) ?_
    refine AOps.nil ?_
    refine AWp.ret ?_
    show Fin te Try.f48 _ _
    have e : r.x n = true := by simp [Rd.x, *]
    rw [Rd.tk_no e, Rd.go_no e]
    refine q_retH 0 [] [_] [.fz 0 ([] : List UInt8).length (cl bc [])] [(0, .box [_, _])] ?_
    rfl
  · skip
    refine AOps.cons rfl rfl (q_move) ?_
    refine AOps.gcons rfl rfl rfl rfl rfl (q_move) ?_
    refine AOps.gcons rfl rfl rfl rfl rfl (q_move) ?_
    refine AOps.gcons rfl rfl rfl rfl rfl (q_nil) ?_
    refine AOps.gcons rfl rfl rfl rfl rfl (q_fa) ?_
    refine AOps.gcons rfl rfl rfl rfl rfl (q_load) ?_
    refine AOps.gcons rfl rfl rfl rfl rfl (q_len) ?_
    refine AOps.gdec rfl rfl rfl rfl rfl (q_gtr) (fun h1_11 => ?_) (fun h1_11 => ?_)
    · skip
      refine AOps.cons rfl rfl (q_pick) ?_
      refine AOps.nil ?_
      refine AWp.cond_t rfl ?_
      refine AWp.seq ?_
      refine AWp.region ?_
      refine AOps.cons rfl rfl (q_move) ?_
      refine AOps.cons rfl rfl (q_nil) ?_
      refine AOps.cons rfl rfl (q_fa) ?_
      refine AOps.cons rfl rfl (q_store) ?_
      refine AOps.nil ?_
      refine AWp.seq ?_
      refine AWp.region ?_
      refine AOps.cons rfl rfl (q_assign) ?_
      refine AOps.nil ?_
      refine AWp.ret ?_
      show Fin te Try.f48 _ _
      have e : r.x n = true := by simp [Rd.x, *]
      rw [Rd.tk_no e, Rd.go_no e]
      refine q_retH 0 [] [_] [.fz 0 ([] : List UInt8).length (cl bc [])] [(0, .box [_, _])] ?_
      rfl
    · skip
      refine AOps.cons rfl rfl (q_pick) ?_
      refine AOps.nil ?_
      refine AWp.cond_f rfl ?_
      refine AWp.skip ?_
      refine AWp.seq ?_
      refine AWp.region ?_
      refine AOps.cons rfl rfl (q_move) ?_
      refine AOps.cons rfl rfl (q_nil) ?_
      refine AOps.cons rfl rfl (q_fa) ?_
      refine AOps.cons rfl rfl (q_load) ?_
      refine AOps.cons rfl rfl (q_move) ?_
      refine AOps.cons rfl rfl (q_sl) ?_
      refine AOps.cons rfl rfl (q_assign) ?_
      refine AOps.nil ?_
      refine AWp.seq ?_
      refine AWp.region ?_
      refine AOps.cons rfl rfl (q_move) ?_
      refine AOps.cons rfl rfl (q_move) ?_
      refine AOps.cons rfl rfl (q_nil) ?_
      refine AOps.cons rfl rfl (q_fa) ?_
      refine AOps.cons rfl rfl (q_load) ?_
      refine AOps.cons rfl rfl (q_move) ?_
      refine AOps.cons rfl rfl (q_sl) ?_
      refine AOps.cons rfl rfl (q_nil) ?_
      refine AOps.cons rfl rfl (q_fa) ?_
      refine AOps.cons rfl rfl (q_store) ?_
      refine AOps.nil ?_
      refine AWp.seq ?_
      refine AWp.region ?_
      refine AOps.cons rfl rfl (q_move) ?_
      refine AOps.cons rfl rfl (q_assign) ?_
      refine AOps.nil ?_
      refine AWp.ret ?_
      show Fin te Try.f48 _ _
      have e : r.x n = false := by simp [Rd.x, *]; try omega
      rw [Rd.tk_yes e, Rd.go_yes e, h1_3]
      refine q_retH 0 [] [_] [_] [(_, _)] ?_
      rfl

end Go.Proofs.Ytaemmklgofddmaa.Fw

/- Walks of layer 8: readers' numbers. -/
set_option linter.unusedVariables false
set_option linter.unusedSimpArgs false
namespace Go.Proofs.Ytaemmklgofddmaa.Fw
open Go.RowKit


/-- The reference's number: one that is too great makes it bad. -/
def nbad (b : List UInt8) : Bool := decide (1125899906842624 ≤ beV (b.take (b.length - 1)))
def rnumV (b : List UInt8) : Int := if nbad b then 0 else beV b
def Rd.rgo (r : Rd) (w : Nat) : Rd := if nbad (r.tk w) then ⟨(r.go w).l, true⟩ else r.go w
theorem Rd.rgo_t {r : Rd} {w : Nat} (h : nbad (r.tk w) = true) : r.rgo w = ⟨(r.go w).l, true⟩ := if_pos h
theorem Rd.rgo_f {r : Rd} {w : Nat} (h : nbad (r.tk w) = false) : r.rgo w = r.go w := if_neg (by simp [h])
theorem rnumV_t {b : List UInt8} (h : nbad b = true) : rnumV b = 0 := if_pos h
theorem rnumV_f {b : List UInt8} (h : nbad b = false) : rnumV b = beV b := if_neg (by simp [h])
theorem beV_mono {l : List UInt8} {i j : Nat} (h : i ≤ j) (hj : j ≤ l.length) : beV (l.take i) ≤ beV (l.take j) := by
  induction j with
  | zero => obtain rfl : i = 0 := by omega
            exact Int.le_refl _
  | succ j ih =>
    by_cases e : i = j + 1
    · subst e; exact Int.le_refl _
    · have h1 := ih (by omega) (by omega)
      have h2 := (beV_bound (l := l) j (by omega)).1
      rw [beV_step (by omega)]
      have h3 := (l.getD j default).toNat_lt
      omega
theorem nbad_t {l : List UInt8} {i : Nat} (h : i < l.length) (hb : 1125899906842624 ≤ beV (l.take i)) : nbad l = true :=
  decide_eq_true (Int.le_trans hb (beV_mono (by omega) (by omega)))
theorem nbad_f {l : List UInt8} (h : ∀ i, i < l.length → beV (l.take i) < 1125899906842624) : nbad l = false := by
  refine decide_eq_false ?_
  by_cases e : l.length = 0
  · have : l = [] := List.length_eq_zero_iff.1 e
    subst this; decide
  · have := h (l.length - 1) (by omega)
    omega

set_option maxRecDepth 20000 in
theorem c_rnum (r : Rd) (w : Nat) (hw : w ≤ 8) : AC Try.prog 45 [.ptr 0 0 0, i64 w] (hlook [(0, .box [.fz 0 r.l.length (cl bc r.l), tf r.bad])]) (RetH (i64 (numV (r.tk w))) [(0, .box [.fz 0 (r.go w).l.length (cl bc (r.go w).l), tf (r.go w).bad])]) := by
  have hbl : (r.tk w).length ≤ w := by simpa using (Rd.tk_len r (w : Int)).1
  refine AC.intro te_ok (fn := Try.f45) ⟨Try.func45, rfl, rfl⟩ (Nat.le_of_ble_eq_true rfl) ?_
  refine AWp.seq ?_
  refine AWp.region ?_
  refine AOps.cons rfl rfl (q_assign) ?_
  refine AOps.nil ?_
  refine AWp.seq ?_
  refine AWp.region ?_
  refine AOps.cons rfl rfl (q_assign) ?_
  refine AOps.nil ?_
  refine AWp.seq ?_
  refine AWp.seq ?_
  refine AWp.region ?_
  refine AOps.cons rfl rfl (q_move) ?_
  refine AOps.cons rfl rfl (q_move) ?_
  refine AOps.cons rfl rfl (q_callB (0) [(0, 0)] [] [(_, _)] (hc := (c_take r w (by omega)))) ?_
  refine AOps.cons rfl rfl (q_len) ?_
  refine AOps.cons rfl rfl (q_move) ?_
  refine AOps.nil ?_
  refine AWp.block ?_
  refine AWp.loopR (α := Nat) [5, 7, 12, 13, 14, 15, 16, 17, 18, 19, 20, 21] (fun i => [(12, i64 i), (5, .v (.int .u64 (beV ((r.tk w).take i))))]) (fun i => []) (fun i => i ≤ (r.tk w).length) (fun i => (r.tk w).length - i) 0 ?_ (Back.mk' (HasT.cons (HasT.cons HasT.nil)) HasH.nil) ?_
  · exact Nat.zero_le _
  · rintro i hi
    refine AWp.seq ?_
    refine AWp.region ?_
    refine AOps.dec rfl rfl (q_lss) (fun h3_0 => ?_) (fun h3_0 => ?_)
    · skip
      refine AOps.nil ?_
      refine AWp.seq ?_
      refine AWp.cond_t rfl ?_
      refine AWp.skip ?_
      refine AWp.seq ?_
      refine AWp.block ?_
      refine AWp.seq ?_
      refine AWp.region ?_
      refine AOps.cons rfl rfl (q_ix) ?_
      refine AOps.cons rfl rfl (q_load) ?_
      refine AOps.cons rfl rfl (q_assign) ?_
      refine AOps.nil ?_
      refine AWp.region ?_
      have hb := beV_bound (l := r.tk w) i (by omega)
      have hp := p256lt (i := i) (by omega)
      have hc := ((r.tk w).getD i default).toNat_lt
      have hc2 := ((r.tk w)[i]?.getD default).toNat_lt
      refine AOps.cons rfl rfl (q_move) ?_
      refine AOps.cons rfl rfl (q_shlu8) ?_
      refine AOps.cons rfl rfl (q_move) ?_
      refine AOps.cons rfl rfl (q_conv_8u) ?_
      refine AOps.cons rfl rfl (q_orbu) ?_
      refine AOps.cons rfl rfl (q_assign) ?_
      refine AOps.nil ?_
      refine AWp.region ?_
      refine AOps.cons rfl rfl (q_add) ?_
      refine AOps.cons rfl rfl (q_move) ?_
      refine AOps.nil ?_
      refine ⟨i + 1, ?_, Back.mk' (HasT.cons (HasT.cons HasT.nil (h1 := by rw [beV_step (by omega)]; rfl) )) HasH.nil, ?_⟩
      · first | assumption | omega | decide | (simp; omega) | (simp [*]; done)
      · first | omega | (simp; omega)
    · skip
      refine AOps.nil ?_
      refine AWp.seq ?_
      refine AWp.cond_f rfl ?_
      refine AWp.exit ?_
      refine AWp.seq ?_
      refine AWp.seq ?_
      refine AWp.region ?_
      obtain rfl : i = (r.tk w).length := by omega
      rw [List.take_length]
      have hb := beV_bound (l := r.tk w) (r.tk w).length (Nat.le_refl _)
      rw [List.take_length] at hb
      refine AOps.cons rfl rfl (q_move) ?_
      refine AOps.dec rfl rfl (q_gtr) (fun h7_1 => ?_) (fun h7_1 => ?_)
      · skip
        refine AOps.nil ?_
        refine AWp.cond_t rfl ?_
        refine AWp.seq ?_
        refine AWp.region ?_
        refine AOps.cons rfl rfl (q_assign) ?_
        refine AOps.nil ?_
        refine AWp.ret ?_
        show Fin te Try.f45 _ _
        refine q_retH (0) [] [_] [_] [(_, _)] ?_
        rw [numV, if_pos h7_1]; rfl
      · skip
        refine AOps.nil ?_
        refine AWp.cond_f rfl ?_
        refine AWp.skip ?_
        refine AWp.seq ?_
        refine AWp.region ?_
        refine AOps.cons rfl rfl (q_move) ?_
        refine AOps.cons rfl rfl (q_conv_i64) ?_
        refine AOps.cons rfl rfl (q_assign) ?_
        refine AOps.nil ?_
        refine AWp.ret ?_
        show Fin te Try.f45 _ _
        refine q_retH (0) [] [_] [_] [(_, _)] ?_
        rw [numV, if_neg h7_1]; rfl

set_option maxRecDepth 20000 in
theorem c_rnumber (r : Rd) (w : Nat) (hw : w ≤ 8) : AC Try.prog 47 [.ptr 0 0 0, i64 w] (hlook [(0, .box [.fz 0 r.l.length (cl bc r.l), tf r.bad])]) (RetH (i64 (rnumV (r.tk w))) [(0, .box [.fz 0 (r.rgo w).l.length (cl bc (r.rgo w).l), tf (r.rgo w).bad])]) := by
  have hbl : (r.tk w).length ≤ w := by simpa using (Rd.tk_len r (w : Int)).1
  refine AC.intro te_ok (fn := Try.f47) ⟨Try.func47, rfl, rfl⟩ (Nat.le_of_ble_eq_true rfl) ?_
  refine AWp.seq ?_
  refine AWp.region ?_
  refine AOps.cons rfl rfl (q_assign) ?_
  refine AOps.nil ?_
  refine AWp.seq ?_
  refine AWp.region ?_
  refine AOps.cons rfl rfl (q_assign) ?_
  refine AOps.nil ?_
  refine AWp.seq ?_
  refine AWp.seq ?_
  refine AWp.region ?_
  refine AOps.cons rfl rfl (q_move) ?_
  refine AOps.cons rfl rfl (q_move) ?_
  refine AOps.cons rfl rfl (q_callB (0) [(0, 0)] [] [(_, _)] (hc := (c_rtake r w (by omega)))) ?_
  refine AOps.cons rfl rfl (q_len) ?_
  refine AOps.cons rfl rfl (q_move) ?_
  refine AOps.nil ?_
  refine AWp.block ?_
  refine AWp.loopR (α := Nat) [4, 5, 7, 12, 13, 14, 15, 16, 17, 18, 19, 20, 21, 22, 23, 24, 25, 26] (fun i => [(12, i64 i), (5, i64 (beV ((r.tk w).take i)))]) (fun i => []) (fun i => i ≤ (r.tk w).length ∧ ∀ k, k < i → beV ((r.tk w).take k) < 1125899906842624) (fun i => (r.tk w).length - i) 0 ?_ (Back.mk' (HasT.cons (HasT.cons HasT.nil)) HasH.nil) ?_
  · exact ⟨Nat.zero_le _, fun k hk => absurd hk (Nat.not_lt_zero k)⟩
  · rintro i ⟨hi, hall⟩
    refine AWp.seq ?_
    refine AWp.region ?_
    refine AOps.dec rfl rfl (q_lss) (fun h3_0 => ?_) (fun h3_0 => ?_)
    · skip
      refine AOps.nil ?_
      refine AWp.seq ?_
      refine AWp.cond_t rfl ?_
      refine AWp.skip ?_
      refine AWp.seq ?_
      refine AWp.block ?_
      refine AWp.seq ?_
      refine AWp.region ?_
      refine AOps.cons rfl rfl (q_ix) ?_
      refine AOps.cons rfl rfl (q_load) ?_
      refine AOps.cons rfl rfl (q_assign) ?_
      refine AOps.nil ?_
      refine AWp.seq ?_
      refine AWp.seq ?_
      refine AWp.region ?_
      have hb := beV_bound (l := r.tk w) i (by omega)
      have hp := p256lt (i := i) (by omega)
      have hc := ((r.tk w).getD i default).toNat_lt
      have hc2 := ((r.tk w)[i]?.getD default).toNat_lt
      refine AOps.cons rfl rfl (q_move) ?_
      refine AOps.dec rfl rfl (q_geq) (fun h5_1 => ?_) (fun h5_1 => ?_)
      · skip
        refine AOps.nil ?_
        refine AWp.cond_t rfl ?_
        refine AWp.seq ?_
        refine AWp.region ?_
        refine AOps.cons rfl rfl (q_move) ?_
        refine AOps.cons rfl rfl (q_nil) ?_
        refine AOps.cons rfl rfl (q_fa) ?_
        refine AOps.cons rfl rfl (q_store) ?_
        refine AOps.nil ?_
        refine AWp.seq ?_
        refine AWp.region ?_
        refine AOps.cons rfl rfl (q_assign) ?_
        refine AOps.nil ?_
        refine AWp.ret ?_
        show Fin te Try.f47 _ _
        have e := nbad_t (l := r.tk w) (i := i) (by omega) (by omega)
        rw [Rd.rgo_t e, rnumV_t e]
        refine q_retH (0) [] [_] [_] [(_, _)] ?_
        rfl
      · skip
        refine AOps.nil ?_
        refine AWp.cond_f rfl ?_
        refine AWp.skip ?_
        refine AWp.region ?_
        refine AOps.cons rfl rfl (q_move) ?_
        refine AOps.cons rfl rfl (q_mul) ?_
        refine AOps.cons rfl rfl (q_move) ?_
        refine AOps.cons rfl rfl (q_conv_8i) ?_
        refine AOps.cons rfl rfl (q_add) ?_
        refine AOps.cons rfl rfl (q_assign) ?_
        refine AOps.nil ?_
        refine AWp.region ?_
        refine AOps.cons rfl rfl (q_add) ?_
        refine AOps.cons rfl rfl (q_move) ?_
        refine AOps.nil ?_
        refine ⟨i + 1, ?_, Back.mk' (HasT.cons (HasT.cons HasT.nil (h1 := by rw [beV_step (by omega)]; rfl) )) HasH.nil, ?_⟩
        · refine ⟨by omega, fun k hk => ?_⟩
          by_cases e : k = i
          · subst e; omega
          · exact hall k (by omega)
        · first | omega | (simp; omega)
    · skip
      refine AOps.nil ?_
      refine AWp.seq ?_
      refine AWp.cond_f rfl ?_
      refine AWp.exit ?_
      refine AWp.seq ?_
      refine AWp.region ?_
      refine AOps.cons rfl rfl (q_move) ?_
      refine AOps.cons rfl rfl (q_assign) ?_
      refine AOps.nil ?_
      refine AWp.ret ?_
      show Fin te Try.f47 _ _
      obtain rfl : i = (r.tk w).length := by omega
      rw [List.take_length]
      have e := nbad_f hall
      rw [Rd.rgo_f e, rnumV_f e]
      refine q_retH (0) [] [_] [_] [(_, _)] ?_
      rfl

end Go.Proofs.Ytaemmklgofddmaa.Fw

/- Walks of layer 8: entries out of bytes. -/
set_option linter.unusedVariables false
set_option linter.unusedSimpArgs false
namespace Go.Proofs.Ytaemmklgofddmaa.Fw
open Go.RowKit


theorem numV_small {r : Rd} {w : Nat} (hw : w ≤ 7) : numV (r.tk w) = beV (r.tk w) ∧ 0 ≤ beV (r.tk w) ∧ beV (r.tk w) < 256 ^ w := by
  have h1 : (r.tk w).length ≤ w := by simpa using (Rd.tk_len r (w : Int)).1
  have h2 := beV_bound (l := r.tk w) (r.tk w).length (Nat.le_refl _)
  rw [List.take_length] at h2
  have h3 : (256 : Int) ^ (r.tk w).length ≤ 256 ^ w := by
    have : ((256 ^ (r.tk w).length : Nat) : Int) ≤ ((256 ^ w : Nat) : Int) := Int.ofNat_le.2 (Nat.pow_le_pow_right (by decide) h1)
    rwa [Int.natCast_pow, Int.natCast_pow] at this
  have h4 := p256lt (i := w) (by omega)
  refine ⟨if_neg (by omega), h2.1, by omega⟩
theorem numV_1 (r : Rd) : 0 ≤ numV (r.tk 1) ∧ numV (r.tk 1) < 256 := by
  have h := numV_small (r := r) (w := 1) (by decide)
  have e : (((1 : Nat) : Int)) = 1 := rfl
  rw [e] at h
  exact ⟨by omega, by have := h.2.2; simp at this; omega⟩
theorem numV_2 (r : Rd) : 0 ≤ numV (r.tk 2) ∧ numV (r.tk 2) < 65536 := by
  have h := numV_small (r := r) (w := 2) (by decide)
  have e : (((2 : Nat) : Int)) = 2 := rfl
  rw [e] at h
  exact ⟨by omega, by have := h.2.2; simp at this; omega⟩
/-- The parts of an entry, one behind the other. -/
def rd0 (b : List UInt8) : Rd := ⟨b, false⟩
def kE (b : List UInt8) : Int := numV ((rd0 b).tk 1)
def rd1 (b : List UInt8) : Rd := (rd0 b).go 1
def rd2 (b : List UInt8) : Rd := (rd1 b).go 1
def nmE (b : List UInt8) : List UInt8 := (rd2 b).tk (numV ((rd1 b).tk 1))
def rd3 (b : List UInt8) : Rd := (rd2 b).go (numV ((rd1 b).tk 1))
def tyE (b : List UInt8) : Int := numV ((rd3 b).tk 2)
def rd4 (b : List UInt8) : Rd := (rd3 b).go 2
def csE (b : List UInt8) : Int := numV ((rd4 b).tk 2)
def rd5 (b : List UInt8) : Rd := (rd4 b).go 2
def rkE (b : List UInt8) : Int := numV ((rd5 b).tk 1)
def rd6 (b : List UInt8) : Rd := (rd5 b).go 1
def kdE (b : List UInt8) : Int := numV ((rd6 b).tk 1)
def rd7 (b : List UInt8) : Rd := (rd6 b).go 1
def exE (b : List UInt8) : Int := numV ((rd7 b).tk 8)
def rd8 (b : List UInt8) : Rd := (rd7 b).go 8
def rd9 (r : Rd) : Rd := r.go 1
def znE (r : Rd) : List UInt8 := (rd9 r).tk (numV (r.tk 1))
def rd10 (r : Rd) : Rd := (rd9 r).go (numV (r.tk 1))
def cnE (r : Rd) : Int := numV ((rd10 r).tk 2)
def rd11 (r : Rd) : Rd := (rd10 r).go 2
def dsD : Nat → Rd → List (List UInt8) → List (List UInt8) × Rd
  | 0, r, a => (a, r)
  | m + 1, r, a => if r.bad then (a, r) else dsD m ((r.go 2).go (numV (r.tk 2))) (a ++ [(r.go 2).tk (numV (r.tk 2))])
def dsE (r : Rd) : List (List UInt8) × Rd := dsD (cnE r).toNat (rd11 r) []
def putS (b : List UInt8) (ex : Int) (r : Rd) : ESet := ⟨nmE b, tyE b, csE b, rkE b, kdE b, ex, znE r, (dsE r).1⟩
def delS (b : List UInt8) : ESet := ⟨nmE b, tyE b, csE b, 0, 0, 0, [], []⟩
def eDel (b : List UInt8) : Bool := decide (kE b = 1)
def eSet (b : List UInt8) : ESet := if kE b = 1 then delS b else putS b (exE b) (rd8 b)
def eRd (b : List UInt8) : Rd := if kE b = 1 then rd5 b else (dsE (rd8 b)).2
def decO (b : List UInt8) : Bool := !(eRd b).bad && !decide ((0 : Int) < (eRd b).l.length) && !decide (1 < kE b) && entO (eDel b) (eSet b)
def zeroS : ESet := ⟨[], 0, 0, 0, 0, 0, [], []⟩
def dDel (b : List UInt8) : Bool := if decO b then eDel b else false
def dSet (b : List UInt8) : ESet := if decO b then eSet b else zeroS
def dErr (b : List UInt8) : Int := if decO b then 0 else 80
theorem dNo {b : List UInt8} (h : decO b = false) : dDel b = false ∧ dSet b = zeroS ∧ dErr b = 80 := by simp [dDel, dSet, dErr, h]
theorem dYes {b : List UInt8} (h : decO b = true) : dDel b = eDel b ∧ dSet b = eSet b ∧ dErr b = 0 := by simp [dDel, dSet, dErr, h]
theorem dsD_bad {m : Nat} {r : Rd} {a : List (List UInt8)} (h : r.bad = true) : dsD m r a = (a, r) := by cases m <;> simp [dsD, h]
theorem dsD_step {m : Nat} {r : Rd} {a : List (List UInt8)} (h : r.bad = false) : dsD (m + 1) r a = dsD m ((r.go 2).go (numV (r.tk 2))) (a ++ [(r.go 2).tk (numV (r.tk 2))]) := by simp [dsD, h]
def DOk (b : List UInt8) (m : Nat) (r : Rd) (a : List (List UInt8)) : Prop := a.length + m ≤ 65535 ∧ r.l.length ≤ b.length ∧ ∀ d ∈ a, d.length ≤ 65535
theorem rd11_len {b : List UInt8} : (rd5 b).l.length ≤ b.length ∧ (rd8 b).l.length ≤ b.length ∧ (rd11 (rd8 b)).l.length ≤ b.length := by
  have h1 : (rd1 b).l.length ≤ b.length := Rd.go_len (rd0 b) 1
  have h2 : (rd2 b).l.length ≤ (rd1 b).l.length := Rd.go_len _ _
  have h3 : (rd3 b).l.length ≤ (rd2 b).l.length := Rd.go_len _ _
  have h4 : (rd4 b).l.length ≤ (rd3 b).l.length := Rd.go_len _ _
  have h5 : (rd5 b).l.length ≤ (rd4 b).l.length := Rd.go_len _ _
  have h6 : (rd6 b).l.length ≤ (rd5 b).l.length := Rd.go_len _ _
  have h7 : (rd7 b).l.length ≤ (rd6 b).l.length := Rd.go_len _ _
  have h8 : (rd8 b).l.length ≤ (rd7 b).l.length := Rd.go_len _ _
  have h9 : (rd9 (rd8 b)).l.length ≤ (rd8 b).l.length := Rd.go_len _ _
  have h10 : (rd10 (rd8 b)).l.length ≤ (rd9 (rd8 b)).l.length := Rd.go_len _ _
  have h11 : (rd11 (rd8 b)).l.length ≤ (rd10 (rd8 b)).l.length := Rd.go_len _ _
  exact ⟨by omega, by omega, by omega⟩
theorem dOk_step {b : List UInt8} {m : Nat} {r : Rd} {a : List (List UInt8)} (h : DOk b (m + 1) r a) : DOk b m ((r.go 2).go (numV (r.tk 2))) (a ++ [(r.go 2).tk (numV (r.tk 2))]) := by
  obtain ⟨h1, h2, h3⟩ := h
  have g1 := Rd.go_len (r.go 2) (numV (r.tk 2))
  have g2 := Rd.go_len r 2
  refine ⟨by simp; omega, by omega, fun d hd => ?_⟩
  rcases List.mem_append.1 hd with hd | hd
  · exact h3 d hd
  · rw [List.mem_singleton] at hd
    subst hd
    have := (Rd.tk_len (r.go 2) (numV (r.tk 2))).1
    have := numV_2 r
    omega
theorem nm_len (b : List UInt8) : (nmE b).length ≤ 255 := by
  have h1 : (nmE b).length ≤ (numV ((rd1 b).tk 1)).toNat := (Rd.tk_len (rd2 b) (numV ((rd1 b).tk 1))).1
  have h2 := numV_1 (rd1 b)
  omega
theorem zn_len (r : Rd) : (znE r).length ≤ 255 := by
  have h1 : (znE r).length ≤ (numV (r.tk 1)).toNat := (Rd.tk_len (rd9 r) (numV (r.tk 1))).1
  have h2 := numV_1 r
  omega

theorem c_canA (d : Bool) (x : ESet) (hx : SetOk x) : AC Try.prog 32 [.agg (tf d :: setC x)] emp (Ret (tf (entO d x))) := by
  cases d
  · exact c_can_put x hx
  · exact c_can_del x hx
theorem delS_ok (b : List UInt8) : SetOk (delS b) := by
  have := nm_len b
  exact ⟨by show (nmE b).length ≤ _; omega, Nat.zero_le _, Nat.zero_le _, fun d hd => by cases hd⟩
theorem putS_ok {b : List UInt8} {ex : Int} {r r' : Rd} {acc : List (List UInt8)} (he : dsE r = (acc, r')) (h : DOk b 0 r' acc) : SetOk (putS b ex r) := by
  have h1 := nm_len b
  have h2 := zn_len r
  have h3 : (putS b ex r).ds = acc := by show (dsE r).1 = acc; rw [he]
  refine ⟨by show (nmE b).length ≤ _; omega, by show (znE r).length ≤ _; omega, by rw [h3]; have := h.1; omega, fun d hd => ?_⟩
  rw [h3] at hd
  have := h.2.2 d hd
  omega
theorem DOk.zero {b : List UInt8} {m : Nat} {r : Rd} {a : List (List UInt8)} (h : DOk b m r a) : DOk b 0 r a := ⟨by have := h.1; omega, h.2⟩

set_option maxRecDepth 20000 in
theorem c_Decode (b : List UInt8) (hb : b.length ≤ 140737488351232) : AC Try.prog 22 [.fz 0 b.length (cl bc b)] emp (Ret (.tup [.agg (tf (dDel b) :: setC (dSet b)), i64 (dErr b)])) := by
  obtain ⟨hl5, hl8, hl11⟩ := rd11_len (b := b)
  have hn1 := numV_1 (rd1 b)
  have hn2 := numV_1 (rd8 b)
  have hn3 := numV_2 (rd10 (rd8 b))
  have hnm := nm_len b
  have hzn := zn_len (rd8 b)
  refine AC.intro te_ok (fn := Try.f22) ⟨Try.func22, rfl, rfl⟩ (Nat.le_of_ble_eq_true rfl) ?_
  refine AWp.seq ?_
  refine AWp.region ?_
  refine AOps.cons rfl rfl (q_alloc 100) ?_
  refine AOps.cons rfl rfl (q_assign) ?_
  refine AOps.nil ?_
  refine AWp.seq ?_
  refine AWp.region ?_
  refine AOps.cons rfl rfl (q_move) ?_
  refine AOps.cons rfl rfl (q_build [(_, _)]) ?_
  refine AOps.cons rfl rfl (q_box 202) ?_
  refine AOps.cons rfl rfl (q_assign) ?_
  refine AOps.nil ?_
  refine AWp.seq ?_
  refine AWp.region ?_
  refine AOps.cons rfl rfl (q_move) ?_
  refine AOps.cons rfl rfl (q_callB (0) [(0, 202)] [] [(_, _)] (hc := (c_rnum (rd0 b) 1 (by decide)))) ?_
  refine AOps.cons rfl rfl (q_assign) ?_
  refine AOps.nil ?_
  refine AWp.seq ?_
  refine AWp.region ?_
  refine AOps.cons rfl rfl (q_move) ?_
  refine AOps.cons rfl rfl (q_eql) ?_
  refine AOps.cons rfl rfl (q_build [(_, _)]) ?_
  refine AOps.cons rfl rfl (q_alloc 403) ?_
  refine AOps.cons rfl rfl (q_store) ?_
  refine AOps.nil ?_
  refine AWp.seq ?_
  refine AWp.region ?_
  refine AOps.cons rfl rfl (q_fa) ?_
  refine AOps.cons rfl rfl (q_assign) ?_
  refine AOps.nil ?_
  refine AWp.seq ?_
  refine AWp.region ?_
  refine AOps.cons rfl rfl (q_move) ?_
  refine AOps.cons rfl rfl (q_move) ?_
  refine AOps.cons rfl rfl (q_move) ?_
  refine AOps.cons rfl rfl (q_callB (0) [(0, 202)] [] [(_, _)] (hc := (c_rnum (rd1 b) 1 (by decide)))) ?_
  refine AOps.cons rfl rfl (q_callB (0) [(0, 202)] [] [(_, _)] (hc := (c_take (rd2 b) (numV ((rd1 b).tk 1)) hn1.1))) ?_
  refine AOps.cons rfl rfl (by first | exact q_conv_zs | exact q_conv_ls) ?_
  refine AOps.cons rfl rfl (q_nil) ?_
  refine AOps.cons rfl rfl (q_fa) ?_
  refine AOps.cons rfl rfl (q_store) ?_
  refine AOps.nil ?_
  refine AWp.seq ?_
  refine AWp.region ?_
  refine AOps.cons rfl rfl (q_move) ?_
  refine AOps.cons rfl rfl (q_move) ?_
  refine AOps.cons rfl rfl (q_move) ?_
  refine AOps.cons rfl rfl (q_callB (0) [(0, 202)] [] [(_, _)] (hc := (c_rnum (rd3 b) 2 (by decide)))) ?_
  refine AOps.cons rfl rfl (q_move) ?_
  refine AOps.cons rfl rfl (q_callB (0) [(0, 202)] [] [(_, _)] (hc := (c_rnum (rd4 b) 2 (by decide)))) ?_
  refine AOps.cons rfl rfl (q_nil) ?_
  refine AOps.cons rfl rfl (q_fa) ?_
  refine AOps.cons rfl rfl (q_store) ?_
  refine AOps.cons rfl rfl (q_nil) ?_
  refine AOps.cons rfl rfl (q_fa) ?_
  refine AOps.cons rfl rfl (q_store) ?_
  refine AOps.nil ?_
  refine AWp.seq ?_
  refine AWp.seq ?_
  refine AWp.region ?_
  refine AOps.cons rfl rfl (q_fa) ?_
  refine AOps.bool rfl rfl (q_load) (fun h7_1 => ?_) (fun h7_1 => ?_)
  · skip
    refine AOps.cons rfl rfl (q_not) ?_
    refine AOps.nil ?_
    refine AWp.cond_f rfl ?_
    refine AWp.skip ?_
    refine AWp.seq ?_
    refine AWp.seq ?_
    refine AWp.region ?_
    have hkk : kE b = 1 := of_decide_eq_true h7_1
    have hS : eSet b = delS b := if_pos hkk
    have hR : eRd b = rd5 b := if_pos hkk
    have hso := delS_ok b
    refine AOps.weak (Weak.full 0 [] (t := [(2, .ptr 100 0 0), (4, .ptr 202 0 0), (5, i64 (kE b)), (6, .ptr 403 0 0)]) (hl := [(100, .box [.v (.bool false), .v (.string ⟨#[]⟩), .v (.int .i64 0), .v (.int .i64 0), .v (.int .i64 0), .v (.int .i64 0), .v (.int .i64 0), .v (.string ⟨#[]⟩), .v (.slice none 0 0)]), (202, .box [.fz 0 (rd5 b).l.length (cl bc (rd5 b).l), tf (rd5 b).bad]), (403, .box [tf (eDel b), str (delS b).nm, i64 (delS b).ty, i64 (delS b).cs, i64 (delS b).rank, i64 (delS b).kind, i64 (delS b).exp, str (delS b).zone, .fz 0 (delS b).ds.length (cl (lc 0 bc) (delS b).ds)])])) ?_
    refine AOps.cons rfl rfl (q_move) ?_
    refine AOps.cons rfl rfl (q_nil) ?_
    refine AOps.cons rfl rfl (q_fa) ?_
    refine AOps.bool rfl rfl (q_load) (fun h14_3 => ?_) (fun h14_3 => ?_)
    · skip
      refine AOps.cons rfl rfl (q_move) ?_
      refine AOps.gskip rfl rfl rfl rfl rfl rfl rfl rfl ?_
      refine AOps.gskip rfl rfl rfl rfl rfl rfl rfl rfl ?_
      refine AOps.gskip rfl rfl rfl rfl rfl rfl rfl rfl ?_
      refine AOps.gskip rfl rfl rfl rfl rfl rfl rfl rfl ?_
      refine AOps.gskip rfl rfl rfl rfl rfl rfl rfl rfl ?_
      refine AOps.gskip rfl rfl rfl rfl rfl rfl rfl rfl ?_
      refine AOps.cons rfl rfl (q_pick) ?_
      refine AOps.cons rfl rfl (q_move) ?_
      refine AOps.gskip rfl rfl rfl rfl rfl rfl rfl rfl ?_
      refine AOps.gskip rfl rfl rfl rfl rfl rfl rfl rfl ?_
      refine AOps.cons rfl rfl (q_pick) ?_
      refine AOps.cons rfl rfl (q_move) ?_
      refine AOps.gskip rfl rfl rfl rfl rfl rfl rfl rfl ?_
      refine AOps.gskip rfl rfl rfl rfl rfl rfl rfl rfl ?_
      refine AOps.gskip rfl rfl rfl rfl rfl rfl rfl rfl ?_
      refine AOps.cons rfl rfl (q_pick) ?_
      refine AOps.nil ?_
      refine AWp.cond_t rfl ?_
      refine AWp.seq ?_
      refine AWp.region ?_
      refine AOps.cons rfl rfl (q_build []) ?_
      refine AOps.cons rfl rfl (q_store) ?_
      refine AOps.cons rfl rfl (q_assign) ?_
      refine AOps.nil ?_
      refine AWp.ret ?_
      show Fin te Try.f22 _ _
      have hO : decO b = false := by rw [decO, hR, hS, h14_3, Bool.not_true, Bool.false_and, Bool.false_and, Bool.false_and]
      obtain ⟨q1, q2, q3⟩ := dNo hO
      rw [q1, q2, q3]
      refine q_ret 0 [_, _] [.agg (tf false :: setC zeroS), _] ?_ (h2 := by exact ⟨fv_agg ⟨fv_okb rfl rfl, fv_okb rfl rfl, fv_okb rfl rfl, fv_okb rfl rfl, fv_okb rfl rfl, fv_okb rfl rfl, fv_okb rfl rfl, fv_okb rfl rfl, fv_nilz, trivial⟩, fv_okb rfl rfl, trivial⟩)
      rfl
    · skip
      refine AOps.cons rfl rfl (q_move) ?_
      refine AOps.gcons rfl rfl rfl rfl rfl (q_move) ?_
      refine AOps.gcons rfl rfl rfl rfl rfl (q_nil) ?_
      refine AOps.gcons rfl rfl rfl rfl rfl (q_fa) ?_
      refine AOps.gcons rfl rfl rfl rfl rfl (q_load) ?_
      refine AOps.gcons rfl rfl rfl rfl rfl (q_len) ?_
      refine AOps.gdec rfl rfl rfl rfl rfl (q_gtr) (fun h14_10 => ?_) (fun h14_10 => ?_)
      · skip
        refine AOps.cons rfl rfl (q_pick) ?_
        refine AOps.cons rfl rfl (q_move) ?_
        refine AOps.gskip rfl rfl rfl rfl rfl rfl rfl rfl ?_
        refine AOps.gskip rfl rfl rfl rfl rfl rfl rfl rfl ?_
        refine AOps.cons rfl rfl (q_pick) ?_
        refine AOps.cons rfl rfl (q_move) ?_
        refine AOps.gskip rfl rfl rfl rfl rfl rfl rfl rfl ?_
        refine AOps.gskip rfl rfl rfl rfl rfl rfl rfl rfl ?_
        refine AOps.gskip rfl rfl rfl rfl rfl rfl rfl rfl ?_
        refine AOps.cons rfl rfl (q_pick) ?_
        refine AOps.nil ?_
        refine AWp.cond_t rfl ?_
        refine AWp.seq ?_
        refine AWp.region ?_
        refine AOps.cons rfl rfl (q_build []) ?_
        refine AOps.cons rfl rfl (q_store) ?_
        refine AOps.cons rfl rfl (q_assign) ?_
        refine AOps.nil ?_
        refine AWp.ret ?_
        show Fin te Try.f22 _ _
        have hO : decO b = false := by rw [decO, hR, hS, decide_eq_true h14_10, Bool.not_true, Bool.and_false, Bool.false_and, Bool.false_and]
        obtain ⟨q1, q2, q3⟩ := dNo hO
        rw [q1, q2, q3]
        refine q_ret 0 [_, _] [.agg (tf false :: setC zeroS), _] ?_ (h2 := by exact ⟨fv_agg ⟨fv_okb rfl rfl, fv_okb rfl rfl, fv_okb rfl rfl, fv_okb rfl rfl, fv_okb rfl rfl, fv_okb rfl rfl, fv_okb rfl rfl, fv_okb rfl rfl, fv_nilz, trivial⟩, fv_okb rfl rfl, trivial⟩)
        rfl
      · skip
        refine AOps.cons rfl rfl (q_pick) ?_
        refine AOps.cons rfl rfl (q_move) ?_
        refine AOps.gcons rfl rfl rfl rfl rfl (q_move) ?_
        refine AOps.gdec rfl rfl rfl rfl rfl (q_gtr) (fun h14_14 => ?_) (fun h14_14 => ?_)
        · skip
          refine AOps.cons rfl rfl (q_pick) ?_
          refine AOps.cons rfl rfl (q_move) ?_
          refine AOps.gskip rfl rfl rfl rfl rfl rfl rfl rfl ?_
          refine AOps.gskip rfl rfl rfl rfl rfl rfl rfl rfl ?_
          refine AOps.gskip rfl rfl rfl rfl rfl rfl rfl rfl ?_
          refine AOps.cons rfl rfl (q_pick) ?_
          refine AOps.nil ?_
          refine AWp.cond_t rfl ?_
          refine AWp.seq ?_
          refine AWp.region ?_
          refine AOps.cons rfl rfl (q_build []) ?_
          refine AOps.cons rfl rfl (q_store) ?_
          refine AOps.cons rfl rfl (q_assign) ?_
          refine AOps.nil ?_
          refine AWp.ret ?_
          show Fin te Try.f22 _ _
          have hO : decO b = false := by rw [decO, hR, hS, decide_eq_true h14_14, Bool.not_true, Bool.and_false, Bool.false_and]
          obtain ⟨q1, q2, q3⟩ := dNo hO
          rw [q1, q2, q3]
          refine q_ret 0 [_, _] [.agg (tf false :: setC zeroS), _] ?_ (h2 := by exact ⟨fv_agg ⟨fv_okb rfl rfl, fv_okb rfl rfl, fv_okb rfl rfl, fv_okb rfl rfl, fv_okb rfl rfl, fv_okb rfl rfl, fv_okb rfl rfl, fv_okb rfl rfl, fv_nilz, trivial⟩, fv_okb rfl rfl, trivial⟩)
          rfl
        · skip
          refine AOps.cons rfl rfl (q_pick) ?_
          refine AOps.cons rfl rfl (q_move) ?_
          refine AOps.gcons rfl rfl rfl rfl rfl (q_load) ?_
          refine AOps.gbool rfl rfl rfl rfl rfl (q_call (0) (hc := (c_canA (eDel b) (delS b) hso))) (fun h14_18 => ?_) (fun h14_18 => ?_)
          · skip
            refine AOps.gcons rfl rfl rfl rfl rfl (q_not) ?_
            refine AOps.cons rfl rfl (q_pick) ?_
            refine AOps.nil ?_
            refine AWp.cond_f rfl ?_
            refine AWp.skip ?_
            refine AWp.seq ?_
            refine AWp.region ?_
            refine AOps.cons rfl rfl (q_load) ?_
            refine AOps.cons rfl rfl (q_store) ?_
            refine AOps.cons rfl rfl (q_assign) ?_
            refine AOps.nil ?_
            refine AWp.ret ?_
            show Fin te Try.f22 _ _
            have hO : decO b = true := by rw [decO, hR, hS, h14_3, decide_eq_false h14_10, decide_eq_false h14_14, h14_18]; rfl
            obtain ⟨q1, q2, q3⟩ := dYes hO
            rw [q1, q2, q3, hS]
            refine q_ret 0 [_, _] [_, _] ?_
            rfl
          · skip
            refine AOps.gcons rfl rfl rfl rfl rfl (q_not) ?_
            refine AOps.cons rfl rfl (q_pick) ?_
            refine AOps.nil ?_
            refine AWp.cond_t rfl ?_
            refine AWp.seq ?_
            refine AWp.region ?_
            refine AOps.cons rfl rfl (q_build []) ?_
            refine AOps.cons rfl rfl (q_store) ?_
            refine AOps.cons rfl rfl (q_assign) ?_
            refine AOps.nil ?_
            refine AWp.ret ?_
            show Fin te Try.f22 _ _
            have hO : decO b = false := by rw [decO, hR, hS, h14_18, Bool.and_false]
            obtain ⟨q1, q2, q3⟩ := dNo hO
            rw [q1, q2, q3]
            refine q_ret 0 [_, _] [.agg (tf false :: setC zeroS), _] ?_ (h2 := by exact ⟨fv_agg ⟨fv_okb rfl rfl, fv_okb rfl rfl, fv_okb rfl rfl, fv_okb rfl rfl, fv_okb rfl rfl, fv_okb rfl rfl, fv_okb rfl rfl, fv_okb rfl rfl, fv_nilz, trivial⟩, fv_okb rfl rfl, trivial⟩)
            rfl
  · skip
    refine AOps.cons rfl rfl (q_not) ?_
    refine AOps.nil ?_
    refine AWp.cond_t rfl ?_
    refine AWp.seq ?_
    refine AWp.region ?_
    refine AOps.cons rfl rfl (q_move) ?_
    refine AOps.cons rfl rfl (q_move) ?_
    refine AOps.cons rfl rfl (q_move) ?_
    refine AOps.cons rfl rfl (q_move) ?_
    refine AOps.cons rfl rfl (q_callB (0) [(0, 202)] [] [(_, _)] (hc := (c_rnum (rd5 b) 1 (by decide)))) ?_
    refine AOps.cons rfl rfl (q_move) ?_
    refine AOps.cons rfl rfl (q_callB (0) [(0, 202)] [] [(_, _)] (hc := (c_rnum (rd6 b) 1 (by decide)))) ?_
    refine AOps.cons rfl rfl (q_move) ?_
    refine AOps.cons rfl rfl (q_callB (0) [(0, 202)] [] [(_, _)] (hc := (c_rnum (rd7 b) 8 (by decide)))) ?_
    refine AOps.cons rfl rfl (q_nil) ?_
    refine AOps.cons rfl rfl (q_fa) ?_
    refine AOps.cons rfl rfl (q_store) ?_
    refine AOps.cons rfl rfl (q_nil) ?_
    refine AOps.cons rfl rfl (q_fa) ?_
    refine AOps.cons rfl rfl (q_store) ?_
    refine AOps.cons rfl rfl (q_nil) ?_
    refine AOps.cons rfl rfl (q_fa) ?_
    refine AOps.cons rfl rfl (q_store) ?_
    refine AOps.nil ?_
    refine AWp.seq ?_
    refine AWp.region ?_
    refine AOps.cons rfl rfl (q_move) ?_
    refine AOps.cons rfl rfl (q_move) ?_
    refine AOps.cons rfl rfl (q_move) ?_
    refine AOps.cons rfl rfl (q_callB (0) [(0, 202)] [] [(_, _)] (hc := (c_rnum (rd8 b) 1 (by decide)))) ?_
    refine AOps.cons rfl rfl (q_callB (0) [(0, 202)] [] [(_, _)] (hc := (c_take (rd9 (rd8 b)) (numV ((rd8 b).tk 1)) hn2.1))) ?_
    refine AOps.cons rfl rfl (by first | exact q_conv_zs | exact q_conv_ls) ?_
    refine AOps.cons rfl rfl (q_nil) ?_
    refine AOps.cons rfl rfl (q_fa) ?_
    refine AOps.cons rfl rfl (q_store) ?_
    refine AOps.nil ?_
    refine AWp.seq ?_
    refine AWp.region ?_
    refine AOps.cons rfl rfl (q_move) ?_
    refine AOps.cons rfl rfl (q_callB (0) [(0, 202)] [] [(_, _)] (hc := (c_rnum (rd10 (rd8 b)) 2 (by decide)))) ?_
    refine AOps.cons rfl rfl (q_assign) ?_
    refine AOps.weak (Weak.nilcell 403 700 8 1 (lc 0 bc)) ?_
    refine AOps.nil ?_
    refine AWp.block ?_
    refine AWp.loopR (α := Nat × Rd × List (List UInt8) × Nat) [8, 64, 65, 66, 67, 68, 69, 70, 71, 72, 73, 74, 75, 76, 77, 78, 79, 80, 81, 82, 83, 84, 85, 86, 87, 88] (fun x_ => [(8, i64 (x_.1))]) (fun x_ => [(202, .box [.fz 0 (x_.2.1).l.length (cl bc (x_.2.1).l), tf (x_.2.1).bad]), (403, .box [tf (eDel b), str (nmE b), i64 (tyE b), i64 (csE b), i64 (rkE b), i64 (kdE b), i64 (exE b), str (znE (rd8 b)), .sl 700 (x_.2.2.2) 0 (x_.2.2.1).length 1]), (700, .row (cl (lc 0 bc) (x_.2.2.1)) 1 (x_.2.2.2))]) (fun x_ => dsD (x_.1) (x_.2.1) (x_.2.2.1) = dsE (rd8 b) ∧ DOk b (x_.1) (x_.2.1) (x_.2.2.1)) (fun x_ => (x_.1)) ((cnE (rd8 b)).toNat, rd11 (rd8 b), [], 0) ?_ (Back.mk' (HasT.cons HasT.nil (h1 := by exact i64_eq (by show numV ((rd10 (rd8 b)).tk 2) = _; unfold cnE; omega)) ) (HasH.cons (HasH.cons (HasH.cons HasH.nil)))) ?_
    · exact ⟨rfl, by have := hn3.2; show 0 + (numV ((rd10 (rd8 b)).tk 2)).toNat ≤ 65535; omega, hl11, by intro d hd; cases hd⟩
    · rintro ⟨m, r, acc, v⟩ hI11
      change dsD m r acc = dsE (rd8 b) ∧ DOk b m r acc at hI11
      obtain ⟨hd, hok⟩ := hI11
      refine AWp.as (s' := AS.over _ [8, 64, 65, 66, 67, 68, 69, 70, 71, 72, 73, 74, 75, 76, 77, 78, 79, 80, 81, 82, 83, 84, 85, 86, 87, 88] [(8, i64 m)] [(202, .box [.fz 0 r.l.length (cl bc r.l), tf r.bad]), (403, .box [tf (eDel b), str (nmE b), i64 (tyE b), i64 (csE b), i64 (rkE b), i64 (kdE b), i64 (exE b), str (znE (rd8 b)), .sl 700 v 0 acc.length 1]), (700, .row (cl (lc 0 bc) acc) 1 v)]) rfl ?_
      obtain ⟨ho1, ho2, ho3⟩ := id hok
      refine AWp.seq ?_
      refine AWp.seq ?_
      refine AWp.region ?_
      refine AOps.cons rfl rfl (q_move) ?_
      refine AOps.dec rfl rfl (q_gtr) (fun h11_1 => ?_) (fun h11_1 => ?_)
      · skip
        refine AOps.cons rfl rfl (q_move) ?_
        refine AOps.gcons rfl rfl rfl rfl rfl (q_move) ?_
        refine AOps.gcons rfl rfl rfl rfl rfl (q_nil) ?_
        refine AOps.gcons rfl rfl rfl rfl rfl (q_fa) ?_
        refine AOps.gbool rfl rfl rfl rfl rfl (q_load) (fun h11_6 => ?_) (fun h11_6 => ?_)
        · skip
          refine AOps.gcons rfl rfl rfl rfl rfl (q_not) ?_
          refine AOps.cons rfl rfl (q_pick) ?_
          refine AOps.nil ?_
          refine AWp.cond_f rfl ?_
          refine AWp.exit ?_
          refine AWp.seq ?_
          refine AWp.seq ?_
          refine AWp.region ?_
          have he : dsE (rd8 b) = (acc, r) := by rw [← hd, dsD_bad h11_6]
          have hok0 := hok.zero
          have hso := putS_ok (ex := exE b) he hok0
          obtain ⟨rfl, rfl⟩ : acc = (dsE (rd8 b)).1 ∧ r = (dsE (rd8 b)).2 := by rw [he]; exact ⟨rfl, rfl⟩
          have hkk : ¬ kE b = 1 := of_decide_eq_false h7_1
          have hS : eSet b = putS b (exE b) (rd8 b) := if_neg hkk
          have hR : eRd b = (dsE (rd8 b)).2 := if_neg hkk
          refine AOps.weak (Weak.full 0 [] (t := [(2, .ptr 100 0 0), (4, .ptr 202 0 0), (5, i64 (kE b)), (6, .ptr 403 0 0)]) (hl := [(100, .box [.v (.bool false), .v (.string ⟨#[]⟩), .v (.int .i64 0), .v (.int .i64 0), .v (.int .i64 0), .v (.int .i64 0), .v (.int .i64 0), .v (.string ⟨#[]⟩), .v (.slice none 0 0)]), (202, .box [.fz 0 (dsE (rd8 b)).2.l.length (cl bc (dsE (rd8 b)).2.l), tf (dsE (rd8 b)).2.bad]), (403, .box [tf (eDel b), str (putS b (exE b) (rd8 b)).nm, i64 (putS b (exE b) (rd8 b)).ty, i64 (putS b (exE b) (rd8 b)).cs, i64 (putS b (exE b) (rd8 b)).rank, i64 (putS b (exE b) (rd8 b)).kind, i64 (putS b (exE b) (rd8 b)).exp, str (putS b (exE b) (rd8 b)).zone, .fz 0 (putS b (exE b) (rd8 b)).ds.length (cl (lc 0 bc) (putS b (exE b) (rd8 b)).ds)])])) ?_
          refine AOps.cons rfl rfl (q_move) ?_
          refine AOps.cons rfl rfl (q_nil) ?_
          refine AOps.cons rfl rfl (q_fa) ?_
          refine AOps.bool rfl rfl (q_load) (fun h14_3 => ?_) (fun h14_3 => ?_)
          · skip
            refine AOps.cons rfl rfl (q_move) ?_
            refine AOps.gskip rfl rfl rfl rfl rfl rfl rfl rfl ?_
            refine AOps.gskip rfl rfl rfl rfl rfl rfl rfl rfl ?_
            refine AOps.gskip rfl rfl rfl rfl rfl rfl rfl rfl ?_
            refine AOps.gskip rfl rfl rfl rfl rfl rfl rfl rfl ?_
            refine AOps.gskip rfl rfl rfl rfl rfl rfl rfl rfl ?_
            refine AOps.gskip rfl rfl rfl rfl rfl rfl rfl rfl ?_
            refine AOps.cons rfl rfl (q_pick) ?_
            refine AOps.cons rfl rfl (q_move) ?_
            refine AOps.gskip rfl rfl rfl rfl rfl rfl rfl rfl ?_
            refine AOps.gskip rfl rfl rfl rfl rfl rfl rfl rfl ?_
            refine AOps.cons rfl rfl (q_pick) ?_
            refine AOps.cons rfl rfl (q_move) ?_
            refine AOps.gskip rfl rfl rfl rfl rfl rfl rfl rfl ?_
            refine AOps.gskip rfl rfl rfl rfl rfl rfl rfl rfl ?_
            refine AOps.gskip rfl rfl rfl rfl rfl rfl rfl rfl ?_
            refine AOps.cons rfl rfl (q_pick) ?_
            refine AOps.nil ?_
            refine AWp.cond_t rfl ?_
            refine AWp.seq ?_
            refine AWp.region ?_
            refine AOps.cons rfl rfl (q_build []) ?_
            refine AOps.cons rfl rfl (q_store) ?_
            refine AOps.cons rfl rfl (q_assign) ?_
            refine AOps.nil ?_
            refine AWp.ret ?_
            show Fin te Try.f22 _ _
            have hO : decO b = false := by rw [decO, hR, hS, h14_3, Bool.not_true, Bool.false_and, Bool.false_and, Bool.false_and]
            obtain ⟨q1, q2, q3⟩ := dNo hO
            rw [q1, q2, q3]
            refine q_ret 0 [_, _] [.agg (tf false :: setC zeroS), _] ?_ (h2 := by exact ⟨fv_agg ⟨fv_okb rfl rfl, fv_okb rfl rfl, fv_okb rfl rfl, fv_okb rfl rfl, fv_okb rfl rfl, fv_okb rfl rfl, fv_okb rfl rfl, fv_okb rfl rfl, fv_nilz, trivial⟩, fv_okb rfl rfl, trivial⟩)
            rfl
          · skip
            refine AOps.cons rfl rfl (q_move) ?_
            refine AOps.gcons rfl rfl rfl rfl rfl (q_move) ?_
            refine AOps.gcons rfl rfl rfl rfl rfl (q_nil) ?_
            refine AOps.gcons rfl rfl rfl rfl rfl (q_fa) ?_
            refine AOps.gcons rfl rfl rfl rfl rfl (q_load) ?_
            refine AOps.gcons rfl rfl rfl rfl rfl (q_len) ?_
            refine AOps.gdec rfl rfl rfl rfl rfl (q_gtr) (fun h14_10 => ?_) (fun h14_10 => ?_)
            · skip
              refine AOps.cons rfl rfl (q_pick) ?_
              refine AOps.cons rfl rfl (q_move) ?_
              refine AOps.gskip rfl rfl rfl rfl rfl rfl rfl rfl ?_
              refine AOps.gskip rfl rfl rfl rfl rfl rfl rfl rfl ?_
              refine AOps.cons rfl rfl (q_pick) ?_
              refine AOps.cons rfl rfl (q_move) ?_
              refine AOps.gskip rfl rfl rfl rfl rfl rfl rfl rfl ?_
              refine AOps.gskip rfl rfl rfl rfl rfl rfl rfl rfl ?_
              refine AOps.gskip rfl rfl rfl rfl rfl rfl rfl rfl ?_
              refine AOps.cons rfl rfl (q_pick) ?_
              refine AOps.nil ?_
              refine AWp.cond_t rfl ?_
              refine AWp.seq ?_
              refine AWp.region ?_
              refine AOps.cons rfl rfl (q_build []) ?_
              refine AOps.cons rfl rfl (q_store) ?_
              refine AOps.cons rfl rfl (q_assign) ?_
              refine AOps.nil ?_
              refine AWp.ret ?_
              show Fin te Try.f22 _ _
              have hO : decO b = false := by rw [decO, hR, hS, decide_eq_true h14_10, Bool.not_true, Bool.and_false, Bool.false_and, Bool.false_and]
              obtain ⟨q1, q2, q3⟩ := dNo hO
              rw [q1, q2, q3]
              refine q_ret 0 [_, _] [.agg (tf false :: setC zeroS), _] ?_ (h2 := by exact ⟨fv_agg ⟨fv_okb rfl rfl, fv_okb rfl rfl, fv_okb rfl rfl, fv_okb rfl rfl, fv_okb rfl rfl, fv_okb rfl rfl, fv_okb rfl rfl, fv_okb rfl rfl, fv_nilz, trivial⟩, fv_okb rfl rfl, trivial⟩)
              rfl
            · skip
              refine AOps.cons rfl rfl (q_pick) ?_
              refine AOps.cons rfl rfl (q_move) ?_
              refine AOps.gcons rfl rfl rfl rfl rfl (q_move) ?_
              refine AOps.gdec rfl rfl rfl rfl rfl (q_gtr) (fun h14_14 => ?_) (fun h14_14 => ?_)
              · skip
                refine AOps.cons rfl rfl (q_pick) ?_
                refine AOps.cons rfl rfl (q_move) ?_
                refine AOps.gskip rfl rfl rfl rfl rfl rfl rfl rfl ?_
                refine AOps.gskip rfl rfl rfl rfl rfl rfl rfl rfl ?_
                refine AOps.gskip rfl rfl rfl rfl rfl rfl rfl rfl ?_
                refine AOps.cons rfl rfl (q_pick) ?_
                refine AOps.nil ?_
                refine AWp.cond_t rfl ?_
                refine AWp.seq ?_
                refine AWp.region ?_
                refine AOps.cons rfl rfl (q_build []) ?_
                refine AOps.cons rfl rfl (q_store) ?_
                refine AOps.cons rfl rfl (q_assign) ?_
                refine AOps.nil ?_
                refine AWp.ret ?_
                show Fin te Try.f22 _ _
                have hO : decO b = false := by rw [decO, hR, hS, decide_eq_true h14_14, Bool.not_true, Bool.and_false, Bool.false_and]
                obtain ⟨q1, q2, q3⟩ := dNo hO
                rw [q1, q2, q3]
                refine q_ret 0 [_, _] [.agg (tf false :: setC zeroS), _] ?_ (h2 := by exact ⟨fv_agg ⟨fv_okb rfl rfl, fv_okb rfl rfl, fv_okb rfl rfl, fv_okb rfl rfl, fv_okb rfl rfl, fv_okb rfl rfl, fv_okb rfl rfl, fv_okb rfl rfl, fv_nilz, trivial⟩, fv_okb rfl rfl, trivial⟩)
                rfl
              · skip
                refine AOps.cons rfl rfl (q_pick) ?_
                refine AOps.cons rfl rfl (q_move) ?_
                refine AOps.gcons rfl rfl rfl rfl rfl (q_load) ?_
                refine AOps.gbool rfl rfl rfl rfl rfl (q_call (0) (hc := (c_canA (eDel b) (putS b (exE b) (rd8 b)) hso))) (fun h14_18 => ?_) (fun h14_18 => ?_)
                · skip
                  refine AOps.gcons rfl rfl rfl rfl rfl (q_not) ?_
                  refine AOps.cons rfl rfl (q_pick) ?_
                  refine AOps.nil ?_
                  refine AWp.cond_f rfl ?_
                  refine AWp.skip ?_
                  refine AWp.seq ?_
                  refine AWp.region ?_
                  refine AOps.cons rfl rfl (q_load) ?_
                  refine AOps.cons rfl rfl (q_store) ?_
                  refine AOps.cons rfl rfl (q_assign) ?_
                  refine AOps.nil ?_
                  refine AWp.ret ?_
                  show Fin te Try.f22 _ _
                  have hO : decO b = true := by rw [decO, hR, hS, h14_3, decide_eq_false h14_10, decide_eq_false h14_14, h14_18]; rfl
                  obtain ⟨q1, q2, q3⟩ := dYes hO
                  rw [q1, q2, q3, hS]
                  refine q_ret 0 [_, _] [_, _] ?_
                  rfl
                · skip
                  refine AOps.gcons rfl rfl rfl rfl rfl (q_not) ?_
                  refine AOps.cons rfl rfl (q_pick) ?_
                  refine AOps.nil ?_
                  refine AWp.cond_t rfl ?_
                  refine AWp.seq ?_
                  refine AWp.region ?_
                  refine AOps.cons rfl rfl (q_build []) ?_
                  refine AOps.cons rfl rfl (q_store) ?_
                  refine AOps.cons rfl rfl (q_assign) ?_
                  refine AOps.nil ?_
                  refine AWp.ret ?_
                  show Fin te Try.f22 _ _
                  have hO : decO b = false := by rw [decO, hR, hS, h14_18, Bool.and_false]
                  obtain ⟨q1, q2, q3⟩ := dNo hO
                  rw [q1, q2, q3]
                  refine q_ret 0 [_, _] [.agg (tf false :: setC zeroS), _] ?_ (h2 := by exact ⟨fv_agg ⟨fv_okb rfl rfl, fv_okb rfl rfl, fv_okb rfl rfl, fv_okb rfl rfl, fv_okb rfl rfl, fv_okb rfl rfl, fv_okb rfl rfl, fv_okb rfl rfl, fv_nilz, trivial⟩, fv_okb rfl rfl, trivial⟩)
                  rfl
        · skip
          refine AOps.gcons rfl rfl rfl rfl rfl (q_not) ?_
          refine AOps.cons rfl rfl (q_pick) ?_
          refine AOps.nil ?_
          refine AWp.cond_t rfl ?_
          refine AWp.skip ?_
          refine AWp.seq ?_
          refine AWp.block ?_
          obtain ⟨q, rfl⟩ : ∃ q, m = q + 1 := ⟨m - 1, by omega⟩
          have hcl : ((r.go 2).tk (numV (r.tk 2))).length ≤ 140737488351232 := by have := (Rd.tk_len (r.go 2) (numV (r.tk 2))).2; have := Rd.go_len r 2; omega
          refine AWp.draws [⟨0, [7], [], some 75, _, none⟩,
              ⟨1, [7], [], some 76, _, none⟩,
              ⟨2, [76], [403], some 77, _, none⟩,
              ⟨3, [77], [403], some 78, _, none⟩,
              ⟨4, [78], [403], some 79, _, none⟩,
              ⟨5, [4], [], some 80, _, none⟩,
              ⟨6, [4], [], some 81, _, none⟩,
              ⟨7, [81], [202], some 82, _, some (202, _)⟩,
              ⟨8, [80, 82], [202], some 83, _, some (202, _)⟩,
              ⟨9, [83], [], some 84, _, none⟩,
              ⟨10, [84], [1410], some 85, _, some (1410, _)⟩,
              ⟨11, [79, 85], [700, 1410], some 86, _, some (700, _)⟩,
              ⟨12, [75], [403], some 87, _, none⟩,
              ⟨13, [87], [403], some 88, _, none⟩,
              ⟨14, [86, 88], [403, 700], none, _, some (403, _)⟩]
            [⟨0, [7], [], some 75, .any, none⟩,
                ⟨1, [7], [], some 76, .any, none⟩,
                ⟨2, [76], [403], some 77, .any, none⟩,
                ⟨3, [77], [403], some 78, .any, none⟩,
                ⟨4, [78], [403], some 79, .any, none⟩,
                ⟨5, [4], [], some 80, .any, none⟩,
                ⟨6, [4], [], some 81, .any, none⟩,
                ⟨7, [81], [202], some 82, .any, some (202, .box [])⟩,
                ⟨8, [80, 82], [202], some 83, .any, some (202, .box [])⟩,
                ⟨9, [83], [], some 84, .any, none⟩,
                ⟨10, [84], [1410], some 85, .any, some (1410, .box [])⟩,
                ⟨11, [79, 85], [700, 1410], some 86, .any, some (700, .box [])⟩,
                ⟨12, [75], [403], some 87, .any, none⟩,
                ⟨13, [87], [403], some 88, .any, none⟩,
                ⟨14, [86, 88], [403, 700], none, .any, some (403, .box [])⟩]
            mixed_ok rfl (by kernel_rfl) ⟨DS.ok_over fun s0 => OpAt.go rfl rfl (q_move),
                DS.ok_over fun s0 => OpAt.go rfl rfl (q_move),
                DS.ok_over fun s0 => OpAt.go rfl rfl (q_nil),
                DS.ok_over fun s0 => OpAt.go rfl rfl (q_fa),
                DS.ok_over fun s0 => OpAt.go rfl rfl (q_load),
                DS.ok_over fun s0 => OpAt.go rfl rfl (q_move),
                DS.ok_over fun s0 => OpAt.go rfl rfl (q_move),
                DS.ok_over fun s0 => OpAt.go rfl rfl (q_callB (0) [(0, 202)] [] [(_, _)] (hc := (c_rnum r 2 (by decide)))),
                DS.ok_over fun s0 => OpAt.go rfl rfl (q_callB (0) [(0, 202)] [] [(_, _)] (hc := (c_take (r.go 2) (numV (r.tk 2)) (numV_2 r).1))),
                DS.ok_over fun s0 => OpAt.go rfl rfl (q_call (0) (hc := (c_bytes_Clone ((r.go 2).tk (numV (r.tk 2))) 0 hcl))),
                DS.ok_over fun s0 => OpAt.go rfl rfl (q_bs 1410 (lc 0 bc) [_] [(_, _)]),
                DS.ok_over fun s0 => OpAt.go rfl rfl (q_app),
                DS.ok_over fun s0 => OpAt.go rfl rfl (q_nil),
                DS.ok_over fun s0 => OpAt.go rfl rfl (q_fa),
                DS.ok_over fun s0 => OpAt.go rfl rfl (q_store), trivial⟩ ?_
          dsimp only [final, DS.upd, AS.seto]
          refine AWp.region ?_
          refine AOps.cons rfl rfl (q_move) ?_
          refine AOps.cons rfl rfl (q_sub) ?_
          refine AOps.cons rfl rfl (q_assign) ?_
          refine AOps.nil ?_
          refine ⟨(q, (r.go 2).go (numV (r.tk 2)), acc ++ [(r.go 2).tk (numV (r.tk 2))], v + 1), ?_, Back.mk' (HasT.cons HasT.nil (h1 := by exact i64_eq (by omega)) ) (HasH.cons (HasH.cons (HasH.cons HasH.nil))), ?_⟩
          · try dsimp only
            exact ⟨by rw [← hd, dsD_step h11_6], dOk_step hok⟩
          · try dsimp only
            first | omega | (simp; omega)
      · skip
        refine AOps.cons rfl rfl (q_move) ?_
        refine AOps.gskip rfl rfl rfl rfl rfl rfl rfl rfl ?_
        refine AOps.gskip rfl rfl rfl rfl rfl rfl rfl rfl ?_
        refine AOps.gskip rfl rfl rfl rfl rfl rfl rfl rfl ?_
        refine AOps.gskip rfl rfl rfl rfl rfl rfl rfl rfl ?_
        refine AOps.gskip rfl rfl rfl rfl rfl rfl rfl rfl ?_
        refine AOps.cons rfl rfl (q_pick) ?_
        refine AOps.nil ?_
        refine AWp.cond_f rfl ?_
        refine AWp.exit ?_
        refine AWp.seq ?_
        refine AWp.seq ?_
        refine AWp.region ?_
        obtain rfl : m = 0 := by omega
        have he : dsE (rd8 b) = (acc, r) := hd.symm
        have hok0 := hok.zero
        have hso := putS_ok (ex := exE b) he hok0
        obtain ⟨rfl, rfl⟩ : acc = (dsE (rd8 b)).1 ∧ r = (dsE (rd8 b)).2 := by rw [he]; exact ⟨rfl, rfl⟩
        have hkk : ¬ kE b = 1 := of_decide_eq_false h7_1
        have hS : eSet b = putS b (exE b) (rd8 b) := if_neg hkk
        have hR : eRd b = (dsE (rd8 b)).2 := if_neg hkk
        refine AOps.weak (Weak.full 0 [] (t := [(2, .ptr 100 0 0), (4, .ptr 202 0 0), (5, i64 (kE b)), (6, .ptr 403 0 0)]) (hl := [(100, .box [.v (.bool false), .v (.string ⟨#[]⟩), .v (.int .i64 0), .v (.int .i64 0), .v (.int .i64 0), .v (.int .i64 0), .v (.int .i64 0), .v (.string ⟨#[]⟩), .v (.slice none 0 0)]), (202, .box [.fz 0 (dsE (rd8 b)).2.l.length (cl bc (dsE (rd8 b)).2.l), tf (dsE (rd8 b)).2.bad]), (403, .box [tf (eDel b), str (putS b (exE b) (rd8 b)).nm, i64 (putS b (exE b) (rd8 b)).ty, i64 (putS b (exE b) (rd8 b)).cs, i64 (putS b (exE b) (rd8 b)).rank, i64 (putS b (exE b) (rd8 b)).kind, i64 (putS b (exE b) (rd8 b)).exp, str (putS b (exE b) (rd8 b)).zone, .fz 0 (putS b (exE b) (rd8 b)).ds.length (cl (lc 0 bc) (putS b (exE b) (rd8 b)).ds)])])) ?_
        refine AOps.cons rfl rfl (q_move) ?_
        refine AOps.cons rfl rfl (q_nil) ?_
        refine AOps.cons rfl rfl (q_fa) ?_
        refine AOps.bool rfl rfl (q_load) (fun h14_3 => ?_) (fun h14_3 => ?_)
        · skip
          refine AOps.cons rfl rfl (q_move) ?_
          refine AOps.gskip rfl rfl rfl rfl rfl rfl rfl rfl ?_
          refine AOps.gskip rfl rfl rfl rfl rfl rfl rfl rfl ?_
          refine AOps.gskip rfl rfl rfl rfl rfl rfl rfl rfl ?_
          refine AOps.gskip rfl rfl rfl rfl rfl rfl rfl rfl ?_
          refine AOps.gskip rfl rfl rfl rfl rfl rfl rfl rfl ?_
          refine AOps.gskip rfl rfl rfl rfl rfl rfl rfl rfl ?_
          refine AOps.cons rfl rfl (q_pick) ?_
          refine AOps.cons rfl rfl (q_move) ?_
          refine AOps.gskip rfl rfl rfl rfl rfl rfl rfl rfl ?_
          refine AOps.gskip rfl rfl rfl rfl rfl rfl rfl rfl ?_
          refine AOps.cons rfl rfl (q_pick) ?_
          refine AOps.cons rfl rfl (q_move) ?_
          refine AOps.gskip rfl rfl rfl rfl rfl rfl rfl rfl ?_
          refine AOps.gskip rfl rfl rfl rfl rfl rfl rfl rfl ?_
          refine AOps.gskip rfl rfl rfl rfl rfl rfl rfl rfl ?_
          refine AOps.cons rfl rfl (q_pick) ?_
          refine AOps.nil ?_
          refine AWp.cond_t rfl ?_
          refine AWp.seq ?_
          refine AWp.region ?_
          refine AOps.cons rfl rfl (q_build []) ?_
          refine AOps.cons rfl rfl (q_store) ?_
          refine AOps.cons rfl rfl (q_assign) ?_
          refine AOps.nil ?_
          refine AWp.ret ?_
          show Fin te Try.f22 _ _
          have hO : decO b = false := by rw [decO, hR, hS, h14_3, Bool.not_true, Bool.false_and, Bool.false_and, Bool.false_and]
          obtain ⟨q1, q2, q3⟩ := dNo hO
          rw [q1, q2, q3]
          refine q_ret 0 [_, _] [.agg (tf false :: setC zeroS), _] ?_ (h2 := by exact ⟨fv_agg ⟨fv_okb rfl rfl, fv_okb rfl rfl, fv_okb rfl rfl, fv_okb rfl rfl, fv_okb rfl rfl, fv_okb rfl rfl, fv_okb rfl rfl, fv_okb rfl rfl, fv_nilz, trivial⟩, fv_okb rfl rfl, trivial⟩)
          rfl
        · skip
          refine AOps.cons rfl rfl (q_move) ?_
          refine AOps.gcons rfl rfl rfl rfl rfl (q_move) ?_
          refine AOps.gcons rfl rfl rfl rfl rfl (q_nil) ?_
          refine AOps.gcons rfl rfl rfl rfl rfl (q_fa) ?_
          refine AOps.gcons rfl rfl rfl rfl rfl (q_load) ?_
          refine AOps.gcons rfl rfl rfl rfl rfl (q_len) ?_
          refine AOps.gdec rfl rfl rfl rfl rfl (q_gtr) (fun h14_10 => ?_) (fun h14_10 => ?_)
          · skip
            refine AOps.cons rfl rfl (q_pick) ?_
            refine AOps.cons rfl rfl (q_move) ?_
            refine AOps.gskip rfl rfl rfl rfl rfl rfl rfl rfl ?_
            refine AOps.gskip rfl rfl rfl rfl rfl rfl rfl rfl ?_
            refine AOps.cons rfl rfl (q_pick) ?_
            refine AOps.cons rfl rfl (q_move) ?_
            refine AOps.gskip rfl rfl rfl rfl rfl rfl rfl rfl ?_
            refine AOps.gskip rfl rfl rfl rfl rfl rfl rfl rfl ?_
            refine AOps.gskip rfl rfl rfl rfl rfl rfl rfl rfl ?_
            refine AOps.cons rfl rfl (q_pick) ?_
            refine AOps.nil ?_
            refine AWp.cond_t rfl ?_
            refine AWp.seq ?_
            refine AWp.region ?_
            refine AOps.cons rfl rfl (q_build []) ?_
            refine AOps.cons rfl rfl (q_store) ?_
            refine AOps.cons rfl rfl (q_assign) ?_
            refine AOps.nil ?_
            refine AWp.ret ?_
            show Fin te Try.f22 _ _
            have hO : decO b = false := by rw [decO, hR, hS, decide_eq_true h14_10, Bool.not_true, Bool.and_false, Bool.false_and, Bool.false_and]
            obtain ⟨q1, q2, q3⟩ := dNo hO
            rw [q1, q2, q3]
            refine q_ret 0 [_, _] [.agg (tf false :: setC zeroS), _] ?_ (h2 := by exact ⟨fv_agg ⟨fv_okb rfl rfl, fv_okb rfl rfl, fv_okb rfl rfl, fv_okb rfl rfl, fv_okb rfl rfl, fv_okb rfl rfl, fv_okb rfl rfl, fv_okb rfl rfl, fv_nilz, trivial⟩, fv_okb rfl rfl, trivial⟩)
            rfl
          · skip
            refine AOps.cons rfl rfl (q_pick) ?_
            refine AOps.cons rfl rfl (q_move) ?_
            refine AOps.gcons rfl rfl rfl rfl rfl (q_move) ?_
            refine AOps.gdec rfl rfl rfl rfl rfl (q_gtr) (fun h14_14 => ?_) (fun h14_14 => ?_)
            · skip
              refine AOps.cons rfl rfl (q_pick) ?_
              refine AOps.cons rfl rfl (q_move) ?_
              refine AOps.gskip rfl rfl rfl rfl rfl rfl rfl rfl ?_
              refine AOps.gskip rfl rfl rfl rfl rfl rfl rfl rfl ?_
              refine AOps.gskip rfl rfl rfl rfl rfl rfl rfl rfl ?_
              refine AOps.cons rfl rfl (q_pick) ?_
              refine AOps.nil ?_
              refine AWp.cond_t rfl ?_
              refine AWp.seq ?_
              refine AWp.region ?_
              refine AOps.cons rfl rfl (q_build []) ?_
              refine AOps.cons rfl rfl (q_store) ?_
              refine AOps.cons rfl rfl (q_assign) ?_
              refine AOps.nil ?_
              refine AWp.ret ?_
              show Fin te Try.f22 _ _
              have hO : decO b = false := by rw [decO, hR, hS, decide_eq_true h14_14, Bool.not_true, Bool.and_false, Bool.false_and]
              obtain ⟨q1, q2, q3⟩ := dNo hO
              rw [q1, q2, q3]
              refine q_ret 0 [_, _] [.agg (tf false :: setC zeroS), _] ?_ (h2 := by exact ⟨fv_agg ⟨fv_okb rfl rfl, fv_okb rfl rfl, fv_okb rfl rfl, fv_okb rfl rfl, fv_okb rfl rfl, fv_okb rfl rfl, fv_okb rfl rfl, fv_okb rfl rfl, fv_nilz, trivial⟩, fv_okb rfl rfl, trivial⟩)
              rfl
            · skip
              refine AOps.cons rfl rfl (q_pick) ?_
              refine AOps.cons rfl rfl (q_move) ?_
              refine AOps.gcons rfl rfl rfl rfl rfl (q_load) ?_
              refine AOps.gbool rfl rfl rfl rfl rfl (q_call (0) (hc := (c_canA (eDel b) (putS b (exE b) (rd8 b)) hso))) (fun h14_18 => ?_) (fun h14_18 => ?_)
              · skip
                refine AOps.gcons rfl rfl rfl rfl rfl (q_not) ?_
                refine AOps.cons rfl rfl (q_pick) ?_
                refine AOps.nil ?_
                refine AWp.cond_f rfl ?_
                refine AWp.skip ?_
                refine AWp.seq ?_
                refine AWp.region ?_
                refine AOps.cons rfl rfl (q_load) ?_
                refine AOps.cons rfl rfl (q_store) ?_
                refine AOps.cons rfl rfl (q_assign) ?_
                refine AOps.nil ?_
                refine AWp.ret ?_
                show Fin te Try.f22 _ _
                have hO : decO b = true := by rw [decO, hR, hS, h14_3, decide_eq_false h14_10, decide_eq_false h14_14, h14_18]; rfl
                obtain ⟨q1, q2, q3⟩ := dYes hO
                rw [q1, q2, q3, hS]
                refine q_ret 0 [_, _] [_, _] ?_
                rfl
              · skip
                refine AOps.gcons rfl rfl rfl rfl rfl (q_not) ?_
                refine AOps.cons rfl rfl (q_pick) ?_
                refine AOps.nil ?_
                refine AWp.cond_t rfl ?_
                refine AWp.seq ?_
                refine AWp.region ?_
                refine AOps.cons rfl rfl (q_build []) ?_
                refine AOps.cons rfl rfl (q_store) ?_
                refine AOps.cons rfl rfl (q_assign) ?_
                refine AOps.nil ?_
                refine AWp.ret ?_
                show Fin te Try.f22 _ _
                have hO : decO b = false := by rw [decO, hR, hS, h14_18, Bool.and_false]
                obtain ⟨q1, q2, q3⟩ := dNo hO
                rw [q1, q2, q3]
                refine q_ret 0 [_, _] [.agg (tf false :: setC zeroS), _] ?_ (h2 := by exact ⟨fv_agg ⟨fv_okb rfl rfl, fv_okb rfl rfl, fv_okb rfl rfl, fv_okb rfl rfl, fv_okb rfl rfl, fv_okb rfl rfl, fv_okb rfl rfl, fv_okb rfl rfl, fv_nilz, trivial⟩, fv_okb rfl rfl, trivial⟩)
                rfl

end Go.Proofs.Ytaemmklgofddmaa.Fw

