/- Walks of layer 1, the program's: what each comes to; its conditions stand ahead of it. -/
import Derived.Test.YtaemmklgofddmaaQ6
set_option linter.unusedVariables false
set_option linter.unusedSimpArgs false
namespace Go.Proofs.Ytaemmklgofddmaa.Fw
open Go.RowKit

/-- The labels of a name's bytes; none: they are no name (of any length). -/
def labs (n : List UInt8) : Option (List (List UInt8)) :=
  match n with
  | [] => none
  | k :: r => if k = 0 then (if r = [] then some [] else none) else if 63 < k.toNat ∨ r.length < k.toNat then none else (labs (r.drop k.toNat)).map (r.take k.toNat :: ·)
termination_by n.length
decreasing_by simp; omega
def joinN (ls : List (List UInt8)) : List UInt8 := ls.flatMap (fun l => byte (l.length : Int) :: l) ++ [0]
def GoodN (ls : List (List UInt8)) : Prop := ∀ l ∈ ls, 1 ≤ l.length ∧ l.length ≤ 63
theorem joinN_nil : joinN [] = [0] := rfl
theorem joinN_cons (l : List UInt8) (ls : List (List UInt8)) : joinN (l :: ls) = byte (l.length : Int) :: (l ++ joinN ls) := by simp [joinN, List.append_assoc]
theorem byte_nat {k : Nat} (h : k < 256) : (byte (k : Int)).toNat = k := by
  have := byte_toNat (k : Int)
  omega
theorem byte_len {l : List UInt8} (h : l.length ≤ 63) : (byte (l.length : Int)).toNat = l.length := byte_nat (by omega)
theorem byte_ne {l : List UInt8} (h : 1 ≤ l.length ∧ l.length ≤ 63) : byte (l.length : Int) ≠ 0 := fun e => by
  have := byte_len h.2
  rw [e] at this
  simp at this
  omega
theorem GoodN.tail {l : List UInt8} {ls : List (List UInt8)} (h : GoodN (l :: ls)) : GoodN ls := fun x hx => h x (by simp [hx])
theorem GoodN.head {l : List UInt8} {ls : List (List UInt8)} (h : GoodN (l :: ls)) : 1 ≤ l.length ∧ l.length ≤ 63 := h l (by simp)
theorem GoodN.nil : GoodN [] := fun x hx => by cases hx
theorem labs_join : ∀ {ls : List (List UInt8)}, GoodN ls → labs (joinN ls) = some ls
  | [], _ => by rw [joinN_nil, labs]; rfl
  | l :: ls, h => by
    have h1 := byte_len h.head.2
    rw [joinN_cons, labs, if_neg (byte_ne h.head), h1, if_neg (by simp; have := h.head; omega), List.drop_left, List.take_left, labs_join h.tail]
    rfl
theorem labs_some : ∀ {n : List UInt8} {ls : List (List UInt8)}, labs n = some ls → n = joinN ls ∧ GoodN ls := by
  intro n
  induction h : n.length using Nat.strongRecOn generalizing n with
  | ind m ih =>
    intro ls hl
    match n, h, hl with
    | [], _, hl => rw [labs] at hl; cases hl
    | k :: r, h, hl =>
      rw [labs] at hl
      by_cases hk : k = 0
      · rw [if_pos hk] at hl
        by_cases hr : r = []
        · rw [if_pos hr] at hl
          cases hl
          exact ⟨by rw [hk, hr]; rfl, GoodN.nil⟩
        · rw [if_neg hr] at hl; cases hl
      · rw [if_neg hk] at hl
        have hkp : 0 < k.toNat := by
          rcases Nat.eq_zero_or_pos k.toNat with e | e
          · exact absurd (UInt8.toNat_inj.1 (by simpa using e)) hk
          · exact e
        split at hl
        · cases hl
        · rename_i hc
          obtain ⟨q, hq, rfl⟩ := Option.map_eq_some_iff.1 hl
          obtain ⟨e, g⟩ := ih (r.drop k.toNat).length (by rw [← h]; simp; omega) rfl hq
          have hlen : (r.take k.toNat).length = k.toNat := by rw [List.length_take]; omega
          refine ⟨?_, fun x hx => ?_⟩
          · rw [joinN_cons, ← e, List.take_append_drop, hlen, byte_of_toNat]
          · rcases List.mem_cons.1 hx with rfl | hx
            · omega
            · exact g x hx
theorem joinN_inj {a b : List (List UInt8)} (ha : GoodN a) (hb : GoodN b) (h : joinN a = joinN b) : a = b := by
  have h1 := labs_join ha
  have h2 := labs_join hb
  rw [h, h2] at h1
  exact (Option.some.inj h1).symm
def canN (n : List UInt8) : Bool := (labs n).isSome && decide (n.length ≤ 255)
def labN (n : List UInt8) : List (List UInt8) := if canN n then (labs n).getD [] else []
/-- A name is its labels. -/
theorem canN_iff {n : List UInt8} : canN n = true ↔ ∃ ls, GoodN ls ∧ n = joinN ls ∧ (joinN ls).length ≤ 255 := by
  simp only [canN, Bool.and_eq_true, decide_eq_true_eq]
  constructor
  · rintro ⟨h1, h2⟩
    obtain ⟨ls, hl⟩ := Option.isSome_iff_exists.1 h1
    obtain ⟨rfl, g⟩ := labs_some hl
    exact ⟨ls, g, rfl, h2⟩
  · rintro ⟨ls, g, rfl, h⟩
    exact ⟨by rw [labs_join g]; rfl, h⟩
theorem labN_join {ls : List (List UInt8)} (g : GoodN ls) (h : (joinN ls).length ≤ 255) : labN (joinN ls) = ls := by
  rw [labN, if_pos (canN_iff.2 ⟨ls, g, rfl, h⟩), labs_join g]; rfl
theorem labN_no {n : List UInt8} (h : canN n = false) : labN n = [] := by rw [labN, if_neg (by simp [h])]
theorem joinN_length (ls : List (List UInt8)) : ls.length < (joinN ls).length := by
  induction ls with
  | nil => simp [joinN]
  | cons l ls ih => rw [joinN_cons]; simp; omega
theorem joinN_le {l : List UInt8} {ls : List (List UInt8)} : (joinN ls).length < (joinN (l :: ls)).length := by rw [joinN_cons]; simp; omega
theorem labN_len (n : List UInt8) : (labN n).length ≤ 254 := by
  cases h : canN n with
  | false => simp [labN_no h]
  | true =>
    obtain ⟨ls, g, rfl, hl⟩ := canN_iff.1 h
    have := joinN_length ls
    rw [labN_join g hl]
    omega
/-- The first label and the rest. -/
def nextB (n : List UInt8) : Bool := decide (n.length = 0 ∨ (n.getD 0 0).toNat = 0 ∨ 63 < (n.getD 0 0).toNat ∨ n.length < 2 + (n.getD 0 0).toNat)
def nextL (n : List UInt8) : List UInt8 := if nextB n then [] else (n.take (1 + (n.getD 0 0).toNat)).drop 1
def nextR (n : List UInt8) : List UInt8 := if nextB n then n else n.drop (1 + (n.getD 0 0).toNat)
theorem next_join {l : List UInt8} {ls : List (List UInt8)} (g : GoodN (l :: ls)) : nextB (joinN (l :: ls)) = false ∧ nextL (joinN (l :: ls)) = l ∧ nextR (joinN (l :: ls)) = joinN ls := by
  have h1 := byte_len g.head.2
  have h0 : (joinN (l :: ls)).getD 0 0 = byte (l.length : Int) := by rw [joinN_cons]; rfl
  have hl := joinN_length ls
  have hb : nextB (joinN (l :: ls)) = false := by
    have := g.head
    simp only [nextB, h0, h1, decide_eq_false_iff_not]
    rw [joinN_cons, List.length_cons, List.length_append]
    omega
  refine ⟨hb, ?_, ?_⟩
  · rw [nextL, hb, h0, h1, joinN_cons, Nat.add_comm, List.take_succ_cons, List.drop_succ_cons, List.drop_zero, List.take_left]
    rfl
  · rw [nextR, hb, h0, h1, joinN_cons, Nat.add_comm, List.drop_succ_cons, List.drop_left]
    rfl
theorem next_root : nextB (joinN []) = true := by simp [nextB, joinN]
theorem nextR_lt {n : List UInt8} (h : nextB n = false) : (nextR n).length < n.length := by
  have h1 := h
  simp only [nextB, decide_eq_false_iff_not] at h1
  rw [nextR, h]
  simp only [Bool.false_eq_true, if_false, List.length_drop]
  omega
/-- The end of a walk from label to label. -/
def finN (n : List UInt8) : List UInt8 := if h : nextB n = true then n else finN (nextR n)
termination_by n.length
decreasing_by exact nextR_lt (by simpa using h)
theorem finN_stop {n : List UInt8} (h : nextB n = true) : finN n = n := by rw [finN, dif_pos h]
theorem finN_step {n : List UInt8} (h : nextB n = false) : finN n = finN (nextR n) := by rw [finN, dif_neg (by simp [h])]
theorem labs_step {n : List UInt8} (h : nextB n = false) : (labs n).isSome = (labs (nextR n)).isSome := by
  have h1 := h
  simp only [nextB, decide_eq_false_iff_not] at h1
  match n, h, h1 with
  | [], _, h1 => simp at h1
  | k :: r, h, h1 =>
    simp only [List.getD_cons_zero, List.length_cons] at h1
    have hk : k ≠ 0 := fun e => by subst e; simp at h1
    rw [nextR, h, labs, if_neg hk, if_neg (by omega)]
    simp only [Bool.false_eq_true, if_false, List.getD_cons_zero, Option.isSome_map]
    rw [Nat.add_comm, List.drop_succ_cons]
theorem labs_stop {n : List UInt8} (h : nextB n = true) : (labs n).isSome = decide (n = [0]) := by
  simp only [nextB, decide_eq_true_eq] at h
  match n, h with
  | [], _ => rw [labs]; rfl
  | k :: r, h =>
    simp only [List.getD_cons_zero, List.length_cons] at h
    rw [labs]
    by_cases hk : k = 0
    · subst hk
      rw [if_pos rfl]
      by_cases hr : r = []
      · simp [hr]
      · simp [hr]
    · rw [if_neg hk]
      have hkp : 0 < k.toNat := by
        rcases Nat.eq_zero_or_pos k.toNat with e | e
        · exact absurd (UInt8.toNat_inj.1 (by simpa using e)) hk
        · exact e
      rw [decide_eq_false (by simp [hk])]
      split
      · rfl
      · rename_i hc
        have : r.drop k.toNat = [] := List.drop_eq_nil_of_le (by omega)
        rw [this, labs]
        rfl
theorem fin_labs (n : List UInt8) : decide (finN n = [0]) = (labs n).isSome := by
  induction h : n.length using Nat.strongRecOn generalizing n with
  | ind m ih =>
    cases hb : nextB n with
    | true => rw [finN_stop hb, labs_stop hb]
    | false => rw [finN_step hb, labs_step hb, ih (nextR n).length (by rw [← h]; exact nextR_lt hb) _ rfl]
/-- Small letters. -/
def lowC (c : UInt8) : UInt8 := if 65 ≤ c.toNat ∧ c.toNat ≤ 90 then c ||| 32 else c
def lowN (n : List UInt8) : List UInt8 := if canN n then n.map lowC else []
set_option maxRecDepth 10000 in
theorem lowC_add : ∀ c : UInt8, 65 ≤ c.toNat ∧ c.toNat ≤ 90 → c + 32 = c ||| 32 := by
  have h : ∀ k : _root_.Fin 256, 65 ≤ k.val ∧ k.val ≤ 90 → UInt8.ofNat k.val + 32 = UInt8.ofNat k.val ||| 32 := by decide
  intro c hc
  have := h ⟨c.toNat, c.toNat_lt⟩ hc
  simpa using this
theorem lowC_small {c : UInt8} (h : c.toNat ≤ 64) : lowC c = c := if_neg (by omega)
set_option maxRecDepth 10000 in
theorem lowC_idem : ∀ c : UInt8, lowC (lowC c) = lowC c := by
  have h : ∀ k : _root_.Fin 256, lowC (lowC (UInt8.ofNat k.val)) = lowC (UInt8.ofNat k.val) := by decide
  intro c
  have := h ⟨c.toNat, c.toNat_lt⟩
  simpa using this
def lowL (ls : List (List UInt8)) : List (List UInt8) := ls.map (·.map lowC)
theorem low_join {ls : List (List UInt8)} (g : GoodN ls) : (joinN ls).map lowC = joinN (lowL ls) := by
  induction ls with
  | nil => rfl
  | cons l ls ih =>
    have h1 : lowC (byte (l.length : Int)) = byte (l.length : Int) := lowC_small (by rw [byte_len g.head.2]; have := g.head; omega)
    rw [joinN_cons, List.map_cons, List.map_append, ih g.tail, h1]
    simp [lowL, joinN_cons]
theorem GoodN.low {ls : List (List UInt8)} (g : GoodN ls) : GoodN (lowL ls) := fun l hl => by
  obtain ⟨x, hx, rfl⟩ := List.mem_map.1 hl
  simpa using g x hx
theorem low_length {ls : List (List UInt8)} (g : GoodN ls) : (joinN (lowL ls)).length = (joinN ls).length := by rw [← low_join g, List.length_map]
theorem lowN_join {ls : List (List UInt8)} (g : GoodN ls) (h : (joinN ls).length ≤ 255) : lowN (joinN ls) = joinN (lowL ls) := by
  rw [lowN, if_pos (canN_iff.2 ⟨ls, g, rfl, h⟩), low_join g]
theorem can_join {ls : List (List UInt8)} (g : GoodN ls) (h : (joinN ls).length ≤ 255) : canN (joinN ls) = true := canN_iff.2 ⟨ls, g, rfl, h⟩
def sameN (a b : List UInt8) : Bool := canN a && canN b && decide (lowN a = lowN b)
def cntN (n : List UInt8) : Int := (labN n).length
def parN (n : List UInt8) : List UInt8 := joinN ((labN n).drop 1)
def hasP (n : List UInt8) : Bool := decide (labN n ≠ [])
def parS (n : List UInt8) : List UInt8 := if hasP n then parN n else []
def tailN (n : List UInt8) (k : Int) : List UInt8 := if canN n then joinN ((labN n).drop ((labN n).length - min (max k 0).toNat (labN n).length)) else []
def withN (n z : List UInt8) : Bool := canN n && canN z && decide (cntN z ≤ cntN n) && sameN (tailN n (cntN z)) z


theorem next_no {n : List UInt8} (h : nextB n = true) : nextL n = [] ∧ nextR n = n := by simp [nextL, nextR, h]
theorem next_yes {n : List UInt8} (h : nextB n = false) : nextL n = (n.take (1 + (n.getD 0 0).toNat)).drop 1 ∧ nextR n = n.drop (1 + (n.getD 0 0).toNat) := by simp [nextL, nextR, h]
theorem can_fin (n : List UInt8) : canN n = (decide (finN n = [0]) && decide (n.length ≤ 255)) := by rw [canN, fin_labs]
theorem labN_step {m : List UInt8} (h : canN m = true) (hb : nextB m = false) : labN m = nextL m :: labN (nextR m) ∧ canN (nextR m) = true := by
  obtain ⟨ls, g, rfl, hl⟩ := canN_iff.1 h
  match ls, g, hl, hb with
  | [], _, _, hb => rw [next_root] at hb; cases hb
  | l :: ls, g, hl, hb =>
    obtain ⟨_, e1, e2⟩ := next_join g
    have hl2 : (joinN ls).length ≤ 255 := by have := joinN_le (l := l) (ls := ls); omega
    rw [e1, e2, labN_join g hl, labN_join g.tail hl2]
    exact ⟨rfl, can_join g.tail hl2⟩
theorem labN_end {m : List UInt8} (h : canN m = true) (hb : nextB m = true) : labN m = [] ∧ m = [0] := by
  obtain ⟨ls, g, rfl, hl⟩ := canN_iff.1 h
  match ls, g, hl, hb with
  | [], g, hl, _ => exact ⟨labN_join g hl, rfl⟩
  | l :: ls, g, _, hb => rw [(next_join g).1] at hb; cases hb
theorem root_end {m : List UInt8} (h : canN m = true) (hb : nextB m = false) : ¬ m = [0] := fun e => by
  subst e
  rw [show nextB [0] = true from next_root] at hb
  cases hb
theorem canN_len {n : List UInt8} (h : canN n = true) : n.length ≤ 255 := by
  simp only [canN, Bool.and_eq_true, decide_eq_true_eq] at h
  exact h.2
theorem parS_step {n : List UInt8} (h : canN n = true) (hb : nextB n = false) : parS n = nextR n ∧ hasP n = true := by
  obtain ⟨e1, e2⟩ := labN_step h hb
  have hp : hasP n = true := by simp [hasP, e1]
  refine ⟨?_, hp⟩
  rw [parS, if_pos hp, parN, e1, List.drop_succ_cons, List.drop_zero]
  obtain ⟨ls, g, e, hl⟩ := canN_iff.1 e2
  rw [e, labN_join g hl]
theorem parS_no {n : List UInt8} (h : labN n = []) : parS n = [] ∧ hasP n = false := by
  have hp : hasP n = false := by simp [hasP, h]
  exact ⟨by rw [parS, if_neg (by simp [hp])], hp⟩
theorem tail_step {n : List UInt8} (h : canN n = true) {j : Nat} (hj : j < (labN n).length) : nextR (joinN ((labN n).drop j)) = joinN ((labN n).drop (j + 1)) ∧ (joinN ((labN n).drop j)).length ≤ 255 := by
  obtain ⟨ls, g, rfl, hl⟩ := canN_iff.1 h
  rw [labN_join g hl] at hj ⊢
  have gd : ∀ j, GoodN (ls.drop j) := fun j x hx => g x (List.mem_of_mem_drop hx)
  have hlen : ∀ j, (joinN (ls.drop j)).length ≤ 255 := by
    intro j
    have : ∀ (ls : List (List UInt8)) (j : Nat), (joinN (ls.drop j)).length ≤ (joinN ls).length := by
      intro ls
      induction ls with
      | nil => intro j; simp
      | cons l ls ih =>
        intro j
        cases j with
        | zero => simp
        | succ j =>
          have := ih j
          have := joinN_le (l := l) (ls := ls)
          simp only [List.drop_succ_cons]
          omega
    have := this ls j
    omega
  refine ⟨?_, hlen j⟩
  have e := List.drop_eq_getElem_cons hj
  have gj := gd j
  rw [e] at gj ⊢
  exact (next_join gj).2.2
theorem tail_start {n : List UInt8} (h : canN n = true) : n = joinN ((labN n).drop 0) := by
  obtain ⟨ls, g, rfl, hl⟩ := canN_iff.1 h
  rw [labN_join g hl, List.drop_zero]
theorem lower_step {n b : List UInt8} {i : Nat} (hi : i < n.length) (hb : b = (n.take i).map lowC ++ n.drop i) : b.getD i default = n.getD i default ∧ b.set i (lowC (n.getD i default)) = (n.take (i + 1)).map lowC ++ n.drop (i + 1) := by
  have hl : ((n.take i).map lowC).length = i := by simp; omega
  have e := List.drop_eq_getElem_cons hi
  have hg : n.getD i default = n[i] := by simp [List.getD_eq_getElem?_getD, List.getElem?_eq_getElem hi]
  rw [hg]
  subst hb
  refine ⟨?_, ?_⟩
  · rw [List.getD_eq_getElem?_getD, List.getElem?_append_right (by omega), hl, e, Nat.sub_self]
    rfl
  · rw [List.set_append_right _ _ (by omega), hl, Nat.sub_self, e, List.set_cons_zero, List.take_succ_eq_append_getElem hi, List.map_append, List.append_assoc]
    rfl
theorem lower_skip {n b : List UInt8} {i : Nat} (hi : i < n.length) (hb : b = (n.take i).map lowC ++ n.drop i) (hc : lowC (n.getD i default) = n.getD i default) : b = (n.take (i + 1)).map lowC ++ n.drop (i + 1) := by
  obtain ⟨e1, e2⟩ := lower_step hi hb
  rw [hc] at e2
  rw [← e2]
  have hlt : i < b.length := by rw [hb]; simp; omega
  apply List.ext_getElem?
  intro j
  rw [List.getElem?_set]
  split
  · rename_i h
    subst h
    rw [← e1, List.getD_eq_getElem?_getD, List.getElem?_eq_getElem hlt]
    rfl
  · rfl
theorem lower_len {n b : List UInt8} {i : Nat} (hi : i ≤ n.length) (hb : b = (n.take i).map lowC ++ n.drop i) : b.length = n.length := by
  rw [hb]; simp; omega

set_option maxRecDepth 20000 in
theorem c_name_next (n : List UInt8) (h : n.length ≤ 140737488355328) : AC Try.prog 64 [str n] emp (Ret (.tup [str (nextL n), str (nextR n), tf (!nextB n)])) := by
  refine AC.intro te_ok (fn := Try.f64) ⟨Try.func64, rfl, rfl⟩ (Nat.le_of_ble_eq_true rfl) ?_
  refine AWp.seq ?_
  refine AWp.region ?_
  refine AOps.cons rfl rfl (q_assign) ?_
  refine AOps.cons rfl rfl (q_assign) ?_
  refine AOps.cons rfl rfl (q_assign) ?_
  refine AOps.nil ?_
  refine AWp.seq ?_
  refine AWp.seq ?_
  refine AWp.region ?_
  refine AOps.cons rfl rfl (q_move) ?_
  refine AOps.cons rfl rfl (q_len_str) ?_
  refine AOps.dec rfl rfl (q_eql) (fun h1_2 => ?_) (fun h1_2 => ?_)
  · skip
    refine AOps.cons rfl rfl (q_move) ?_
    refine AOps.gskip rfl rfl rfl rfl rfl rfl rfl rfl ?_
    refine AOps.gskip rfl rfl rfl rfl rfl rfl rfl rfl ?_
    refine AOps.gskip rfl rfl rfl rfl rfl rfl rfl rfl ?_
    refine AOps.cons rfl rfl (q_pick) ?_
    refine AOps.cons rfl rfl (q_move) ?_
    refine AOps.gskip rfl rfl rfl rfl rfl rfl rfl rfl ?_
    refine AOps.gskip rfl rfl rfl rfl rfl rfl rfl rfl ?_
    refine AOps.gskip rfl rfl rfl rfl rfl rfl rfl rfl ?_
    refine AOps.cons rfl rfl (q_pick) ?_
    refine AOps.cons rfl rfl (q_move) ?_
    refine AOps.gskip rfl rfl rfl rfl rfl rfl rfl rfl ?_
    refine AOps.gskip rfl rfl rfl rfl rfl rfl rfl rfl ?_
    refine AOps.gskip rfl rfl rfl rfl rfl rfl rfl rfl ?_
    refine AOps.gskip rfl rfl rfl rfl rfl rfl rfl rfl ?_
    refine AOps.gskip rfl rfl rfl rfl rfl rfl rfl rfl ?_
    refine AOps.gskip rfl rfl rfl rfl rfl rfl rfl rfl ?_
    refine AOps.gskip rfl rfl rfl rfl rfl rfl rfl rfl ?_
    refine AOps.cons rfl rfl (q_pick) ?_
    refine AOps.nil ?_
    refine AWp.cond_t rfl ?_
    refine AWp.seq ?_
    refine AWp.region ?_
    refine AOps.cons rfl rfl (q_move) ?_
    refine AOps.cons rfl rfl (q_assign) ?_
    refine AOps.cons rfl rfl (q_assign) ?_
    refine AOps.cons rfl rfl (q_assign) ?_
    refine AOps.nil ?_
    refine AWp.ret ?_
    show Fin te Try.f64 _ _
    refine q_ret (0) [_, _, _] [_, _, _] ?_
    have hb : nextB n = true := by simp only [nextB, decide_eq_true_eq]; omega
    rw [(next_no hb).1, (next_no hb).2, hb]; rfl
  · skip
    refine AOps.cons rfl rfl (q_move) ?_
    refine AOps.gcons rfl rfl rfl rfl rfl (q_move) ?_
    refine AOps.gcons rfl rfl rfl rfl rfl (q_ixs) ?_
    refine AOps.gdec rfl rfl rfl rfl rfl (q_eql) (fun h1_6 => ?_) (fun h1_6 => ?_)
    · skip
      refine AOps.cons rfl rfl (q_pick) ?_
      refine AOps.cons rfl rfl (q_move) ?_
      refine AOps.gskip rfl rfl rfl rfl rfl rfl rfl rfl ?_
      refine AOps.gskip rfl rfl rfl rfl rfl rfl rfl rfl ?_
      refine AOps.gskip rfl rfl rfl rfl rfl rfl rfl rfl ?_
      refine AOps.cons rfl rfl (q_pick) ?_
      refine AOps.cons rfl rfl (q_move) ?_
      refine AOps.gskip rfl rfl rfl rfl rfl rfl rfl rfl ?_
      refine AOps.gskip rfl rfl rfl rfl rfl rfl rfl rfl ?_
      refine AOps.gskip rfl rfl rfl rfl rfl rfl rfl rfl ?_
      refine AOps.gskip rfl rfl rfl rfl rfl rfl rfl rfl ?_
      refine AOps.gskip rfl rfl rfl rfl rfl rfl rfl rfl ?_
      refine AOps.gskip rfl rfl rfl rfl rfl rfl rfl rfl ?_
      refine AOps.gskip rfl rfl rfl rfl rfl rfl rfl rfl ?_
      refine AOps.cons rfl rfl (q_pick) ?_
      refine AOps.nil ?_
      refine AWp.cond_t rfl ?_
      refine AWp.seq ?_
      refine AWp.region ?_
      refine AOps.cons rfl rfl (q_move) ?_
      refine AOps.cons rfl rfl (q_assign) ?_
      refine AOps.cons rfl rfl (q_assign) ?_
      refine AOps.cons rfl rfl (q_assign) ?_
      refine AOps.nil ?_
      refine AWp.ret ?_
      show Fin te Try.f64 _ _
      refine q_ret (0) [_, _, _] [_, _, _] ?_
      have hb : nextB n = true := by simp only [nextB, decide_eq_true_eq]; simp at *; omega
      rw [(next_no hb).1, (next_no hb).2, hb]; rfl
    · skip
      refine AOps.cons rfl rfl (q_pick) ?_
      refine AOps.cons rfl rfl (q_move) ?_
      refine AOps.gcons rfl rfl rfl rfl rfl (q_move) ?_
      refine AOps.gcons rfl rfl rfl rfl rfl (q_ixs) ?_
      refine AOps.gdec rfl rfl rfl rfl rfl (q_gtr) (fun h1_11 => ?_) (fun h1_11 => ?_)
      · skip
        refine AOps.cons rfl rfl (q_pick) ?_
        refine AOps.cons rfl rfl (q_move) ?_
        refine AOps.gskip rfl rfl rfl rfl rfl rfl rfl rfl ?_
        refine AOps.gskip rfl rfl rfl rfl rfl rfl rfl rfl ?_
        refine AOps.gskip rfl rfl rfl rfl rfl rfl rfl rfl ?_
        refine AOps.gskip rfl rfl rfl rfl rfl rfl rfl rfl ?_
        refine AOps.gskip rfl rfl rfl rfl rfl rfl rfl rfl ?_
        refine AOps.gskip rfl rfl rfl rfl rfl rfl rfl rfl ?_
        refine AOps.gskip rfl rfl rfl rfl rfl rfl rfl rfl ?_
        refine AOps.cons rfl rfl (q_pick) ?_
        refine AOps.nil ?_
        refine AWp.cond_t rfl ?_
        refine AWp.seq ?_
        refine AWp.region ?_
        refine AOps.cons rfl rfl (q_move) ?_
        refine AOps.cons rfl rfl (q_assign) ?_
        refine AOps.cons rfl rfl (q_assign) ?_
        refine AOps.cons rfl rfl (q_assign) ?_
        refine AOps.nil ?_
        refine AWp.ret ?_
        show Fin te Try.f64 _ _
        refine q_ret (0) [_, _, _] [_, _, _] ?_
        have hb : nextB n = true := by simp only [nextB, decide_eq_true_eq]; simp at *; omega
        rw [(next_no hb).1, (next_no hb).2, hb]; rfl
      · skip
        refine AOps.cons rfl rfl (q_pick) ?_
        refine AOps.cons rfl rfl (q_move) ?_
        refine AOps.gcons rfl rfl rfl rfl rfl (q_move) ?_
        refine AOps.gcons rfl rfl rfl rfl rfl (q_len_str) ?_
        refine AOps.gcons rfl rfl rfl rfl rfl (q_move) ?_
        refine AOps.gcons rfl rfl rfl rfl rfl (q_ixs) ?_
        refine AOps.gcons rfl rfl rfl rfl rfl (q_conv_8i) ?_
        refine AOps.gcons rfl rfl rfl rfl rfl (q_add) ?_
        refine AOps.gdec rfl rfl rfl rfl rfl (q_lss) (fun h1_20 => ?_) (fun h1_20 => ?_)
        · skip
          refine AOps.cons rfl rfl (q_pick) ?_
          refine AOps.nil ?_
          refine AWp.cond_t rfl ?_
          refine AWp.seq ?_
          refine AWp.region ?_
          refine AOps.cons rfl rfl (q_move) ?_
          refine AOps.cons rfl rfl (q_assign) ?_
          refine AOps.cons rfl rfl (q_assign) ?_
          refine AOps.cons rfl rfl (q_assign) ?_
          refine AOps.nil ?_
          refine AWp.ret ?_
          show Fin te Try.f64 _ _
          refine q_ret (0) [_, _, _] [_, _, _] ?_
          have hb : nextB n = true := by simp only [nextB, decide_eq_true_eq]; simp at *; omega
          rw [(next_no hb).1, (next_no hb).2, hb]; rfl
        · skip
          refine AOps.cons rfl rfl (q_pick) ?_
          refine AOps.nil ?_
          refine AWp.cond_f rfl ?_
          refine AWp.skip ?_
          refine AWp.seq ?_
          refine AWp.region ?_
          have k1 : ¬ ((n.getD 0 0).toNat : Int) = 0 := h1_6
          have k2 : ¬ 63 < ((n.getD 0 0).toNat : Int) := h1_11
          have k3 : ¬ (n.length : Int) < 2 + ((n.getD 0 0).toNat : Int) := h1_20
          have hb : nextB n = false := by simp only [nextB, decide_eq_false_iff_not]; omega
          obtain ⟨e1, e2⟩ := next_yes hb
          have hk := (n.getD 0 0).toNat_lt
          refine AOps.cons rfl rfl (q_move) ?_
          refine AOps.cons rfl rfl (q_ixs) ?_
          refine AOps.cons rfl rfl (q_conv_8i) ?_
          refine AOps.cons rfl rfl (q_add) ?_
          refine AOps.cons rfl rfl (q_assign) ?_
          refine AOps.nil ?_
          refine AWp.seq ?_
          refine AWp.draws [⟨0, [0], [], some 33, _, none⟩,
              ⟨1, [5], [], some 34, _, none⟩,
              ⟨2, [33, 34], [], some 35, _, none⟩,
              ⟨3, [0], [], some 36, _, none⟩,
              ⟨4, [5], [], some 37, _, none⟩,
              ⟨5, [36, 37], [], some 38, _, none⟩,
              ⟨6, [35], [], some 2, _, none⟩,
              ⟨7, [38], [], some 3, _, none⟩,
              ⟨8, [], [], some 4, _, none⟩]
            [⟨0, [0], [], some 33, .any, none⟩,
                ⟨1, [5], [], some 34, .any, none⟩,
                ⟨2, [33, 34], [], some 35, .any, none⟩,
                ⟨3, [0], [], some 36, .any, none⟩,
                ⟨4, [5], [], some 37, .any, none⟩,
                ⟨5, [36, 37], [], some 38, .any, none⟩,
                ⟨6, [35], [], some 2, .any, none⟩,
                ⟨7, [38], [], some 3, .any, none⟩,
                ⟨8, [], [], some 4, .any, none⟩]
            mixed_ok rfl (by kernel_rfl) ⟨DS.ok_over fun s0 => OpAt.go rfl rfl (q_move),
                DS.ok_over fun s0 => OpAt.go rfl rfl (q_move),
                DS.ok_over fun s0 => OpAt.go rfl rfl (q_sls),
                DS.ok_over fun s0 => OpAt.go rfl rfl (q_move),
                DS.ok_over fun s0 => OpAt.go rfl rfl (q_move),
                DS.ok_over fun s0 => OpAt.go rfl rfl (q_sls_lo),
                DS.ok_over fun s0 => OpAt.go rfl rfl (q_assign),
                DS.ok_over fun s0 => OpAt.go rfl rfl (q_assign),
                DS.ok_over fun s0 => OpAt.go rfl rfl (q_assign), trivial⟩ ?_
          dsimp only [final, DS.upd, AS.seto]
          refine AWp.ret ?_
          show Fin te Try.f64 _ _
          refine q_ret (0) [_, _, _] [_, _, _] ?_
          have hk2 : ((1:Int) + ((n.getD 0 0).toNat:Int)).toNat = 1 + (n.getD 0 0).toNat := by omega
          show resVal [str (List.drop 1 (List.take ((1:Int) + ((n.getD 0 0).toNat:Int)).toNat n)), str (List.drop ((1:Int) + ((n.getD 0 0).toNat:Int)).toNat n), tf true] = _
          rw [e1, e2, hb, hk2]; rfl

set_option maxRecDepth 20000 in
theorem c_name_Can (n : List UInt8) (h : n.length ≤ 140737488355328) : AC Try.prog 39 [str n] emp (Ret (tf (canN n))) := by
  refine AC.intro te_ok (fn := Try.f39) ⟨Try.func39, rfl, rfl⟩ (Nat.le_of_ble_eq_true rfl) ?_
  refine AWp.seq ?_
  refine AWp.region ?_
  refine AOps.cons rfl rfl (q_assign) ?_
  refine AOps.nil ?_
  refine AWp.scope ?_
  refine AWp.seq ?_
  refine AWp.region ?_
  refine AOps.cons rfl rfl (q_move) ?_
  refine AOps.cons rfl rfl (q_assign) ?_
  refine AOps.nil ?_
  refine AWp.seq ?_
  refine AWp.label ?_
  refine AWp.seq ?_
  refine AWp.block ?_
  refine AWp.loopR (α := List UInt8) [3, 4, 5, 6, 8, 9, 10, 11, 12, 13, 14, 15, 16] (fun r => [(3, str r)]) (fun r => []) (fun r => finN r = finN n ∧ r.length ≤ n.length) (fun r => r.length) n ?_ (Back.mk' (HasT.cons HasT.nil) HasH.nil) ?_
  · exact ⟨rfl, Nat.le_refl _⟩
  · rintro r ⟨hf, hl⟩
    refine AWp.block ?_
    refine AWp.seq ?_
    refine AWp.region ?_
    refine AOps.cons rfl rfl (q_move) ?_
    refine AOps.cons rfl rfl (q_call (0) (hc := c_name_next _ (by first | assumption | omega | decide | (simp; omega) | (simp [*]; done)))) ?_
    refine AOps.cons rfl rfl (q_move) ?_
    refine AOps.cons rfl rfl (q_extract) ?_
    refine AOps.cons rfl rfl (q_extract) ?_
    refine AOps.bool rfl rfl (q_extract) (fun h2_5 => ?_) (fun h2_5 => ?_)
    · skip
      refine AOps.cons rfl rfl (q_assign) ?_
      refine AOps.cons rfl rfl (q_assign) ?_
      refine AOps.cons rfl rfl (q_assign) ?_
      refine AOps.nil ?_
      refine AWp.seq ?_
      refine AWp.seq ?_
      refine AWp.region ?_
      refine AOps.cons rfl rfl (q_move) ?_
      refine AOps.cons rfl rfl (q_not) ?_
      refine AOps.nil ?_
      refine AWp.cond_f rfl ?_
      refine AWp.skip ?_
      refine AWp.region ?_
      refine AOps.cons rfl rfl (q_move) ?_
      refine AOps.cons rfl rfl (q_assign) ?_
      refine AOps.nil ?_
      refine ⟨nextR r, ?_, Back.mk' (HasT.cons HasT.nil) HasH.nil, ?_⟩
      · have hb : nextB r = false := by simpa using h2_5
        have := nextR_lt hb
        exact ⟨by rw [← finN_step hb, hf], by omega⟩
      · exact nextR_lt (by simpa using h2_5)
    · skip
      refine AOps.cons rfl rfl (q_assign) ?_
      refine AOps.cons rfl rfl (q_assign) ?_
      refine AOps.cons rfl rfl (q_assign) ?_
      refine AOps.nil ?_
      refine AWp.seq ?_
      refine AWp.seq ?_
      refine AWp.region ?_
      refine AOps.cons rfl rfl (q_move) ?_
      refine AOps.cons rfl rfl (q_not) ?_
      refine AOps.nil ?_
      refine AWp.cond_t rfl ?_
      refine AWp.exit ?_
      refine AWp.seq ?_
      refine AWp.region ?_
      refine AOps.cons rfl rfl (q_move) ?_
      refine AOps.dec rfl rfl (q_seql) (fun h5_1 => ?_) (fun h5_1 => ?_)
      · skip
        refine AOps.cons rfl rfl (q_move) ?_
        refine AOps.gcons rfl rfl rfl rfl rfl (q_move) ?_
        refine AOps.gcons rfl rfl rfl rfl rfl (q_len_str) ?_
        refine AOps.gcons rfl rfl rfl rfl rfl (q_leq) ?_
        refine AOps.cons rfl rfl (q_pick) ?_
        refine AOps.cons rfl rfl (q_assign) ?_
        refine AOps.nil ?_
        refine AWp.ret ?_
        show Fin te Try.f39 _ _
        refine q_ret (0) [_] [_] ?_
        have e : finN n = r := by rw [← hf, finN_stop (by simpa using h2_5)]
        rw [can_fin, e, h5_1]; simp [resVal]; omega
      · skip
        refine AOps.cons rfl rfl (q_move) ?_
        refine AOps.gskip rfl rfl rfl rfl rfl rfl rfl rfl ?_
        refine AOps.gskip rfl rfl rfl rfl rfl rfl rfl rfl ?_
        refine AOps.gskip rfl rfl rfl rfl rfl rfl rfl rfl ?_
        refine AOps.cons rfl rfl (q_pick) ?_
        refine AOps.cons rfl rfl (q_assign) ?_
        refine AOps.nil ?_
        refine AWp.ret ?_
        show Fin te Try.f39 _ _
        refine q_ret (0) [_] [_] ?_
        have e : finN n = r := by rw [← hf, finN_stop (by simpa using h2_5)]
        rw [can_fin, e, decide_eq_false h5_1]; rfl

set_option maxRecDepth 20000 in
theorem co_labels (n : List UInt8) (h : n.length ≤ 140737488355328) : AC Try.prog 74 [str n] (hlook []) (RetH (.sl 8 0 0 (labN n).length 1) [(8, .row (cl sc (labN n)) 1 0)]) := by
  refine AC.intro te_ok (fn := Try.f74) ⟨Try.func74, rfl, rfl⟩ (Nat.le_of_ble_eq_true rfl) ?_
  refine AWp.seq ?_
  refine AWp.region ?_
  refine AOps.cons rfl rfl (q_nilz (0) sc) ?_
  refine AOps.nil ?_
  refine AWp.seq ?_
  refine AWp.region ?_
  refine AOps.cons rfl rfl (q_nilrow 8 1 sc) ?_
  refine AOps.nil ?_
  refine AWp.seq ?_
  refine AWp.block ?_
  refine AWp.loopR (α := List UInt8 × List (List UInt8) × Nat) [0, 3, 4, 5, 6, 7, 8, 9, 10, 11, 12, 13, 14, 15, 16, 17, 18, 19, 20, 21] (fun x_ => [(0, str (x_.1)), (3, .sl 8 (x_.2.2) 0 (x_.2.1).length 1)]) (fun x_ => [(8, .row (cl sc (x_.2.1)) 1 (x_.2.2))]) (fun x_ => labN n = (x_.2.1) ++ labN (x_.1) ∧ (x_.1).length ≤ n.length) (fun x_ => (x_.1).length) (n, [], 0) ?_ (Back.mk' (HasT.cons (HasT.cons HasT.nil)) (HasH.cons HasH.nil)) ?_
  · exact ⟨rfl, Nat.le_refl _⟩
  · rintro ⟨m, acc, v⟩ hI2
    change labN n = acc ++ labN m ∧ m.length ≤ n.length at hI2
    obtain ⟨hI, hm⟩ := hI2
    refine AWp.as (s' := AS.over _ [0, 3, 4, 5, 6, 7, 8, 9, 10, 11, 12, 13, 14, 15, 16, 17, 18, 19, 20, 21] [(0, str m), (3, .sl 8 v 0 acc.length 1)] [(8, .row (cl sc acc) 1 v)]) rfl ?_
    have hll := labN_len n
    rw [hI, List.length_append] at hll
    refine AWp.seq ?_
    refine AWp.seq ?_
    refine AWp.region ?_
    refine AOps.cons rfl rfl (q_move) ?_
    refine AOps.bool rfl rfl (q_call (0) (hc := c_name_Can _ (by first | assumption | omega | decide | (simp; omega) | (simp [*]; done)))) (fun h2_1 => ?_) (fun h2_1 => ?_)
    · skip
      refine AOps.nil ?_
      refine AWp.cond_t rfl ?_
      refine AWp.skip ?_
      refine AWp.block ?_
      refine AWp.seq ?_
      refine AWp.region ?_
      refine AOps.cons rfl rfl (q_move) ?_
      refine AOps.cons rfl rfl (q_call (0) (hc := c_name_next _ (by first | assumption | omega | decide | (simp; omega) | (simp [*]; done)))) ?_
      refine AOps.cons rfl rfl (q_move) ?_
      refine AOps.cons rfl rfl (q_extract) ?_
      refine AOps.cons rfl rfl (q_extract) ?_
      refine AOps.bool rfl rfl (q_extract) (fun h3_5 => ?_) (fun h3_5 => ?_)
      · skip
        refine AOps.cons rfl rfl (q_assign) ?_
        refine AOps.cons rfl rfl (q_assign) ?_
        refine AOps.cons rfl rfl (q_assign) ?_
        refine AOps.nil ?_
        refine AWp.seq ?_
        refine AWp.seq ?_
        refine AWp.region ?_
        refine AOps.cons rfl rfl (q_move) ?_
        refine AOps.cons rfl rfl (q_not) ?_
        refine AOps.nil ?_
        refine AWp.cond_f rfl ?_
        refine AWp.skip ?_
        refine AWp.region ?_
        refine AOps.cons rfl rfl (q_move) ?_
        refine AOps.cons rfl rfl (q_move) ?_
        refine AOps.cons rfl rfl (q_bs 602 sc [_] [(_, _)]) ?_
        refine AOps.cons rfl rfl (q_app) ?_
        refine AOps.cons rfl rfl (q_move) ?_
        refine AOps.cons rfl rfl (q_assign) ?_
        refine AOps.cons rfl rfl (q_assign) ?_
        refine AOps.nil ?_
        refine ⟨(nextR m, _, _), ?_, Back.mk' (HasT.cons (HasT.cons HasT.nil)) (HasH.cons HasH.nil), ?_⟩
        · try dsimp only
          have hb : nextB m = false := by simpa using h3_5
          have := nextR_lt hb
          exact ⟨by rw [hI, (labN_step h2_1 hb).1]; simp, by omega⟩
        · try dsimp only
          exact nextR_lt (by simpa using h3_5)
      · skip
        refine AOps.cons rfl rfl (q_assign) ?_
        refine AOps.cons rfl rfl (q_assign) ?_
        refine AOps.cons rfl rfl (q_assign) ?_
        refine AOps.nil ?_
        refine AWp.seq ?_
        refine AWp.seq ?_
        refine AWp.region ?_
        refine AOps.cons rfl rfl (q_move) ?_
        refine AOps.cons rfl rfl (q_not) ?_
        refine AOps.nil ?_
        refine AWp.cond_t rfl ?_
        refine AWp.exit ?_
        refine AWp.seq ?_
        refine AWp.region ?_
        refine AOps.cons rfl rfl (q_move) ?_
        refine AOps.cons rfl rfl (q_assign) ?_
        refine AOps.nil ?_
        refine AWp.ret ?_
        show Fin te Try.f74 _ _
        obtain rfl : acc = labN n := by rw [hI, (labN_end h2_1 (by simpa using h3_5)).1, List.append_nil]
        refine q_retH (0) [8] [_] [.sl 8 0 0 _ 1] [(8, .row (cl sc _) 1 0)] ?_
        rfl
    · skip
      refine AOps.nil ?_
      refine AWp.cond_f rfl ?_
      refine AWp.exit ?_
      refine AWp.seq ?_
      refine AWp.region ?_
      refine AOps.cons rfl rfl (q_move) ?_
      refine AOps.cons rfl rfl (q_assign) ?_
      refine AOps.nil ?_
      refine AWp.ret ?_
      show Fin te Try.f74 _ _
      obtain rfl : acc = labN n := by rw [hI, labN_no h2_1, List.append_nil]
      refine q_retH (0) [8] [_] [.sl 8 0 0 _ 1] [(8, .row (cl sc _) 1 0)] ?_
      rfl

theorem c_labels (n : List UInt8) (h : n.length ≤ 140737488355328) : AC Try.prog 74 [str n] emp (Ret (.fz 0 (labN n).length (cl sc (labN n)))) := AC.fz (co_labels n h) 0 (fv_row0 rfl .row (fun _ => rfl) (Nat.le_of_ble_eq_true rfl) (fun _ => rfl))
set_option maxRecDepth 20000 in
theorem c_name_Lower (n : List UInt8) (h : n.length ≤ 140737488355328) : AC Try.prog 68 [str n] emp (Ret (str (lowN n))) := by
  refine AC.intro te_ok (fn := Try.f68) ⟨Try.func68, rfl, rfl⟩ (Nat.le_of_ble_eq_true rfl) ?_
  refine AWp.seq ?_
  refine AWp.region ?_
  refine AOps.cons rfl rfl (q_assign) ?_
  refine AOps.nil ?_
  refine AWp.seq ?_
  refine AWp.seq ?_
  refine AWp.region ?_
  refine AOps.cons rfl rfl (q_move) ?_
  refine AOps.bool rfl rfl (q_call (0) (hc := c_name_Can _ (by first | assumption | omega | decide | (simp; omega) | (simp [*]; done)))) (fun h1_1 => ?_) (fun h1_1 => ?_)
  · skip
    refine AOps.cons rfl rfl (q_not) ?_
    refine AOps.nil ?_
    refine AWp.cond_f rfl ?_
    refine AWp.skip ?_
    refine AWp.seq ?_
    refine AWp.region ?_
    refine AOps.cons rfl rfl (q_move) ?_
    refine AOps.cons rfl rfl (q_conv_sl 401) ?_
    refine AOps.cons rfl rfl (q_assign) ?_
    refine AOps.nil ?_
    refine AWp.seq ?_
    refine AWp.seq ?_
    refine AWp.region ?_
    refine AOps.cons rfl rfl (q_move) ?_
    refine AOps.cons rfl rfl (q_len) ?_
    refine AOps.cons rfl rfl (q_move) ?_
    refine AOps.nil ?_
    refine AWp.block ?_
    refine AWp.loopR (α := Nat × List UInt8) [4, 5, 13, 14, 15, 16, 17, 18, 19, 20, 21, 22, 23, 24, 25, 26, 27, 28, 29] (fun x_ => [(13, i64 (x_.1))]) (fun x_ => [(401, .row (cl bc (x_.2)) 1 0)]) (fun x_ => (x_.1) ≤ n.length ∧ (x_.2) = (n.take (x_.1)).map lowC ++ n.drop (x_.1)) (fun x_ => n.length - (x_.1)) (0, n) ?_ (Back.mk' (HasT.cons HasT.nil) (HasH.cons HasH.nil)) ?_
    · exact ⟨Nat.zero_le _, by simp⟩
    · rintro ⟨i, b⟩ hI5
      change i ≤ n.length ∧ b = (n.take i).map lowC ++ n.drop i at hI5
      obtain ⟨hi, hb⟩ := hI5
      refine AWp.as (s' := AS.over _ [4, 5, 13, 14, 15, 16, 17, 18, 19, 20, 21, 22, 23, 24, 25, 26, 27, 28, 29] [(13, i64 i)] [(401, .row (cl bc b) 1 0)]) rfl ?_
      have hbl := lower_len hi hb
      refine AWp.seq ?_
      refine AWp.region ?_
      refine AOps.dec rfl rfl (q_lss) (fun h5_0 => ?_) (fun h5_0 => ?_)
      · skip
        refine AOps.nil ?_
        refine AWp.seq ?_
        refine AWp.cond_t rfl ?_
        refine AWp.skip ?_
        refine AWp.seq ?_
        refine AWp.block ?_
        refine AWp.seq ?_
        refine AWp.region ?_
        refine AOps.cons rfl rfl (q_move) ?_
        refine AOps.cons rfl rfl (q_ix) ?_
        refine AOps.cons rfl rfl (q_load) ?_
        refine AOps.cons rfl rfl (q_assign) ?_
        refine AOps.cons rfl rfl (q_assign) ?_
        refine AOps.nil ?_
        refine AWp.seq ?_
        refine AWp.region ?_
        have hx := lower_step (by omega) hb
        refine AOps.cons rfl rfl (q_move) ?_
        refine AOps.dec rfl rfl (q_geq) (fun h7_1 => ?_) (fun h7_1 => ?_)
        · skip
          refine AOps.cons rfl rfl (q_move) ?_
          refine AOps.gcons rfl rfl rfl rfl rfl (q_move) ?_
          refine AOps.gdec rfl rfl rfl rfl rfl (q_leq) (fun h7_4 => ?_) (fun h7_4 => ?_)
          · skip
            refine AOps.cons rfl rfl (q_pick) ?_
            refine AOps.nil ?_
            refine AWp.cond_t rfl ?_
            refine AWp.region ?_
            refine AOps.cons rfl rfl (q_move) ?_
            refine AOps.cons rfl rfl (q_move) ?_
            refine AOps.cons rfl rfl (q_move) ?_
            refine AOps.cons rfl rfl (q_or8 _ 32) ?_
            refine AOps.cons rfl rfl (q_ix) ?_
            refine AOps.cons rfl rfl (q_store) ?_
            refine AOps.nil ?_
            refine AWp.region ?_
            refine AOps.cons rfl rfl (q_add) ?_
            refine AOps.cons rfl rfl (q_move) ?_
            refine AOps.nil ?_
            refine ⟨(i + 1, _), ?_, Back.mk' (HasT.cons HasT.nil) (HasH.cons HasH.nil), ?_⟩
            · try dsimp only
              have k1 : 65 ≤ ((b.getD i default).toNat : Int) := h7_1
              have k2 : ((b.getD i default).toNat : Int) ≤ 90 := h7_4
              rw [hx.1] at k1 k2
              have e := hx.2
              rw [show lowC (n.getD i default) = n.getD i default ||| 32 from (if_pos ⟨by omega, by omega⟩).trans (rfl), ← hx.1] at e
              exact ⟨by omega, e⟩
            · try dsimp only
              first | omega | (simp; omega)
          · skip
            refine AOps.cons rfl rfl (q_pick) ?_
            refine AOps.nil ?_
            refine AWp.cond_f rfl ?_
            refine AWp.skip ?_
            refine AWp.region ?_
            refine AOps.cons rfl rfl (q_add) ?_
            refine AOps.cons rfl rfl (q_move) ?_
            refine AOps.nil ?_
            refine ⟨(i + 1, _), ?_, Back.mk' (HasT.cons HasT.nil) (HasH.cons HasH.nil), ?_⟩
            · try dsimp only
              exact ⟨by omega, lower_skip (by omega) hb (if_neg (by have k1 : ¬ ((b.getD i default).toNat : Int) ≤ 90 := h7_4; rw [hx.1] at k1; omega))⟩
            · try dsimp only
              first | omega | (simp; omega)
        · skip
          refine AOps.cons rfl rfl (q_move) ?_
          refine AOps.gskip rfl rfl rfl rfl rfl rfl rfl rfl ?_
          refine AOps.gskip rfl rfl rfl rfl rfl rfl rfl rfl ?_
          refine AOps.cons rfl rfl (q_pick) ?_
          refine AOps.nil ?_
          refine AWp.cond_f rfl ?_
          refine AWp.skip ?_
          refine AWp.region ?_
          refine AOps.cons rfl rfl (q_add) ?_
          refine AOps.cons rfl rfl (q_move) ?_
          refine AOps.nil ?_
          refine ⟨(i + 1, _), ?_, Back.mk' (HasT.cons HasT.nil) (HasH.cons HasH.nil), ?_⟩
          · try dsimp only
            exact ⟨by omega, lower_skip (by omega) hb (if_neg (by have k1 : ¬ 65 ≤ ((b.getD i default).toNat : Int) := h7_1; rw [hx.1] at k1; omega))⟩
          · try dsimp only
            first | omega | (simp; omega)
      · skip
        refine AOps.nil ?_
        refine AWp.seq ?_
        refine AWp.cond_f rfl ?_
        refine AWp.exit ?_
        refine AWp.seq ?_
        refine AWp.region ?_
        obtain rfl : i = n.length := by simp at h5_0; omega
        have hb2 : b = n.map lowC := by rw [hb, List.take_length, List.drop_length, List.append_nil]
        subst hb2
        refine AOps.cons rfl rfl (q_move) ?_
        refine AOps.cons rfl rfl (q_conv_ls) ?_
        refine AOps.cons rfl rfl (q_assign) ?_
        refine AOps.nil ?_
        refine AWp.ret ?_
        show Fin te Try.f68 _ _
        refine q_ret (0) [_] [_] ?_
        rw [lowN, if_pos h1_1]; rfl
  · skip
    refine AOps.cons rfl rfl (q_not) ?_
    refine AOps.nil ?_
    refine AWp.cond_t rfl ?_
    refine AWp.seq ?_
    refine AWp.region ?_
    refine AOps.cons rfl rfl (q_assign) ?_
    refine AOps.nil ?_
    refine AWp.ret ?_
    show Fin te Try.f68 _ _
    refine q_ret (0) [_] [_] ?_
    rw [lowN, if_neg (by simp [h1_1])]; rfl

end Go.Proofs.Ytaemmklgofddmaa.Fw
