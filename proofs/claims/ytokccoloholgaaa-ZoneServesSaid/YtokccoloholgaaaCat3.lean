/- The texts W01, W01b, W01c, W03, W03b, W03c, M0, J04a, M1, M2, J04b, Q24, Ws, one behind the other: what the walks and plain laws need; conditions stand with each theorem. -/
import Derived.Test.YtokccoloholgaaaCat2
set_option linter.unusedVariables false
set_option linter.unusedSimpArgs false
namespace Go.Proofs.Ytokccoloholgaaa.Fw
open Go.RowKit
def labs (n : List UInt8) : Option (List (List UInt8)) :=
  match n with
  | [] => none
  | k :: r => if k = 0 then (if r = [] then some [] else none) else if 63 < k.toNat ∨ r.length < k.toNat then none else (labs (r.drop k.toNat)).map (r.take k.toNat :: ·)
termination_by n.length
decreasing_by simp; omega
def joinN (ls : List (List UInt8)) : List UInt8 := ls.flatMap (fun l => byte (l.length : Int) :: l) ++ [0]
def GoodN (ls : List (List UInt8)) : Prop := ∀ l ∈ ls, 1 ≤ l.length ∧ l.length ≤ 63
theorem joinN_nil : joinN [] = [0] := rfl
theorem joinN_cons (l : List UInt8) (ls : List (List UInt8)) : joinN (l :: ls) = byte (l.length : Int) :: (l ++ joinN ls) := by simp [joinN, List.append_assoc]
theorem byte_nat {k : Nat} (h : k < 256) : (byte (k : Int)).toNat = k := by
  have := byte_toNat (k : Int)
  omega
theorem byte_len {l : List UInt8} (h : l.length ≤ 63) : (byte (l.length : Int)).toNat = l.length := byte_nat (by omega)
theorem byte_ne {l : List UInt8} (h : 1 ≤ l.length ∧ l.length ≤ 63) : byte (l.length : Int) ≠ 0 := fun e => by
  have := byte_len h.2
  rw [e] at this
  simp at this
  omega
theorem GoodN.tail {l : List UInt8} {ls : List (List UInt8)} (h : GoodN (l :: ls)) : GoodN ls := fun x hx => h x (by simp [hx])
theorem GoodN.head {l : List UInt8} {ls : List (List UInt8)} (h : GoodN (l :: ls)) : 1 ≤ l.length ∧ l.length ≤ 63 := h l (by simp)
theorem GoodN.nil : GoodN [] := fun x hx => by cases hx
theorem labs_join : ∀ {ls : List (List UInt8)}, GoodN ls → labs (joinN ls) = some ls
  | [], _ => by rw [joinN_nil, labs]; rfl
  | l :: ls, h => by
    have h1 := byte_len h.head.2
    rw [joinN_cons, labs, if_neg (byte_ne h.head), h1, if_neg (by simp; have := h.head; omega), List.drop_left, List.take_left, labs_join h.tail]
    rfl
theorem labs_some : ∀ {n : List UInt8} {ls : List (List UInt8)}, labs n = some ls → n = joinN ls ∧ GoodN ls := by
  intro n
  induction h : n.length using Nat.strongRecOn generalizing n with
  | ind m ih =>
    intro ls hl
    match n, h, hl with
    | [], _, hl => rw [labs] at hl; cases hl
    | k :: r, h, hl =>
      rw [labs] at hl
      by_cases hk : k = 0
      · rw [if_pos hk] at hl
        by_cases hr : r = []
        · rw [if_pos hr] at hl
          cases hl
          exact ⟨by rw [hk, hr]; rfl, GoodN.nil⟩
        · rw [if_neg hr] at hl; cases hl
      · rw [if_neg hk] at hl
        have hkp : 0 < k.toNat := by
          rcases Nat.eq_zero_or_pos k.toNat with e | e
          · exact absurd (UInt8.toNat_inj.1 (by simpa using e)) hk
          · exact e
        split at hl
        · cases hl
        · rename_i hc
          obtain ⟨q, hq, rfl⟩ := Option.map_eq_some_iff.1 hl
          obtain ⟨e, g⟩ := ih (r.drop k.toNat).length (by rw [← h]; simp; omega) rfl hq
          have hlen : (r.take k.toNat).length = k.toNat := by rw [List.length_take]; omega
          refine ⟨?_, fun x hx => ?_⟩
          · rw [joinN_cons, ← e, List.take_append_drop, hlen, byte_of_toNat]
          · rcases List.mem_cons.1 hx with rfl | hx
            · omega
            · exact g x hx
theorem joinN_inj {a b : List (List UInt8)} (ha : GoodN a) (hb : GoodN b) (h : joinN a = joinN b) : a = b := by
  have h1 := labs_join ha
  have h2 := labs_join hb
  rw [h, h2] at h1
  exact (Option.some.inj h1).symm
def canN (n : List UInt8) : Bool := (labs n).isSome && decide (n.length ≤ 255)
def labN (n : List UInt8) : List (List UInt8) := if canN n then (labs n).getD [] else []
theorem canN_iff {n : List UInt8} : canN n = true ↔ ∃ ls, GoodN ls ∧ n = joinN ls ∧ (joinN ls).length ≤ 255 := by
  simp only [canN, Bool.and_eq_true, decide_eq_true_eq]
  constructor
  · rintro ⟨h1, h2⟩
    obtain ⟨ls, hl⟩ := Option.isSome_iff_exists.1 h1
    obtain ⟨rfl, g⟩ := labs_some hl
    exact ⟨ls, g, rfl, h2⟩
  · rintro ⟨ls, g, rfl, h⟩
    exact ⟨by rw [labs_join g]; rfl, h⟩
theorem labN_join {ls : List (List UInt8)} (g : GoodN ls) (h : (joinN ls).length ≤ 255) : labN (joinN ls) = ls := by
  rw [labN, if_pos (canN_iff.2 ⟨ls, g, rfl, h⟩), labs_join g]; rfl
theorem labN_no {n : List UInt8} (h : canN n = false) : labN n = [] := by rw [labN, if_neg (by simp [h])]
theorem joinN_length (ls : List (List UInt8)) : ls.length < (joinN ls).length := by
  induction ls with
  | nil => simp [joinN]
  | cons l ls ih => rw [joinN_cons]; simp; omega
theorem joinN_le {l : List UInt8} {ls : List (List UInt8)} : (joinN ls).length < (joinN (l :: ls)).length := by rw [joinN_cons]; simp; omega
theorem labN_len (n : List UInt8) : (labN n).length ≤ 254 := by
  cases h : canN n with
  | false => simp [labN_no h]
  | true =>
    obtain ⟨ls, g, rfl, hl⟩ := canN_iff.1 h
    have := joinN_length ls
    rw [labN_join g hl]
    omega
def nextB (n : List UInt8) : Bool := decide (n.length = 0 ∨ (n.getD 0 0).toNat = 0 ∨ 63 < (n.getD 0 0).toNat ∨ n.length < 2 + (n.getD 0 0).toNat)
def nextL (n : List UInt8) : List UInt8 := if nextB n then [] else (n.take (1 + (n.getD 0 0).toNat)).drop 1
def nextR (n : List UInt8) : List UInt8 := if nextB n then n else n.drop (1 + (n.getD 0 0).toNat)
theorem next_join {l : List UInt8} {ls : List (List UInt8)} (g : GoodN (l :: ls)) : nextB (joinN (l :: ls)) = false ∧ nextL (joinN (l :: ls)) = l ∧ nextR (joinN (l :: ls)) = joinN ls := by
  have h1 := byte_len g.head.2
  have h0 : (joinN (l :: ls)).getD 0 0 = byte (l.length : Int) := by rw [joinN_cons]; rfl
  have hl := joinN_length ls
  have hb : nextB (joinN (l :: ls)) = false := by
    have := g.head
    simp only [nextB, h0, h1, decide_eq_false_iff_not]
    rw [joinN_cons, List.length_cons, List.length_append]
    omega
  refine ⟨hb, ?_, ?_⟩
  · rw [nextL, hb, h0, h1, joinN_cons, Nat.add_comm, List.take_succ_cons, List.drop_succ_cons, List.drop_zero, List.take_left]
    rfl
  · rw [nextR, hb, h0, h1, joinN_cons, Nat.add_comm, List.drop_succ_cons, List.drop_left]
    rfl
theorem next_root : nextB (joinN []) = true := by simp [nextB, joinN]
theorem nextR_lt {n : List UInt8} (h : nextB n = false) : (nextR n).length < n.length := by
  have h1 := h
  simp only [nextB, decide_eq_false_iff_not] at h1
  rw [nextR, h]
  simp only [Bool.false_eq_true, if_false, List.length_drop]
  omega
def finN (n : List UInt8) : List UInt8 := if h : nextB n = true then n else finN (nextR n)
termination_by n.length
decreasing_by exact nextR_lt (by simpa using h)
theorem finN_stop {n : List UInt8} (h : nextB n = true) : finN n = n := by rw [finN, dif_pos h]
theorem finN_step {n : List UInt8} (h : nextB n = false) : finN n = finN (nextR n) := by rw [finN, dif_neg (by simp [h])]
theorem labs_step {n : List UInt8} (h : nextB n = false) : (labs n).isSome = (labs (nextR n)).isSome := by
  have h1 := h
  simp only [nextB, decide_eq_false_iff_not] at h1
  match n, h, h1 with
  | [], _, h1 => simp at h1
  | k :: r, h, h1 =>
    simp only [List.getD_cons_zero, List.length_cons] at h1
    have hk : k ≠ 0 := fun e => by subst e; simp at h1
    rw [nextR, h, labs, if_neg hk, if_neg (by omega)]
    simp only [Bool.false_eq_true, if_false, List.getD_cons_zero, Option.isSome_map]
    rw [Nat.add_comm, List.drop_succ_cons]
theorem labs_stop {n : List UInt8} (h : nextB n = true) : (labs n).isSome = decide (n = [0]) := by
  simp only [nextB, decide_eq_true_eq] at h
  match n, h with
  | [], _ => rw [labs]; rfl
  | k :: r, h =>
    simp only [List.getD_cons_zero, List.length_cons] at h
    rw [labs]
    by_cases hk : k = 0
    · subst hk
      rw [if_pos rfl]
      by_cases hr : r = []
      · simp [hr]
      · simp [hr]
    · rw [if_neg hk]
      have hkp : 0 < k.toNat := by
        rcases Nat.eq_zero_or_pos k.toNat with e | e
        · exact absurd (UInt8.toNat_inj.1 (by simpa using e)) hk
        · exact e
      rw [decide_eq_false (by simp [hk])]
      split
      · rfl
      · rename_i hc
        have : r.drop k.toNat = [] := List.drop_eq_nil_of_le (by omega)
        rw [this, labs]
        rfl
theorem fin_labs (n : List UInt8) : decide (finN n = [0]) = (labs n).isSome := by
  induction h : n.length using Nat.strongRecOn generalizing n with
  | ind m ih =>
    cases hb : nextB n with
    | true => rw [finN_stop hb, labs_stop hb]
    | false => rw [finN_step hb, labs_step hb, ih (nextR n).length (by rw [← h]; exact nextR_lt hb) _ rfl]
def lowC (c : UInt8) : UInt8 := if 65 ≤ c.toNat ∧ c.toNat ≤ 90 then c ||| 32 else c
def lowN (n : List UInt8) : List UInt8 := if canN n then n.map lowC else []
set_option maxRecDepth 10000 in
theorem lowC_add : ∀ c : UInt8, 65 ≤ c.toNat ∧ c.toNat ≤ 90 → c + 32 = c ||| 32 := by
  have h : ∀ k : _root_.Fin 256, 65 ≤ k.val ∧ k.val ≤ 90 → UInt8.ofNat k.val + 32 = UInt8.ofNat k.val ||| 32 := by decide
  intro c hc
  have := h ⟨c.toNat, c.toNat_lt⟩ hc
  simpa using this
theorem lowC_small {c : UInt8} (h : c.toNat ≤ 64) : lowC c = c := if_neg (by omega)
def lowL (ls : List (List UInt8)) : List (List UInt8) := ls.map (·.map lowC)
theorem low_join {ls : List (List UInt8)} (g : GoodN ls) : (joinN ls).map lowC = joinN (lowL ls) := by
  induction ls with
  | nil => rfl
  | cons l ls ih =>
    have h1 : lowC (byte (l.length : Int)) = byte (l.length : Int) := lowC_small (by rw [byte_len g.head.2]; have := g.head; omega)
    rw [joinN_cons, List.map_cons, List.map_append, ih g.tail, h1]
    simp [lowL, joinN_cons]
theorem GoodN.low {ls : List (List UInt8)} (g : GoodN ls) : GoodN (lowL ls) := fun l hl => by
  obtain ⟨x, hx, rfl⟩ := List.mem_map.1 hl
  simpa using g x hx
theorem low_length {ls : List (List UInt8)} (g : GoodN ls) : (joinN (lowL ls)).length = (joinN ls).length := by rw [← low_join g, List.length_map]
theorem lowN_join {ls : List (List UInt8)} (g : GoodN ls) (h : (joinN ls).length ≤ 255) : lowN (joinN ls) = joinN (lowL ls) := by
  rw [lowN, if_pos (canN_iff.2 ⟨ls, g, rfl, h⟩), low_join g]
theorem can_join {ls : List (List UInt8)} (g : GoodN ls) (h : (joinN ls).length ≤ 255) : canN (joinN ls) = true := canN_iff.2 ⟨ls, g, rfl, h⟩
def sameN (a b : List UInt8) : Bool := canN a && canN b && decide (lowN a = lowN b)
def cntN (n : List UInt8) : Int := (labN n).length
def tailN (n : List UInt8) (k : Int) : List UInt8 := if canN n then joinN ((labN n).drop ((labN n).length - min (max k 0).toNat (labN n).length)) else []
def withN (n z : List UInt8) : Bool := canN n && canN z && decide (cntN z ≤ cntN n) && sameN (tailN n (cntN z)) z
theorem next_no {n : List UInt8} (h : nextB n = true) : nextL n = [] ∧ nextR n = n := by simp [nextL, nextR, h]
theorem next_yes {n : List UInt8} (h : nextB n = false) : nextL n = (n.take (1 + (n.getD 0 0).toNat)).drop 1 ∧ nextR n = n.drop (1 + (n.getD 0 0).toNat) := by simp [nextL, nextR, h]
theorem can_fin (n : List UInt8) : canN n = (decide (finN n = [0]) && decide (n.length ≤ 255)) := by rw [canN, fin_labs]
theorem labN_step {m : List UInt8} (h : canN m = true) (hb : nextB m = false) : labN m = nextL m :: labN (nextR m) ∧ canN (nextR m) = true := by
  obtain ⟨ls, g, rfl, hl⟩ := canN_iff.1 h
  match ls, g, hl, hb with
  | [], _, _, hb => rw [next_root] at hb; cases hb
  | l :: ls, g, hl, hb =>
    obtain ⟨_, e1, e2⟩ := next_join g
    have hl2 : (joinN ls).length ≤ 255 := by have := joinN_le (l := l) (ls := ls); omega
    rw [e1, e2, labN_join g hl, labN_join g.tail hl2]
    exact ⟨rfl, can_join g.tail hl2⟩
theorem labN_end {m : List UInt8} (h : canN m = true) (hb : nextB m = true) : labN m = [] ∧ m = [0] := by
  obtain ⟨ls, g, rfl, hl⟩ := canN_iff.1 h
  match ls, g, hl, hb with
  | [], g, hl, _ => exact ⟨labN_join g hl, rfl⟩
  | l :: ls, g, _, hb => rw [(next_join g).1] at hb; cases hb
theorem canN_len {n : List UInt8} (h : canN n = true) : n.length ≤ 255 := by
  simp only [canN, Bool.and_eq_true, decide_eq_true_eq] at h
  exact h.2
theorem tail_step {n : List UInt8} (h : canN n = true) {j : Nat} (hj : j < (labN n).length) : nextR (joinN ((labN n).drop j)) = joinN ((labN n).drop (j + 1)) ∧ (joinN ((labN n).drop j)).length ≤ 255 := by
  obtain ⟨ls, g, rfl, hl⟩ := canN_iff.1 h
  rw [labN_join g hl] at hj ⊢
  have gd : ∀ j, GoodN (ls.drop j) := fun j x hx => g x (List.mem_of_mem_drop hx)
  have hlen : ∀ j, (joinN (ls.drop j)).length ≤ 255 := by
    intro j
    have : ∀ (ls : List (List UInt8)) (j : Nat), (joinN (ls.drop j)).length ≤ (joinN ls).length := by
      intro ls
      induction ls with
      | nil => intro j; simp
      | cons l ls ih =>
        intro j
        cases j with
        | zero => simp
        | succ j =>
          have := ih j
          have := joinN_le (l := l) (ls := ls)
          simp only [List.drop_succ_cons]
          omega
    have := this ls j
    omega
  refine ⟨?_, hlen j⟩
  have e := List.drop_eq_getElem_cons hj
  have gj := gd j
  rw [e] at gj ⊢
  exact (next_join gj).2.2
theorem tail_start {n : List UInt8} (h : canN n = true) : n = joinN ((labN n).drop 0) := by
  obtain ⟨ls, g, rfl, hl⟩ := canN_iff.1 h
  rw [labN_join g hl, List.drop_zero]
theorem lower_step {n b : List UInt8} {i : Nat} (hi : i < n.length) (hb : b = (n.take i).map lowC ++ n.drop i) : b.getD i default = n.getD i default ∧ b.set i (lowC (n.getD i default)) = (n.take (i + 1)).map lowC ++ n.drop (i + 1) := by
  have hl : ((n.take i).map lowC).length = i := by simp; omega
  have e := List.drop_eq_getElem_cons hi
  have hg : n.getD i default = n[i] := by simp [List.getD_eq_getElem?_getD, List.getElem?_eq_getElem hi]
  rw [hg]
  subst hb
  refine ⟨?_, ?_⟩
  · rw [List.getD_eq_getElem?_getD, List.getElem?_append_right (by omega), hl, e, Nat.sub_self]
    rfl
  · rw [List.set_append_right _ _ (by omega), hl, Nat.sub_self, e, List.set_cons_zero, List.take_succ_eq_append_getElem hi, List.map_append, List.append_assoc]
    rfl
theorem lower_skip {n b : List UInt8} {i : Nat} (hi : i < n.length) (hb : b = (n.take i).map lowC ++ n.drop i) (hc : lowC (n.getD i default) = n.getD i default) : b = (n.take (i + 1)).map lowC ++ n.drop (i + 1) := by
  obtain ⟨e1, e2⟩ := lower_step hi hb
  rw [hc] at e2
  rw [← e2]
  have hlt : i < b.length := by rw [hb]; simp; omega
  apply List.ext_getElem?
  intro j
  rw [List.getElem?_set]
  split
  · rename_i h
    subst h
    rw [← e1, List.getD_eq_getElem?_getD, List.getElem?_eq_getElem hlt]
    rfl
  · rfl
theorem lower_len {n b : List UInt8} {i : Nat} (hi : i ≤ n.length) (hb : b = (n.take i).map lowC ++ n.drop i) : b.length = n.length := by
  rw [hb]; simp; omega
set_option maxRecDepth 20000 in
set_option maxHeartbeats 2000000 in
theorem c_name_next (n : List UInt8) (h : n.length ≤ 140737488355328) : AC Try.prog 92 [str n] emp (Ret (.tup [str (nextL n), str (nextR n), tf (!nextB n)])) := by
 refine AC.intro te_ok (fn := Try.f92) ⟨Try.func92, rfl, rfl⟩ (Nat.le_of_ble_eq_true rfl) ?_
 refine AWp.seq ?_
 refine AWp.region ?_
 refine aC_ rfl rfl (q_assign) ?_
 refine aC_ rfl rfl (q_assign) ?_
 refine aC_ rfl rfl (q_assign) ?_
 refine AOps.nil ?_
 refine AWp.seq ?_
 refine AWp.seq ?_
 refine AWp.region ?_
 refine aC_ rfl rfl (q_move) ?_
 refine aC_ rfl rfl (q_len_str) ?_
 refine AOps.dec rfl rfl (q_eql) (fun h1_2 => ?_) (fun h1_2 => ?_)
 ·
  refine aC_ rfl rfl (q_move) ?_
  refine aG_ rfl rfl rfl rfl rfl rfl rfl rfl ?_
  refine aG_ rfl rfl rfl rfl rfl rfl rfl rfl ?_
  refine aG_ rfl rfl rfl rfl rfl rfl rfl rfl ?_
  refine aC_ rfl rfl (q_pick) ?_
  refine aC_ rfl rfl (q_move) ?_
  refine aG_ rfl rfl rfl rfl rfl rfl rfl rfl ?_
  refine aG_ rfl rfl rfl rfl rfl rfl rfl rfl ?_
  refine aG_ rfl rfl rfl rfl rfl rfl rfl rfl ?_
  refine aC_ rfl rfl (q_pick) ?_
  refine aC_ rfl rfl (q_move) ?_
  refine aG_ rfl rfl rfl rfl rfl rfl rfl rfl ?_
  refine aG_ rfl rfl rfl rfl rfl rfl rfl rfl ?_
  refine aG_ rfl rfl rfl rfl rfl rfl rfl rfl ?_
  refine aG_ rfl rfl rfl rfl rfl rfl rfl rfl ?_
  refine aG_ rfl rfl rfl rfl rfl rfl rfl rfl ?_
  refine aG_ rfl rfl rfl rfl rfl rfl rfl rfl ?_
  refine aG_ rfl rfl rfl rfl rfl rfl rfl rfl ?_
  refine aC_ rfl rfl (q_pick) ?_
  refine AOps.nil ?_
  refine AWp.cond_t rfl ?_
  refine AWp.seq ?_
  refine AWp.region ?_
  refine aC_ rfl rfl (q_move) ?_
  refine aC_ rfl rfl (q_assign) ?_
  refine aC_ rfl rfl (q_assign) ?_
  refine aC_ rfl rfl (q_assign) ?_
  refine AOps.nil ?_
  refine AWp.ret ?_
  show Fin te Try.f92 _ _
  refine q_ret (0) [_, _, _] [_, _, _] ?_
  have hb : nextB n = true := by simp only [nextB, decide_eq_true_eq]; omega
  rw [(next_no hb).1, (next_no hb).2, hb]; rfl
 ·
  refine aC_ rfl rfl (q_move) ?_
  refine AOps.gcons rfl rfl rfl rfl rfl (q_move) ?_
  refine AOps.gcons rfl rfl rfl rfl rfl (q_ixs) ?_
  refine AOps.gdec rfl rfl rfl rfl rfl (q_eql) (fun h1_6 => ?_) (fun h1_6 => ?_)
  ·
   refine aC_ rfl rfl (q_pick) ?_
   refine aC_ rfl rfl (q_move) ?_
   refine aG_ rfl rfl rfl rfl rfl rfl rfl rfl ?_
   refine aG_ rfl rfl rfl rfl rfl rfl rfl rfl ?_
   refine aG_ rfl rfl rfl rfl rfl rfl rfl rfl ?_
   refine aC_ rfl rfl (q_pick) ?_
   refine aC_ rfl rfl (q_move) ?_
   refine aG_ rfl rfl rfl rfl rfl rfl rfl rfl ?_
   refine aG_ rfl rfl rfl rfl rfl rfl rfl rfl ?_
   refine aG_ rfl rfl rfl rfl rfl rfl rfl rfl ?_
   refine aG_ rfl rfl rfl rfl rfl rfl rfl rfl ?_
   refine aG_ rfl rfl rfl rfl rfl rfl rfl rfl ?_
   refine aG_ rfl rfl rfl rfl rfl rfl rfl rfl ?_
   refine aG_ rfl rfl rfl rfl rfl rfl rfl rfl ?_
   refine aC_ rfl rfl (q_pick) ?_
   refine AOps.nil ?_
   refine AWp.cond_t rfl ?_
   refine AWp.seq ?_
   refine AWp.region ?_
   refine aC_ rfl rfl (q_move) ?_
   refine aC_ rfl rfl (q_assign) ?_
   refine aC_ rfl rfl (q_assign) ?_
   refine aC_ rfl rfl (q_assign) ?_
   refine AOps.nil ?_
   refine AWp.ret ?_
   show Fin te Try.f92 _ _
   refine q_ret (0) [_, _, _] [_, _, _] ?_
   have hb : nextB n = true := by simp only [nextB, decide_eq_true_eq]; simp at *; omega
   rw [(next_no hb).1, (next_no hb).2, hb]; rfl
  ·
   refine aC_ rfl rfl (q_pick) ?_
   refine aC_ rfl rfl (q_move) ?_
   refine AOps.gcons rfl rfl rfl rfl rfl (q_move) ?_
   refine AOps.gcons rfl rfl rfl rfl rfl (q_ixs) ?_
   refine AOps.gdec rfl rfl rfl rfl rfl (q_gtr) (fun h1_11 => ?_) (fun h1_11 => ?_)
   ·
    refine aC_ rfl rfl (q_pick) ?_
    refine aC_ rfl rfl (q_move) ?_
    refine aG_ rfl rfl rfl rfl rfl rfl rfl rfl ?_
    refine aG_ rfl rfl rfl rfl rfl rfl rfl rfl ?_
    refine aG_ rfl rfl rfl rfl rfl rfl rfl rfl ?_
    refine aG_ rfl rfl rfl rfl rfl rfl rfl rfl ?_
    refine aG_ rfl rfl rfl rfl rfl rfl rfl rfl ?_
    refine aG_ rfl rfl rfl rfl rfl rfl rfl rfl ?_
    refine aG_ rfl rfl rfl rfl rfl rfl rfl rfl ?_
    refine aC_ rfl rfl (q_pick) ?_
    refine AOps.nil ?_
    refine AWp.cond_t rfl ?_
    refine AWp.seq ?_
    refine AWp.region ?_
    refine aC_ rfl rfl (q_move) ?_
    refine aC_ rfl rfl (q_assign) ?_
    refine aC_ rfl rfl (q_assign) ?_
    refine aC_ rfl rfl (q_assign) ?_
    refine AOps.nil ?_
    refine AWp.ret ?_
    show Fin te Try.f92 _ _
    refine q_ret (0) [_, _, _] [_, _, _] ?_
    have hb : nextB n = true := by simp only [nextB, decide_eq_true_eq]; simp at *; omega
    rw [(next_no hb).1, (next_no hb).2, hb]; rfl
   ·
    refine aC_ rfl rfl (q_pick) ?_
    refine aC_ rfl rfl (q_move) ?_
    refine AOps.gcons rfl rfl rfl rfl rfl (q_move) ?_
    refine AOps.gcons rfl rfl rfl rfl rfl (q_len_str) ?_
    refine AOps.gcons rfl rfl rfl rfl rfl (q_move) ?_
    refine AOps.gcons rfl rfl rfl rfl rfl (q_ixs) ?_
    refine AOps.gcons rfl rfl rfl rfl rfl (q_conv_8i) ?_
    refine AOps.gcons rfl rfl rfl rfl rfl (q_add) ?_
    refine AOps.gdec rfl rfl rfl rfl rfl (q_lss) (fun h1_20 => ?_) (fun h1_20 => ?_)
    ·
     refine aC_ rfl rfl (q_pick) ?_
     refine AOps.nil ?_
     refine AWp.cond_t rfl ?_
     refine AWp.seq ?_
     refine AWp.region ?_
     refine aC_ rfl rfl (q_move) ?_
     refine aC_ rfl rfl (q_assign) ?_
     refine aC_ rfl rfl (q_assign) ?_
     refine aC_ rfl rfl (q_assign) ?_
     refine AOps.nil ?_
     refine AWp.ret ?_
     show Fin te Try.f92 _ _
     refine q_ret (0) [_, _, _] [_, _, _] ?_
     have hb : nextB n = true := by simp only [nextB, decide_eq_true_eq]; simp at *; omega
     rw [(next_no hb).1, (next_no hb).2, hb]; rfl
    ·
     refine aC_ rfl rfl (q_pick) ?_
     refine AOps.nil ?_
     refine AWp.cond_f rfl ?_
     refine AWp.skip ?_
     refine AWp.seq ?_
     refine AWp.region ?_
     have k1 : ¬ ((n.getD 0 0).toNat : Int) = 0 := h1_6
     have k2 : ¬ 63 < ((n.getD 0 0).toNat : Int) := h1_11
     have k3 : ¬ (n.length : Int) < 2 + ((n.getD 0 0).toNat : Int) := h1_20
     have hb : nextB n = false := by simp only [nextB, decide_eq_false_iff_not]; omega
     obtain ⟨e1, e2⟩ := next_yes hb
     have hk := (n.getD 0 0).toNat_lt
     refine aC_ rfl rfl (q_move) ?_
     refine aC_ rfl rfl (q_ixs) ?_
     refine aC_ rfl rfl (q_conv_8i) ?_
     refine aC_ rfl rfl (q_add) ?_
     refine aC_ rfl rfl (q_assign) ?_
     refine AOps.nil ?_
     refine AWp.seq ?_
     refine AWp.draws [⟨0, [0], [], some 33, _, []⟩,
 ⟨1, [5], [], some 34, _, []⟩,
 ⟨2, [33, 34], [], some 35, _, []⟩,
 ⟨3, [0], [], some 36, _, []⟩,
 ⟨4, [5], [], some 37, _, []⟩,
 ⟨5, [36, 37], [], some 38, _, []⟩,
 ⟨6, [35], [], some 2, _, []⟩,
 ⟨7, [38], [], some 3, _, []⟩,
 ⟨8, [], [], some 4, _, []⟩]
      [kN_ 0 [0] [] 33,
 kN_ 1 [5] [] 34,
 kN_ 2 [33, 34] [] 35,
 kN_ 3 [0] [] 36,
 kN_ 4 [5] [] 37,
 kN_ 5 [36, 37] [] 38,
 kN_ 6 [35] [] 2,
 kN_ 7 [38] [] 3,
 kN_ 8 [] [] 4]
      mixed_ok rfl (by kernel_rfl) ⟨dK_ fun s0 => oG_ rfl rfl (q_move),
 dK_ fun s0 => oG_ rfl rfl (q_move),
 dK_ fun s0 => oG_ rfl rfl (q_sls),
 dK_ fun s0 => oG_ rfl rfl (q_move),
 dK_ fun s0 => oG_ rfl rfl (q_move),
 dK_ fun s0 => oG_ rfl rfl (q_sls_lo),
 dK_ fun s0 => oG_ rfl rfl (q_assign),
 dK_ fun s0 => oG_ rfl rfl (q_assign),
 dK_ fun s0 => oG_ rfl rfl (q_assign), trivial⟩ ?_
     dsimp only [final, DS.upd, AS.seto]
     refine AWp.ret ?_
     show Fin te Try.f92 _ _
     refine q_ret (0) [_, _, _] [_, _, _] ?_
     have hk2 : ((1:Int) + ((n.getD 0 0).toNat:Int)).toNat = 1 + (n.getD 0 0).toNat := by omega
     show resVal [str (List.drop 1 (List.take ((1:Int) + ((n.getD 0 0).toNat:Int)).toNat n)), str (List.drop ((1:Int) + ((n.getD 0 0).toNat:Int)).toNat n), tf true] = _
     rw [e1, e2, hb, hk2]; rfl
set_option maxRecDepth 20000 in
set_option maxHeartbeats 2000000 in
theorem c_name_Can (n : List UInt8) (h : n.length ≤ 140737488355328) : AC Try.prog 52 [str n] emp (Ret (tf (canN n))) := by
 refine AC.intro te_ok (fn := Try.f52) ⟨Try.func52, rfl, rfl⟩ (Nat.le_of_ble_eq_true rfl) ?_
 refine AWp.seq ?_
 refine AWp.region ?_
 refine aC_ rfl rfl (q_assign) ?_
 refine AOps.nil ?_
 refine AWp.scope ?_
 refine AWp.seq ?_
 refine AWp.region ?_
 refine aC_ rfl rfl (q_move) ?_
 refine aC_ rfl rfl (q_assign) ?_
 refine AOps.nil ?_
 refine AWp.seq ?_
 refine AWp.label ?_
 refine AWp.seq ?_
 refine AWp.block ?_
 refine AWp.loopR (α := List UInt8) [3, 4, 5, 6, 8, 9, 10, 11, 12, 13, 14, 15, 16] (fun r => [(3, str r)]) (fun r => []) (fun r => finN r = finN n ∧ r.length ≤ n.length) (fun r => r.length) n ?_ (Back.mk' (HasT.cons HasT.nil) HasH.nil) ?_
 ·
  exact ⟨rfl, Nat.le_refl _⟩
 ·
  rintro r ⟨hf, hl⟩
  refine AWp.block ?_
  refine AWp.seq ?_
  refine AWp.region ?_
  refine aC_ rfl rfl (q_move) ?_
  refine aC_ rfl rfl (q_call (0) (hc := c_name_next _ (by first | assumption | omega | decide | (simp; omega) | (simp [*]; done)))) ?_
  refine aC_ rfl rfl (q_move) ?_
  refine aC_ rfl rfl (q_extract) ?_
  refine aC_ rfl rfl (q_extract) ?_
  refine AOps.bool rfl rfl (q_extract) (fun h2_5 => ?_) (fun h2_5 => ?_)
  ·
   refine aC_ rfl rfl (q_assign) ?_
   refine aC_ rfl rfl (q_assign) ?_
   refine aC_ rfl rfl (q_assign) ?_
   refine AOps.nil ?_
   refine AWp.seq ?_
   refine AWp.seq ?_
   refine AWp.region ?_
   refine aC_ rfl rfl (q_move) ?_
   refine aC_ rfl rfl (q_not) ?_
   refine AOps.nil ?_
   refine AWp.cond_f rfl ?_
   refine AWp.skip ?_
   refine AWp.region ?_
   refine aC_ rfl rfl (q_move) ?_
   refine aC_ rfl rfl (q_assign) ?_
   refine AOps.nil ?_
   refine ⟨nextR r, ?_, Back.mk' (HasT.cons HasT.nil) HasH.nil, ?_⟩
   ·
    have hb : nextB r = false := by simpa using h2_5
    have := nextR_lt hb
    exact ⟨by rw [← finN_step hb, hf], by omega⟩
   ·
    exact nextR_lt (by simpa using h2_5)
  ·
   refine aC_ rfl rfl (q_assign) ?_
   refine aC_ rfl rfl (q_assign) ?_
   refine aC_ rfl rfl (q_assign) ?_
   refine AOps.nil ?_
   refine AWp.seq ?_
   refine AWp.seq ?_
   refine AWp.region ?_
   refine aC_ rfl rfl (q_move) ?_
   refine aC_ rfl rfl (q_not) ?_
   refine AOps.nil ?_
   refine AWp.cond_t rfl ?_
   refine AWp.exit ?_
   refine AWp.seq ?_
   refine AWp.region ?_
   refine aC_ rfl rfl (q_move) ?_
   refine AOps.dec rfl rfl (q_seql) (fun h5_1 => ?_) (fun h5_1 => ?_)
   ·
    refine aC_ rfl rfl (q_move) ?_
    refine AOps.gcons rfl rfl rfl rfl rfl (q_move) ?_
    refine AOps.gcons rfl rfl rfl rfl rfl (q_len_str) ?_
    refine AOps.gcons rfl rfl rfl rfl rfl (q_leq) ?_
    refine aC_ rfl rfl (q_pick) ?_
    refine aC_ rfl rfl (q_assign) ?_
    refine AOps.nil ?_
    refine AWp.ret ?_
    show Fin te Try.f52 _ _
    refine q_ret (0) [_] [_] ?_
    have e : finN n = r := by rw [← hf, finN_stop (by simpa using h2_5)]
    rw [can_fin, e, h5_1]; simp [resVal]; omega
   ·
    refine aC_ rfl rfl (q_move) ?_
    refine aG_ rfl rfl rfl rfl rfl rfl rfl rfl ?_
    refine aG_ rfl rfl rfl rfl rfl rfl rfl rfl ?_
    refine aG_ rfl rfl rfl rfl rfl rfl rfl rfl ?_
    refine aC_ rfl rfl (q_pick) ?_
    refine aC_ rfl rfl (q_assign) ?_
    refine AOps.nil ?_
    refine AWp.ret ?_
    show Fin te Try.f52 _ _
    refine q_ret (0) [_] [_] ?_
    have e : finN n = r := by rw [← hf, finN_stop (by simpa using h2_5)]
    rw [can_fin, e, decide_eq_false h5_1]; rfl
set_option maxRecDepth 20000 in
set_option maxHeartbeats 2000000 in
theorem co_labels (n : List UInt8) (h : n.length ≤ 140737488355328) : AC Try.prog 118 [str n] (hlook []) (RetH (.sl 8 0 0 (labN n).length 1) [(8, .row (cl sc (labN n)) 1 0)]) := by
 refine AC.intro te_ok (fn := Try.f118) ⟨Try.func118, rfl, rfl⟩ (Nat.le_of_ble_eq_true rfl) ?_
 refine AWp.seq ?_
 refine AWp.region ?_
 refine aC_ rfl rfl (q_nilz (0) sc) ?_
 refine AOps.nil ?_
 refine AWp.seq ?_
 refine AWp.region ?_
 refine aC_ rfl rfl (q_nilrow 8 1 sc) ?_
 refine AOps.nil ?_
 refine AWp.seq ?_
 refine AWp.block ?_
 refine AWp.loopR (α := List UInt8 × List (List UInt8) × Nat) [0, 3, 4, 5, 6, 7, 8, 9, 10, 11, 12, 13, 14, 15, 16, 17, 18, 19, 20, 21] (fun x_ => [(0, str (x_.1)), (3, .sl 8 (x_.2.2) 0 (x_.2.1).length 1)]) (fun x_ => [(8, .row (cl sc (x_.2.1)) 1 (x_.2.2))]) (fun x_ => labN n = (x_.2.1) ++ labN (x_.1) ∧ (x_.1).length ≤ n.length) (fun x_ => (x_.1).length) (n, [], 0) ?_ (Back.mk' (HasT.cons (HasT.cons HasT.nil)) (HasH.cons HasH.nil)) ?_
 ·
  exact ⟨rfl, Nat.le_refl _⟩
 ·
  rintro ⟨m, acc, v⟩ hI2
  change labN n = acc ++ labN m ∧ m.length ≤ n.length at hI2
  obtain ⟨hI, hm⟩ := hI2
  refine AWp.as (s' := AS.over _ [0, 3, 4, 5, 6, 7, 8, 9, 10, 11, 12, 13, 14, 15, 16, 17, 18, 19, 20, 21] [(0, str m), (3, .sl 8 v 0 acc.length 1)] [(8, .row (cl sc acc) 1 v)]) rfl ?_
  have hll := labN_len n
  rw [hI, List.length_append] at hll
  refine AWp.seq ?_
  refine AWp.seq ?_
  refine AWp.region ?_
  refine aC_ rfl rfl (q_move) ?_
  refine AOps.bool rfl rfl (q_call (0) (hc := c_name_Can _ (by first | assumption | omega | decide | (simp; omega) | (simp [*]; done)))) (fun h2_1 => ?_) (fun h2_1 => ?_)
  ·
   refine AOps.nil ?_
   refine AWp.cond_t rfl ?_
   refine AWp.skip ?_
   refine AWp.block ?_
   refine AWp.seq ?_
   refine AWp.region ?_
   refine aC_ rfl rfl (q_move) ?_
   refine aC_ rfl rfl (q_call (0) (hc := c_name_next _ (by first | assumption | omega | decide | (simp; omega) | (simp [*]; done)))) ?_
   refine aC_ rfl rfl (q_move) ?_
   refine aC_ rfl rfl (q_extract) ?_
   refine aC_ rfl rfl (q_extract) ?_
   refine AOps.bool rfl rfl (q_extract) (fun h3_5 => ?_) (fun h3_5 => ?_)
   ·
    refine aC_ rfl rfl (q_assign) ?_
    refine aC_ rfl rfl (q_assign) ?_
    refine aC_ rfl rfl (q_assign) ?_
    refine AOps.nil ?_
    refine AWp.seq ?_
    refine AWp.seq ?_
    refine AWp.region ?_
    refine aC_ rfl rfl (q_move) ?_
    refine aC_ rfl rfl (q_not) ?_
    refine AOps.nil ?_
    refine AWp.cond_f rfl ?_
    refine AWp.skip ?_
    refine AWp.region ?_
    refine aC_ rfl rfl (q_move) ?_
    refine aC_ rfl rfl (q_move) ?_
    refine aC_ rfl rfl (q_bs 602 sc [_] [(_, _)]) ?_
    refine aC_ rfl rfl (q_app) ?_
    refine aC_ rfl rfl (q_move) ?_
    refine aC_ rfl rfl (q_assign) ?_
    refine aC_ rfl rfl (q_assign) ?_
    refine AOps.nil ?_
    refine ⟨(nextR m, _, _), ?_, Back.mk' (HasT.cons (HasT.cons HasT.nil)) (HasH.cons HasH.nil), ?_⟩
    ·
     try dsimp only
     have hb : nextB m = false := by simpa using h3_5
     have := nextR_lt hb
     exact ⟨by rw [hI, (labN_step h2_1 hb).1]; simp, by omega⟩
    ·
     try dsimp only
     exact nextR_lt (by simpa using h3_5)
   ·
    refine aC_ rfl rfl (q_assign) ?_
    refine aC_ rfl rfl (q_assign) ?_
    refine aC_ rfl rfl (q_assign) ?_
    refine AOps.nil ?_
    refine AWp.seq ?_
    refine AWp.seq ?_
    refine AWp.region ?_
    refine aC_ rfl rfl (q_move) ?_
    refine aC_ rfl rfl (q_not) ?_
    refine AOps.nil ?_
    refine AWp.cond_t rfl ?_
    refine AWp.exit ?_
    refine AWp.seq ?_
    refine AWp.region ?_
    refine aC_ rfl rfl (q_move) ?_
    refine aC_ rfl rfl (q_assign) ?_
    refine AOps.nil ?_
    refine AWp.ret ?_
    show Fin te Try.f118 _ _
    obtain rfl : acc = labN n := by rw [hI, (labN_end h2_1 (by simpa using h3_5)).1, List.append_nil]
    refine q_retH (0) [8] [_] [.sl 8 0 0 _ 1] [(8, .row (cl sc _) 1 0)] ?_
    rfl
  ·
   refine AOps.nil ?_
   refine AWp.cond_f rfl ?_
   refine AWp.exit ?_
   refine AWp.seq ?_
   refine AWp.region ?_
   refine aC_ rfl rfl (q_move) ?_
   refine aC_ rfl rfl (q_assign) ?_
   refine AOps.nil ?_
   refine AWp.ret ?_
   show Fin te Try.f118 _ _
   obtain rfl : acc = labN n := by rw [hI, labN_no h2_1, List.append_nil]
   refine q_retH (0) [8] [_] [.sl 8 0 0 _ 1] [(8, .row (cl sc _) 1 0)] ?_
   rfl
set_option maxRecDepth 20000 in
set_option maxHeartbeats 2000000 in
theorem c_name_Lower (n : List UInt8) (h : n.length ≤ 140737488355328) : AC Try.prog 32 [str n] emp (Ret (str (lowN n))) := by
 refine AC.intro te_ok (fn := Try.f32) ⟨Try.func32, rfl, rfl⟩ (Nat.le_of_ble_eq_true rfl) ?_
 refine AWp.seq ?_
 refine AWp.region ?_
 refine aC_ rfl rfl (q_assign) ?_
 refine AOps.nil ?_
 refine AWp.seq ?_
 refine AWp.seq ?_
 refine AWp.region ?_
 refine aC_ rfl rfl (q_move) ?_
 refine AOps.bool rfl rfl (q_call (0) (hc := c_name_Can _ (by first | assumption | omega | decide | (simp; omega) | (simp [*]; done)))) (fun h1_1 => ?_) (fun h1_1 => ?_)
 ·
  refine aC_ rfl rfl (q_not) ?_
  refine AOps.nil ?_
  refine AWp.cond_f rfl ?_
  refine AWp.skip ?_
  refine AWp.seq ?_
  refine AWp.region ?_
  refine aC_ rfl rfl (q_move) ?_
  refine aC_ rfl rfl (q_conv_sl 401) ?_
  refine aC_ rfl rfl (q_assign) ?_
  refine AOps.nil ?_
  refine AWp.seq ?_
  refine AWp.seq ?_
  refine AWp.region ?_
  refine aC_ rfl rfl (q_move) ?_
  refine aC_ rfl rfl (q_len) ?_
  refine aC_ rfl rfl (q_move) ?_
  refine AOps.nil ?_
  refine AWp.block ?_
  refine AWp.loopR (α := Nat × List UInt8) [4, 5, 13, 14, 15, 16, 17, 18, 19, 20, 21, 22, 23, 24, 25, 26, 27, 28, 29] (fun x_ => [(13, i64 (x_.1))]) (fun x_ => [(401, .row (cl bc (x_.2)) 1 0)]) (fun x_ => (x_.1) ≤ n.length ∧ (x_.2) = (n.take (x_.1)).map lowC ++ n.drop (x_.1)) (fun x_ => n.length - (x_.1)) (0, n) ?_ (Back.mk' (HasT.cons HasT.nil) (HasH.cons HasH.nil)) ?_
  ·
   exact ⟨Nat.zero_le _, by simp⟩
  ·
   rintro ⟨i, b⟩ hI5
   change i ≤ n.length ∧ b = (n.take i).map lowC ++ n.drop i at hI5
   obtain ⟨hi, hb⟩ := hI5
   refine AWp.as (s' := AS.over _ [4, 5, 13, 14, 15, 16, 17, 18, 19, 20, 21, 22, 23, 24, 25, 26, 27, 28, 29] [(13, i64 i)] [(401, .row (cl bc b) 1 0)]) rfl ?_
   have hbl := lower_len hi hb
   refine AWp.seq ?_
   refine AWp.region ?_
   refine AOps.dec rfl rfl (q_lss) (fun h5_0 => ?_) (fun h5_0 => ?_)
   ·
    refine AOps.nil ?_
    refine AWp.seq ?_
    refine AWp.cond_t rfl ?_
    refine AWp.skip ?_
    refine AWp.seq ?_
    refine AWp.block ?_
    refine AWp.seq ?_
    refine AWp.region ?_
    refine aC_ rfl rfl (q_move) ?_
    refine aC_ rfl rfl (q_ix) ?_
    refine aC_ rfl rfl (q_load) ?_
    refine aC_ rfl rfl (q_assign) ?_
    refine aC_ rfl rfl (q_assign) ?_
    refine AOps.nil ?_
    refine AWp.seq ?_
    refine AWp.region ?_
    have hx := lower_step (by omega) hb
    refine aC_ rfl rfl (q_move) ?_
    refine AOps.dec rfl rfl (q_geq) (fun h7_1 => ?_) (fun h7_1 => ?_)
    ·
     refine aC_ rfl rfl (q_move) ?_
     refine AOps.gcons rfl rfl rfl rfl rfl (q_move) ?_
     refine AOps.gdec rfl rfl rfl rfl rfl (q_leq) (fun h7_4 => ?_) (fun h7_4 => ?_)
     ·
      refine aC_ rfl rfl (q_pick) ?_
      refine AOps.nil ?_
      refine AWp.cond_t rfl ?_
      refine AWp.region ?_
      refine aC_ rfl rfl (q_move) ?_
      refine aC_ rfl rfl (q_move) ?_
      refine aC_ rfl rfl (q_move) ?_
      refine aC_ rfl rfl (q_or8 _ 32) ?_
      refine aC_ rfl rfl (q_ix) ?_
      refine aC_ rfl rfl (q_store) ?_
      refine AOps.nil ?_
      refine AWp.region ?_
      refine aC_ rfl rfl (q_add) ?_
      refine aC_ rfl rfl (q_move) ?_
      refine AOps.nil ?_
      refine ⟨(i + 1, _), ?_, Back.mk' (HasT.cons HasT.nil) (HasH.cons HasH.nil), ?_⟩
      ·
       try dsimp only
       have k1 : 65 ≤ ((b.getD i default).toNat : Int) := h7_1
       have k2 : ((b.getD i default).toNat : Int) ≤ 90 := h7_4
       rw [hx.1] at k1 k2
       have e := hx.2
       rw [show lowC (n.getD i default) = n.getD i default ||| 32 from (if_pos ⟨by omega, by omega⟩).trans (rfl), ← hx.1] at e
       exact ⟨by omega, e⟩
      ·
       try dsimp only
       first | omega | (simp; omega)
     ·
      refine aC_ rfl rfl (q_pick) ?_
      refine AOps.nil ?_
      refine AWp.cond_f rfl ?_
      refine AWp.skip ?_
      refine AWp.region ?_
      refine aC_ rfl rfl (q_add) ?_
      refine aC_ rfl rfl (q_move) ?_
      refine AOps.nil ?_
      refine ⟨(i + 1, _), ?_, Back.mk' (HasT.cons HasT.nil) (HasH.cons HasH.nil), ?_⟩
      ·
       try dsimp only
       exact ⟨by omega, lower_skip (by omega) hb (if_neg (by have k1 : ¬ ((b.getD i default).toNat : Int) ≤ 90 := h7_4; rw [hx.1] at k1; omega))⟩
      ·
       try dsimp only
       first | omega | (simp; omega)
    ·
     refine aC_ rfl rfl (q_move) ?_
     refine aG_ rfl rfl rfl rfl rfl rfl rfl rfl ?_
     refine aG_ rfl rfl rfl rfl rfl rfl rfl rfl ?_
     refine aC_ rfl rfl (q_pick) ?_
     refine AOps.nil ?_
     refine AWp.cond_f rfl ?_
     refine AWp.skip ?_
     refine AWp.region ?_
     refine aC_ rfl rfl (q_add) ?_
     refine aC_ rfl rfl (q_move) ?_
     refine AOps.nil ?_
     refine ⟨(i + 1, _), ?_, Back.mk' (HasT.cons HasT.nil) (HasH.cons HasH.nil), ?_⟩
     ·
      try dsimp only
      exact ⟨by omega, lower_skip (by omega) hb (if_neg (by have k1 : ¬ 65 ≤ ((b.getD i default).toNat : Int) := h7_1; rw [hx.1] at k1; omega))⟩
     ·
      try dsimp only
      first | omega | (simp; omega)
   ·
    refine AOps.nil ?_
    refine AWp.seq ?_
    refine AWp.cond_f rfl ?_
    refine AWp.exit ?_
    refine AWp.seq ?_
    refine AWp.region ?_
    obtain rfl : i = n.length := by simp at h5_0; omega
    have hb2 : b = n.map lowC := by rw [hb, List.take_length, List.drop_length, List.append_nil]
    subst hb2
    refine aC_ rfl rfl (q_move) ?_
    refine aC_ rfl rfl (q_conv_ls) ?_
    refine aC_ rfl rfl (q_assign) ?_
    refine AOps.nil ?_
    refine AWp.ret ?_
    show Fin te Try.f32 _ _
    refine q_ret (0) [_] [_] ?_
    rw [lowN, if_pos h1_1]; rfl
 ·
  refine aC_ rfl rfl (q_not) ?_
  refine AOps.nil ?_
  refine AWp.cond_t rfl ?_
  refine AWp.seq ?_
  refine AWp.region ?_
  refine aC_ rfl rfl (q_assign) ?_
  refine AOps.nil ?_
  refine AWp.ret ?_
  show Fin te Try.f32 _ _
  refine q_ret (0) [_] [_] ?_
  rw [lowN, if_neg (by simp [h1_1])]; rfl
end Go.Proofs.Ytokccoloholgaaa.Fw


set_option linter.unusedVariables false
set_option linter.unusedSimpArgs false
namespace Go.Proofs.Ytokccoloholgaaa.Fw
open Go.RowKit
def Half {α : Type} (l m : List α) (i : Nat) : Prop := m.length = l.length ∧ ∀ k, k < l.length → m[k]? = if k < i ∨ l.length ≤ k + i then l[l.length - 1 - k]? else l[k]?
theorem Half.start {α : Type} (l : List α) : Half l l 0 := ⟨rfl, fun k h => by rw [if_neg (by omega)]⟩
theorem Half.done {α : Type} {l m : List α} {i : Nat} (h : Half l m i) (hi : l.length ≤ 2 * i + 1) : m = l.reverse := by
  obtain ⟨h1, h2⟩ := h
  apply List.ext_getElem?
  intro k
  by_cases hk : k < l.length
  · rw [h2 k hk, List.getElem?_reverse hk]
    split
    · rfl
    · rw [show l.length - 1 - k = k by omega]
  · rw [List.getElem?_eq_none (by omega), List.getElem?_eq_none (by simp; omega)]
theorem Half.step {α : Type} [Inhabited α] {l m : List α} {i j : Nat} (h : Half l m i) (hi : i < j) (hj : j + i + 1 = l.length) : Half l ((m.set i (m.getD j default)).set j (m.getD i default)) (i + 1) := by
  obtain ⟨h1, h2⟩ := h
  refine ⟨by simp [h1], fun k hk => ?_⟩
  have hm : ∀ k, k < l.length → m[k]? = some (m.getD k default) := fun k hk => by rw [List.getD_eq_getElem?_getD, List.getElem?_eq_getElem (by omega)]; rfl
  rw [List.getElem?_set]
  by_cases e : j = k
  · subst e
    rw [if_pos rfl, if_pos (by simp; omega), if_pos (by omega), ← hm i (by omega), h2 i (by omega), if_neg (by omega), show l.length - 1 - j = i by omega]
  · rw [if_neg e, List.getElem?_set]
    by_cases e2 : i = k
    · subst e2
      rw [if_pos rfl, if_pos (by omega), if_pos (by omega), ← hm j (by omega), h2 j (by omega), if_neg (by omega), show l.length - 1 - i = j by omega]
    · rw [if_neg e2, h2 k hk]
      by_cases e3 : k < i ∨ l.length ≤ k + i
      · rw [if_pos e3, if_pos (by omega)]
      · rw [if_neg e3, if_neg (by omega)]
theorem lowN_len (n : List UInt8) : (lowN n).length ≤ 255 := by
  unfold lowN
  split
  · rename_i h; rw [List.length_map]; exact canN_len h
  · simp
theorem tailN_len (n : List UInt8) (k : Int) : (tailN n k).length ≤ 255 := by
  unfold tailN
  split
  · rename_i h
    by_cases e : (labN n).length - min (max k 0).toNat (labN n).length < (labN n).length
    · exact (tail_step h e).2
    · rw [List.drop_of_length_le (by omega)]; simp [joinN]
  · simp
theorem cntN_le (n : List UInt8) : 0 ≤ cntN n ∧ cntN n ≤ 254 := by have := labN_len n; unfold cntN; omega
set_option maxRecDepth 20000 in
set_option maxHeartbeats 2000000 in
theorem c_name_Same (a b : List UInt8) (ha : a.length ≤ 140737488355328) (hb : b.length ≤ 140737488355328) : AC Try.prog 68 [str a, str b] emp (Ret (tf (sameN a b))) := by
 have h1 := lowN_len a
 have h2 := lowN_len b
 refine AC.intro te_ok (fn := Try.f68) ⟨Try.func68, rfl, rfl⟩ (Nat.le_of_ble_eq_true rfl) ?_
 refine AWp.seq ?_
 refine AWp.region ?_
 refine aC_ rfl rfl (q_assign) ?_
 refine AOps.nil ?_
 refine AWp.seq ?_
 refine AWp.region ?_
 refine aC_ rfl rfl (q_move) ?_
 refine AOps.bool rfl rfl (q_call (0) (hc := c_name_Can _ (by first | assumption | omega | decide | (simp; omega) | (simp [*]; done)))) (fun h1_1 => ?_) (fun h1_1 => ?_)
 ·
  refine aC_ rfl rfl (q_move) ?_
  refine AOps.gcons rfl rfl rfl rfl rfl (q_move) ?_
  refine AOps.gbool rfl rfl rfl rfl rfl (q_call (0) (hc := c_name_Can _ (by first | assumption | omega | decide | (simp; omega) | (simp [*]; done)))) (fun h1_4 => ?_) (fun h1_4 => ?_)
  ·
   refine aC_ rfl rfl (q_pick) ?_
   refine aC_ rfl rfl (q_move) ?_
   refine AOps.gcons rfl rfl rfl rfl rfl (q_move) ?_
   refine AOps.gcons rfl rfl rfl rfl rfl (q_call (0) (hc := c_name_Lower _ (by first | assumption | omega | decide | (simp; omega) | (simp [*]; done)))) ?_
   refine AOps.gcons rfl rfl rfl rfl rfl (q_move) ?_
   refine AOps.gcons rfl rfl rfl rfl rfl (q_call (0) (hc := c_name_Lower _ (by first | assumption | omega | decide | (simp; omega) | (simp [*]; done)))) ?_
   refine AOps.gcons rfl rfl rfl rfl rfl (q_seql) ?_
   refine aC_ rfl rfl (q_pick) ?_
   refine aC_ rfl rfl (q_assign) ?_
   refine AOps.nil ?_
   refine AWp.ret ?_
   show Fin te Try.f68 _ _
   refine q_ret (0) [_] [_] ?_
   simp only [sameN, h1_1, h1_4]; rfl
  ·
   refine aC_ rfl rfl (q_pick) ?_
   refine aC_ rfl rfl (q_move) ?_
   refine aG_ rfl rfl rfl rfl rfl rfl rfl rfl ?_
   refine aG_ rfl rfl rfl rfl rfl rfl rfl rfl ?_
   refine aG_ rfl rfl rfl rfl rfl rfl rfl rfl ?_
   refine aG_ rfl rfl rfl rfl rfl rfl rfl rfl ?_
   refine aG_ rfl rfl rfl rfl rfl rfl rfl rfl ?_
   refine aC_ rfl rfl (q_pick) ?_
   refine aC_ rfl rfl (q_assign) ?_
   refine AOps.nil ?_
   refine AWp.ret ?_
   show Fin te Try.f68 _ _
   refine q_ret (0) [_] [_] ?_
   simp only [sameN, h1_1, h1_4]; rfl
 ·
  refine aC_ rfl rfl (q_move) ?_
  refine aG_ rfl rfl rfl rfl rfl rfl rfl rfl ?_
  refine aG_ rfl rfl rfl rfl rfl rfl rfl rfl ?_
  refine aC_ rfl rfl (q_pick) ?_
  refine aC_ rfl rfl (q_move) ?_
  refine aG_ rfl rfl rfl rfl rfl rfl rfl rfl ?_
  refine aG_ rfl rfl rfl rfl rfl rfl rfl rfl ?_
  refine aG_ rfl rfl rfl rfl rfl rfl rfl rfl ?_
  refine aG_ rfl rfl rfl rfl rfl rfl rfl rfl ?_
  refine aG_ rfl rfl rfl rfl rfl rfl rfl rfl ?_
  refine aC_ rfl rfl (q_pick) ?_
  refine aC_ rfl rfl (q_assign) ?_
  refine AOps.nil ?_
  refine AWp.ret ?_
  show Fin te Try.f68 _ _
  refine q_ret (0) [_] [_] ?_
  simp only [sameN, h1_1]; rfl
set_option maxRecDepth 20000 in
set_option maxHeartbeats 2000000 in
theorem c_name_Count (n : List UInt8) (h : n.length ≤ 140737488355328) : AC Try.prog 104 [str n] emp (Ret (i64 (cntN n))) := by
 refine AC.intro te_ok (fn := Try.f104) ⟨Try.func104, rfl, rfl⟩ (Nat.le_of_ble_eq_true rfl) ?_
 refine AWp.seq ?_
 refine AWp.region ?_
 refine aC_ rfl rfl (q_assign) ?_
 refine AOps.nil ?_
 refine AWp.seq ?_
 refine AWp.region ?_
 refine aC_ rfl rfl (q_move) ?_
 refine aC_ rfl rfl (q_callB (0) [] [(8, 2018)] [(_, _)] (hc := co_labels _ (by first | assumption | omega | decide | (simp; omega) | (simp [*]; done)))) ?_
 refine aC_ rfl rfl (q_len) ?_
 refine aC_ rfl rfl (q_assign) ?_
 refine AOps.nil ?_
 refine AWp.ret ?_
 show Fin te Try.f104 _ _
 refine q_ret (0) [_] [_] ?_
 rfl
set_option maxRecDepth 20000 in
set_option maxHeartbeats 2000000 in
theorem c_name_Tail (n : List UInt8) (h : n.length ≤ 140737488355328) (k : Int) (hk : -9223372036854775808 ≤ k ∧ k ≤ 9223372036854775807) : AC Try.prog 105 [str n, i64 k] emp (Ret (str (tailN n k))) := by
 have hll := labN_len n
 have hm : max k 0 = ((max k 0).toNat : Int) := by omega
 refine AC.intro te_ok (fn := Try.f105) ⟨Try.func105, rfl, rfl⟩ (Nat.le_of_ble_eq_true rfl) ?_
 refine AWp.seq ?_
 refine AWp.region ?_
 refine aC_ rfl rfl (q_assign) ?_
 refine AOps.nil ?_
 refine AWp.seq ?_
 refine AWp.seq ?_
 refine AWp.region ?_
 refine aC_ rfl rfl (q_move) ?_
 refine AOps.bool rfl rfl (q_call (0) (hc := c_name_Can _ (by first | assumption | omega | decide | (simp; omega) | (simp [*]; done)))) (fun h1_1 => ?_) (fun h1_1 => ?_)
 ·
  refine aC_ rfl rfl (q_not) ?_
  refine AOps.nil ?_
  refine AWp.cond_f rfl ?_
  refine AWp.skip ?_
  refine AWp.seq ?_
  refine AWp.seq ?_
  refine AWp.region ?_
  refine aC_ rfl rfl (q_move) ?_
  refine aC_ rfl rfl (q_call (0) (hc := c_name_Count _ (by first | assumption | omega | decide | (simp; omega) | (simp [*]; done)))) ?_
  refine aC_ rfl rfl (q_assign) ?_
  refine AOps.nil ?_
  refine AWp.block ?_
  refine AWp.loopR (α := Nat) [0, 5, 11, 12, 13, 14, 15, 16, 17, 18, 19, 20, 21, 22] (fun j => [(0, str (joinN ((labN n).drop j))), (5, i64 ((labN n).length - j))]) (fun j => []) (fun j => j ≤ (labN n).length - min (max k 0).toNat (labN n).length) (fun j => (labN n).length - j) 0 ?_ (Back.mk' (HasT.cons (HasT.cons HasT.nil (h1 := by exact i64_eq (by unfold cntN; omega)) ) (h1 := by rw [← tail_start h1_1]; rfl) ) HasH.nil) ?_
  ·
   exact Nat.zero_le _
  ·
   rintro j hI4
   refine AWp.seq ?_
   refine AWp.seq ?_
   refine AWp.region ?_
   refine aC_ rfl rfl (q_move) ?_
   refine aC_ rfl rfl (q_move) ?_
   refine aC_ rfl rfl (q_max) ?_
   refine AOps.dec rfl rfl (q_gtr) (fun h4_3 => ?_) (fun h4_3 => ?_)
   ·
    refine AOps.nil ?_
    refine AWp.cond_t rfl ?_
    refine AWp.skip ?_
    refine AWp.seq ?_
    refine AWp.block ?_
    refine AWp.region ?_
    have hj2 := (tail_step h1_1 (j := j) (by omega)).2
    refine aC_ rfl rfl (q_move) ?_
    refine aC_ rfl rfl (q_call (0) (hc := c_name_next _ (by first | assumption | omega | decide | (simp; omega) | (simp [*]; done)))) ?_
    refine aC_ rfl rfl (q_move) ?_
    refine aC_ rfl rfl (q_extract) ?_
    refine aC_ rfl rfl (q_extract) ?_
    refine aC_ rfl rfl (q_extract) ?_
    refine aC_ rfl rfl (q_assign) ?_
    refine AOps.nil ?_
    refine AWp.region ?_
    refine aC_ rfl rfl (q_move) ?_
    refine aC_ rfl rfl (q_sub) ?_
    refine aC_ rfl rfl (q_assign) ?_
    refine AOps.nil ?_
    have hj : j < (labN n).length := by omega
    refine ⟨j + 1, ?_, Back.mk' (HasT.cons (HasT.cons HasT.nil (h1 := by exact i64_eq (by omega)) ) (h1 := by rw [← (tail_step h1_1 hj).1]; rfl) ) HasH.nil, ?_⟩
    ·
     omega
    ·
     omega
   ·
    refine AOps.nil ?_
    refine AWp.cond_f rfl ?_
    refine AWp.exit ?_
    refine AWp.seq ?_
    refine AWp.region ?_
    refine aC_ rfl rfl (q_move) ?_
    refine aC_ rfl rfl (q_assign) ?_
    refine AOps.nil ?_
    refine AWp.ret ?_
    show Fin te Try.f105 _ _
    refine q_ret (0) [_] [_] ?_
    rw [tailN, if_pos h1_1, show j = (labN n).length - min (max k 0).toNat (labN n).length by omega]; rfl
 ·
  refine aC_ rfl rfl (q_not) ?_
  refine AOps.nil ?_
  refine AWp.cond_t rfl ?_
  refine AWp.seq ?_
  refine AWp.region ?_
  refine aC_ rfl rfl (q_assign) ?_
  refine AOps.nil ?_
  refine AWp.ret ?_
  show Fin te Try.f105 _ _
  refine q_ret (0) [_] [_] ?_
  rw [tailN, if_neg (by simp [h1_1])]; rfl
set_option maxRecDepth 20000 in
set_option maxHeartbeats 2000000 in
theorem c_name_Within (a b : List UInt8) (ha : a.length ≤ 140737488355328) (hb : b.length ≤ 140737488355328) : AC Try.prog 77 [str a, str b] emp (Ret (tf (withN a b))) := by
 have h1 := cntN_le a
 have h2 := cntN_le b
 have h3 := tailN_len a (cntN b)
 refine AC.intro te_ok (fn := Try.f77) ⟨Try.func77, rfl, rfl⟩ (Nat.le_of_ble_eq_true rfl) ?_
 refine AWp.seq ?_
 refine AWp.region ?_
 refine aC_ rfl rfl (q_assign) ?_
 refine AOps.nil ?_
 refine AWp.seq ?_
 refine AWp.region ?_
 refine aC_ rfl rfl (q_move) ?_
 refine AOps.bool rfl rfl (q_call (0) (hc := c_name_Can _ (by first | assumption | omega | decide | (simp; omega) | (simp [*]; done)))) (fun h1_1 => ?_) (fun h1_1 => ?_)
 ·
  refine aC_ rfl rfl (q_move) ?_
  refine AOps.gcons rfl rfl rfl rfl rfl (q_move) ?_
  refine AOps.gbool rfl rfl rfl rfl rfl (q_call (0) (hc := c_name_Can _ (by first | assumption | omega | decide | (simp; omega) | (simp [*]; done)))) (fun h1_4 => ?_) (fun h1_4 => ?_)
  ·
   refine aC_ rfl rfl (q_pick) ?_
   refine aC_ rfl rfl (q_move) ?_
   refine AOps.gcons rfl rfl rfl rfl rfl (q_move) ?_
   refine AOps.gcons rfl rfl rfl rfl rfl (q_call (0) (hc := c_name_Count _ (by first | assumption | omega | decide | (simp; omega) | (simp [*]; done)))) ?_
   refine AOps.gcons rfl rfl rfl rfl rfl (q_move) ?_
   refine AOps.gcons rfl rfl rfl rfl rfl (q_call (0) (hc := c_name_Count _ (by first | assumption | omega | decide | (simp; omega) | (simp [*]; done)))) ?_
   refine AOps.gdec rfl rfl rfl rfl rfl (q_geq) (fun h1_11 => ?_) (fun h1_11 => ?_)
   ·
    refine aC_ rfl rfl (q_pick) ?_
    refine aC_ rfl rfl (q_move) ?_
    refine AOps.gcons rfl rfl rfl rfl rfl (q_move) ?_
    refine AOps.gcons rfl rfl rfl rfl rfl (q_move) ?_
    refine AOps.gcons rfl rfl rfl rfl rfl (q_call (0) (hc := c_name_Count _ (by first | assumption | omega | decide | (simp; omega) | (simp [*]; done)))) ?_
    refine AOps.gcons rfl rfl rfl rfl rfl (q_call (0) (hc := c_name_Tail _ (by first | assumption | omega | decide | (simp; omega) | (simp [*]; done)) _ (by first | assumption | omega | decide | (simp; omega) | (simp [*]; done)))) ?_
    refine AOps.gcons rfl rfl rfl rfl rfl (q_move) ?_
    refine AOps.gcons rfl rfl rfl rfl rfl (q_call (0) (hc := c_name_Same _ _ (by first | assumption | omega | decide | (simp; omega) | (simp [*]; done)) (by first | assumption | omega | decide | (simp; omega) | (simp [*]; done)))) ?_
    refine aC_ rfl rfl (q_pick) ?_
    refine aC_ rfl rfl (q_assign) ?_
    refine AOps.nil ?_
    refine AWp.ret ?_
    show Fin te Try.f77 _ _
    refine q_ret (0) [_] [_] ?_
    simp only [withN, h1_1, h1_4, decide_eq_true (show cntN b ≤ cntN a by omega)]; rfl
   ·
    refine aC_ rfl rfl (q_pick) ?_
    refine aC_ rfl rfl (q_move) ?_
    refine aG_ rfl rfl rfl rfl rfl rfl rfl rfl ?_
    refine aG_ rfl rfl rfl rfl rfl rfl rfl rfl ?_
    refine aG_ rfl rfl rfl rfl rfl rfl rfl rfl ?_
    refine aG_ rfl rfl rfl rfl rfl rfl rfl rfl ?_
    refine aG_ rfl rfl rfl rfl rfl rfl rfl rfl ?_
    refine aG_ rfl rfl rfl rfl rfl rfl rfl rfl ?_
    refine aC_ rfl rfl (q_pick) ?_
    refine aC_ rfl rfl (q_assign) ?_
    refine AOps.nil ?_
    refine AWp.ret ?_
    show Fin te Try.f77 _ _
    refine q_ret (0) [_] [_] ?_
    simp only [withN, h1_1, h1_4, decide_eq_false (show ¬ cntN b ≤ cntN a by omega)]; rfl
  ·
   refine aC_ rfl rfl (q_pick) ?_
   refine aC_ rfl rfl (q_move) ?_
   refine aG_ rfl rfl rfl rfl rfl rfl rfl rfl ?_
   refine aG_ rfl rfl rfl rfl rfl rfl rfl rfl ?_
   refine aG_ rfl rfl rfl rfl rfl rfl rfl rfl ?_
   refine aG_ rfl rfl rfl rfl rfl rfl rfl rfl ?_
   refine aG_ rfl rfl rfl rfl rfl rfl rfl rfl ?_
   refine aC_ rfl rfl (q_pick) ?_
   refine aC_ rfl rfl (q_move) ?_
   refine aG_ rfl rfl rfl rfl rfl rfl rfl rfl ?_
   refine aG_ rfl rfl rfl rfl rfl rfl rfl rfl ?_
   refine aG_ rfl rfl rfl rfl rfl rfl rfl rfl ?_
   refine aG_ rfl rfl rfl rfl rfl rfl rfl rfl ?_
   refine aG_ rfl rfl rfl rfl rfl rfl rfl rfl ?_
   refine aG_ rfl rfl rfl rfl rfl rfl rfl rfl ?_
   refine aC_ rfl rfl (q_pick) ?_
   refine aC_ rfl rfl (q_assign) ?_
   refine AOps.nil ?_
   refine AWp.ret ?_
   show Fin te Try.f77 _ _
   refine q_ret (0) [_] [_] ?_
   simp only [withN, h1_1, h1_4]; rfl
 ·
  refine aC_ rfl rfl (q_move) ?_
  refine aG_ rfl rfl rfl rfl rfl rfl rfl rfl ?_
  refine aG_ rfl rfl rfl rfl rfl rfl rfl rfl ?_
  refine aC_ rfl rfl (q_pick) ?_
  refine aC_ rfl rfl (q_move) ?_
  refine aG_ rfl rfl rfl rfl rfl rfl rfl rfl ?_
  refine aG_ rfl rfl rfl rfl rfl rfl rfl rfl ?_
  refine aG_ rfl rfl rfl rfl rfl rfl rfl rfl ?_
  refine aG_ rfl rfl rfl rfl rfl rfl rfl rfl ?_
  refine aG_ rfl rfl rfl rfl rfl rfl rfl rfl ?_
  refine aC_ rfl rfl (q_pick) ?_
  refine aC_ rfl rfl (q_move) ?_
  refine aG_ rfl rfl rfl rfl rfl rfl rfl rfl ?_
  refine aG_ rfl rfl rfl rfl rfl rfl rfl rfl ?_
  refine aG_ rfl rfl rfl rfl rfl rfl rfl rfl ?_
  refine aG_ rfl rfl rfl rfl rfl rfl rfl rfl ?_
  refine aG_ rfl rfl rfl rfl rfl rfl rfl rfl ?_
  refine aG_ rfl rfl rfl rfl rfl rfl rfl rfl ?_
  refine aC_ rfl rfl (q_pick) ?_
  refine aC_ rfl rfl (q_assign) ?_
  refine AOps.nil ?_
  refine AWp.ret ?_
  show Fin te Try.f77 _ _
  refine q_ret (0) [_] [_] ?_
  simp only [withN, h1_1]; rfl
end Go.Proofs.Ytokccoloholgaaa.Fw


set_option linter.unusedVariables false
set_option linter.unusedSimpArgs false
namespace Go.Proofs.Ytokccoloholgaaa.Fw
open Go.RowKit
theorem can_labs {n : List UInt8} (h : canN n = true) : GoodN (labN n) ∧ n = joinN (labN n) ∧ n.length ≤ 255 := by
  obtain ⟨ls, g, rfl, hl⟩ := canN_iff.1 h
  rw [labN_join g hl]
  exact ⟨g, rfl, hl⟩
theorem labs_end (n : List UInt8) {i : Nat} (h : n.length ≤ i) : (labs (n.drop i)).isSome = false := by
  rw [List.drop_of_length_le h, labs]; rfl
theorem labs_at {n : List UInt8} {i : Nat} (hi : i < n.length) : (labs (n.drop i)).isSome = if (n.getD i 0).toNat = 0 then decide (i + 1 = n.length) else if 63 < (n.getD i 0).toNat then false else (labs (n.drop (i + 1 + (n.getD i 0).toNat))).isSome := by
  have hg : n.getD i 0 = n[i] := by rw [List.getD_eq_getElem?_getD, List.getElem?_eq_getElem hi]; rfl
  rw [List.drop_eq_getElem_cons hi, labs, ← hg]
  generalize n.getD i 0 = k
  have hz : k = 0 ↔ k.toNat = 0 := ⟨fun e => by rw [e]; rfl, fun e => UInt8.toNat_inj.1 (by simpa using e)⟩
  by_cases h0 : k.toNat = 0
  · rw [if_pos (hz.2 h0), if_pos h0]
    by_cases he : i + 1 = n.length
    · rw [if_pos (List.drop_of_length_le (by omega)), decide_eq_true he]; rfl
    · rw [if_neg (fun e => by have := congrArg List.length e; simp at this; omega), decide_eq_false he]; rfl
  · rw [if_neg (fun e => h0 (hz.1 e)), if_neg h0]
    by_cases h6 : 63 < k.toNat
    · rw [if_pos (Or.inl h6), if_pos h6]; rfl
    · rw [if_neg h6]
      by_cases hr : (n.drop (i + 1)).length < k.toNat
      · rw [if_pos (Or.inr hr), labs_end n (by simp at hr; omega)]; rfl
      · rw [if_neg (by omega), Option.isSome_map, List.drop_drop]
theorem at_root {n : List UInt8} {i : Nat} (h : n.drop i = joinN []) : i < n.length ∧ (n.getD i 0).toNat = 0 := by
  have hl := congrArg List.length h
  rw [joinN_nil, List.length_drop] at hl
  simp at hl
  have hi : i < n.length := by omega
  refine ⟨hi, ?_⟩
  rw [List.drop_eq_getElem_cons hi, joinN_nil] at h
  rw [List.getD_eq_getElem?_getD, List.getElem?_eq_getElem hi, Option.getD_some, (List.cons.inj h).1]
  rfl
theorem at_lab {n l : List UInt8} {ls : List (List UInt8)} {i : Nat} (g : GoodN (l :: ls)) (h : n.drop i = joinN (l :: ls)) : i < n.length ∧ (n.getD i 0).toNat = l.length ∧ i + 1 + l.length < n.length ∧ (n.take (i + 1 + l.length)).drop (i + 1) = l ∧ n.drop (i + 1 + l.length) = joinN ls ∧ 1 ≤ l.length ∧ l.length ≤ 63 := by
  have hl := congrArg List.length h
  have hp := joinN_length ls
  rw [joinN_cons, List.length_drop, List.length_cons, List.length_append] at hl
  have hi : i < n.length := by omega
  have h2 := h
  rw [List.drop_eq_getElem_cons hi, joinN_cons] at h2
  obtain ⟨e1, e2⟩ := List.cons.inj h2
  refine ⟨hi, ?_, by omega, ?_, ?_, g.head.1, g.head.2⟩
  · rw [List.getD_eq_getElem?_getD, List.getElem?_eq_getElem hi, Option.getD_some, e1]
    exact byte_len g.head.2
  · rw [List.drop_take, e2, show i + 1 + l.length - (i + 1) = l.length by omega, List.take_left]
  · rw [← List.drop_drop, e2, List.drop_left]
theorem low_len {n : List UInt8} (h : canN n = true) : lowN n = joinN (lowL (labN n)) ∧ (joinN (lowL (labN n))).length ≤ 255 := by
  obtain ⟨ls, g, rfl, hl⟩ := canN_iff.1 h
  rw [labN_join g hl, lowN_join g hl]
  exact ⟨rfl, by rw [low_length g]; exact hl⟩
theorem joinN_drop_le : ∀ (ls : List (List UInt8)) (j : Nat), (joinN (ls.drop j)).length ≤ (joinN ls).length
  | [], j => by simp
  | l :: ls, 0 => Nat.le_refl _
  | l :: ls, j + 1 => by
    have := joinN_drop_le ls j
    have := joinN_le (l := l) (ls := ls)
    simp only [List.drop_succ_cons]
    omega
theorem join_at {ls : List (List UInt8)} {i : Nat} (hi : i < ls.length) : joinN (ls.drop i) = byte ((ls.getD i default).length : Int) :: (ls.getD i default ++ joinN (ls.drop (i + 1))) := by
  have e : ls.getD i default = ls[i] := by rw [List.getD_eq_getElem?_getD, List.getElem?_eq_getElem hi]; rfl
  rw [List.drop_eq_getElem_cons hi, joinN_cons, e]
theorem take_map_step {α β : Type} [Inhabited α] (f : α → β) {l : List α} {i : Nat} (hi : i < l.length) : (l.take (i + 1)).map f = (l.take i).map f ++ [f (l.getD i default)] := by
  have e : l.getD i default = l[i] := by rw [List.getD_eq_getElem?_getD, List.getElem?_eq_getElem hi]; rfl
  rw [List.take_succ_eq_append_getElem hi, List.map_append, e]
  rfl
theorem getD_mem' {α : Type} [Inhabited α] {l : List α} {i : Nat} (hi : i < l.length) : l.getD i default ∈ l := by
  rw [List.getD_eq_getElem?_getD, List.getElem?_eq_getElem hi]; exact List.getElem_mem hi
set_option maxRecDepth 20000 in
set_option maxHeartbeats 2000000 in
theorem c_ciceroneref01_Can (n : List UInt8) (h : n.length ≤ 140737488355328) : AC Try.prog 21 [str n] emp (Ret (tf (canN n))) := by
 refine AC.intro te_ok (fn := Try.f21) ⟨Try.func21, rfl, rfl⟩ (Nat.le_of_ble_eq_true rfl) ?_
 refine AWp.seq ?_
 refine AWp.region ?_
 refine aC_ rfl rfl (q_assign) ?_
 refine AOps.nil ?_
 refine AWp.seq ?_
 refine AWp.seq ?_
 refine AWp.region ?_
 refine aC_ rfl rfl (q_move) ?_
 refine aC_ rfl rfl (q_len_str) ?_
 refine AOps.dec rfl rfl (q_gtr) (fun h1_2 => ?_) (fun h1_2 => ?_)
 ·
  refine AOps.nil ?_
  refine AWp.cond_t rfl ?_
  refine AWp.seq ?_
  refine AWp.region ?_
  refine aC_ rfl rfl (q_assign) ?_
  refine AOps.nil ?_
  refine AWp.ret ?_
  show Fin te Try.f21 _ _
  refine q_ret (0) [_] [_] ?_
  have e : canN n = false := by rw [canN, decide_eq_false (by omega), Bool.and_false]
  rw [e]; rfl
 ·
  refine AOps.nil ?_
  refine AWp.cond_f rfl ?_
  refine AWp.skip ?_
  refine AWp.seq ?_
  refine AWp.region ?_
  refine aC_ rfl rfl (q_assign) ?_
  refine AOps.nil ?_
  refine AWp.seq ?_
  refine AWp.block ?_
  refine AWp.loopR (α := Nat) [2, 3, 4, 8, 9, 10, 11, 12, 13, 14, 15, 16, 17, 18, 19, 20, 21, 22, 23, 24, 25, 26, 27, 28] (fun i => [(3, i64 i)]) (fun i => []) (fun i => (labs n).isSome = (labs (n.drop i)).isSome ∧ i ≤ 319) (fun i => n.length - i) 0 ?_ (Back.mk' (HasT.cons HasT.nil) HasH.nil) ?_
  ·
   exact ⟨rfl, by omega⟩
  ·
   rintro i ⟨hc, hi⟩
   refine AWp.seq ?_
   refine AWp.seq ?_
   refine AWp.region ?_
   refine aC_ rfl rfl (q_move) ?_
   refine aC_ rfl rfl (q_move) ?_
   refine aC_ rfl rfl (q_len_str) ?_
   refine AOps.dec rfl rfl (q_lss) (fun h4_3 => ?_) (fun h4_3 => ?_)
   ·
    refine AOps.nil ?_
    refine AWp.cond_t rfl ?_
    refine AWp.skip ?_
    refine AWp.block ?_
    refine AWp.seq ?_
    refine AWp.region ?_
    have hk := (n.getD i 0).toNat_lt
    refine aC_ rfl rfl (q_move) ?_
    refine aC_ rfl rfl (q_move) ?_
    refine aC_ rfl rfl (q_ixs) ?_
    refine aC_ rfl rfl (q_conv_8i) ?_
    refine aC_ rfl rfl (q_assign) ?_
    refine AOps.nil ?_
    refine AWp.seq ?_
    refine AWp.seq ?_
    refine AWp.region ?_
    have hla := labs_at (n := n) (i := i) (by omega)
    refine aC_ rfl rfl (q_move) ?_
    refine AOps.dec rfl rfl (q_eql) (fun h6_1 => ?_) (fun h6_1 => ?_)
    ·
     refine AOps.nil ?_
     refine AWp.cond_t rfl ?_
     refine AWp.seq ?_
     refine AWp.region ?_
     refine aC_ rfl rfl (q_move) ?_
     refine aC_ rfl rfl (q_move) ?_
     refine aC_ rfl rfl (q_len_str) ?_
     refine aC_ rfl rfl (q_sub) ?_
     refine aC_ rfl rfl (q_eql) ?_
     refine aC_ rfl rfl (q_assign) ?_
     refine AOps.nil ?_
     refine AWp.ret ?_
     show Fin te Try.f21 _ _
     refine q_ret (0) [_] [_] ?_
     have k1 : ((n.getD i 0).toNat : Int) = 0 := h6_1
     rw [if_pos (by omega)] at hla
     rw [canN, hc, hla, decide_eq_true (show n.length ≤ 255 by omega), Bool.and_true]
     exact congrArg tf (decide_eq_decide.2 (by omega))
    ·
     refine AOps.nil ?_
     refine AWp.cond_f rfl ?_
     refine AWp.skip ?_
     refine AWp.seq ?_
     refine AWp.seq ?_
     refine AWp.region ?_
     refine aC_ rfl rfl (q_move) ?_
     refine AOps.dec rfl rfl (q_gtr) (fun h8_1 => ?_) (fun h8_1 => ?_)
     ·
      refine AOps.nil ?_
      refine AWp.cond_t rfl ?_
      refine AWp.seq ?_
      refine AWp.region ?_
      refine aC_ rfl rfl (q_assign) ?_
      refine AOps.nil ?_
      refine AWp.ret ?_
      show Fin te Try.f21 _ _
      refine q_ret (0) [_] [_] ?_
      have k1 : ¬ ((n.getD i 0).toNat : Int) = 0 := h6_1
      have k2 : 63 < ((n.getD i 0).toNat : Int) := h8_1
      rw [if_neg (by omega), if_pos (by omega)] at hla
      rw [canN, hc, hla]; rfl
     ·
      refine AOps.nil ?_
      refine AWp.cond_f rfl ?_
      refine AWp.skip ?_
      refine AWp.region ?_
      have k2 : ¬ 63 < ((n.getD i 0).toNat : Int) := h8_1
      have hk3 : ((n.getD (i : Int).toNat 0).toNat : Int) = ((n.getD i 0).toNat : Int) := rfl
      refine aC_ rfl rfl (q_move) ?_
      refine aC_ rfl rfl (q_move) ?_
      refine aC_ rfl rfl (q_add) ?_
      refine aC_ rfl rfl (q_add) ?_
      refine aC_ rfl rfl (q_assign) ?_
      refine AOps.nil ?_
      have k1 : ¬ ((n.getD i 0).toNat : Int) = 0 := h6_1
      have k2 : ¬ 63 < ((n.getD i 0).toNat : Int) := h8_1
      refine ⟨i + 1 + (n.getD i 0).toNat, ?_, Back.mk' (HasT.cons HasT.nil (h1 := by exact i64_eq (by show (i : Int) + (1 + ((n.getD i 0).toNat : Int)) = ((i + 1 + (n.getD i 0).toNat : Nat) : Int); omega)) ) HasH.nil, ?_⟩
      ·
       exact ⟨by rw [hc, labs_at (by omega), if_neg (by omega), if_neg (by omega)], by omega⟩
      ·
       omega
   ·
    refine AOps.nil ?_
    refine AWp.cond_f rfl ?_
    refine AWp.exit ?_
    refine AWp.seq ?_
    refine AWp.region ?_
    refine aC_ rfl rfl (q_assign) ?_
    refine AOps.nil ?_
    refine AWp.ret ?_
    show Fin te Try.f21 _ _
    refine q_ret (0) [_] [_] ?_
    have e : canN n = false := by rw [canN, hc, labs_end n (by omega)]; rfl
    rw [e]; rfl
set_option maxRecDepth 20000 in
set_option maxHeartbeats 2000000 in
theorem c_ciceroneref01_Labels (n : List UInt8) (h : n.length ≤ 140737488355328) : AC Try.prog 55 [str n] emp (Ret (.fz 0 (labN n).length (cl sc (labN n)))) := by
 refine AC.intro te_ok (fn := Try.f55) ⟨Try.func55, rfl, rfl⟩ (Nat.le_of_ble_eq_true rfl) ?_
 refine AWp.seq ?_
 refine AWp.region ?_
 refine aC_ rfl rfl (q_nilz (0) sc) ?_
 refine AOps.nil ?_
 refine AWp.seq ?_
 refine AWp.seq ?_
 refine AWp.region ?_
 refine aC_ rfl rfl (q_move) ?_
 refine AOps.bool rfl rfl (q_call (0) (hc := c_ciceroneref01_Can _ (by first | assumption | omega | decide | (simp; omega) | (simp [*]; done)))) (fun h1_1 => ?_) (fun h1_1 => ?_)
 ·
  refine aC_ rfl rfl (q_not) ?_
  refine AOps.nil ?_
  refine AWp.cond_f rfl ?_
  refine AWp.skip ?_
  refine AWp.seq ?_
  refine AWp.region ?_
  refine aC_ rfl rfl (q_nilrow 400 1 sc) ?_
  refine AOps.nil ?_
  refine AWp.seq ?_
  refine AWp.region ?_
  obtain ⟨hg0, hn0, hl0⟩ := can_labs h1_1
  refine aC_ rfl rfl (q_assign) ?_
  refine AOps.nil ?_
  refine AWp.seq ?_
  refine AWp.block ?_
  refine AWp.loopR (α := Nat × List (List UInt8) × Nat × List (List UInt8)) [3, 4, 5, 9, 10, 11, 12, 13, 14, 15, 16, 17, 18, 19, 20, 21, 22, 23, 24, 25, 26, 27, 28, 29, 30, 31] (fun x_ => [(4, i64 (x_.1)), (3, .sl 400 (x_.2.2.1) 0 (x_.2.1).length 1)]) (fun x_ => [(400, .row (cl sc (x_.2.1)) 1 (x_.2.2.1))]) (fun x_ => GoodN (x_.2.2.2) ∧ n.drop (x_.1) = joinN (x_.2.2.2) ∧ labN n = (x_.2.1) ++ (x_.2.2.2)) (fun x_ => (x_.2.2.2).length) (0, [], 0, labN n) ?_ (Back.mk' (HasT.cons (HasT.cons HasT.nil)) (HasH.cons HasH.nil)) ?_
  ·
   exact ⟨hg0, hn0, rfl⟩
  ·
   rintro ⟨i, acc, v, ls⟩ hI5
   change GoodN ls ∧ n.drop i = joinN ls ∧ labN n = acc ++ ls at hI5
   obtain ⟨hg, hd, hI⟩ := hI5
   refine AWp.as (s' := AS.over _ [3, 4, 5, 9, 10, 11, 12, 13, 14, 15, 16, 17, 18, 19, 20, 21, 22, 23, 24, 25, 26, 27, 28, 29, 30, 31] [(4, i64 i), (3, .sl 400 v 0 acc.length 1)] [(400, .row (cl sc acc) 1 v)]) rfl ?_
   have hll := labN_len n
   rw [hI, List.length_append] at hll
   refine AWp.seq ?_
   refine AWp.seq ?_
   refine AWp.region ?_
   rcases ls with _ | ⟨l, ls⟩
   ·
    obtain ⟨hr1, hr2⟩ := at_root hd
    refine aC_ rfl rfl (q_move) ?_
    refine aC_ rfl rfl (q_move) ?_
    refine aC_ rfl rfl (q_ixs) ?_
    refine AOps.dec rfl rfl (q_neq) (fun h5_3 => ?_) (fun h5_3 => ?_)
    ·
     exfalso; exact absurd (show ((n.getD i 0).toNat : Int) = 0 by omega) h5_3
    ·
     refine AOps.nil ?_
     refine AWp.cond_f rfl ?_
     refine AWp.exit ?_
     refine AWp.seq ?_
     refine AWp.region ?_
     refine aC_ rfl rfl (q_move) ?_
     refine aC_ rfl rfl (q_assign) ?_
     refine AOps.nil ?_
     refine AWp.ret ?_
     show Fin te Try.f55 _ _
     obtain rfl : acc = labN n := by rw [hI, List.append_nil]
     refine q_ret (0) [_] [_] ?_
     rfl
   ·
    obtain ⟨ha1, ha2, ha3, ha4, ha5, ha6, ha7⟩ := at_lab hg hd
    have ha2' : ((n.getD (i : Int).toNat 0).toNat : Int) = (l.length : Int) := congrArg Int.ofNat ha2
    have hsl : (n.take ((i : Int) + 1 + ((n.getD (i : Int).toNat 0).toNat : Int)).toNat).drop ((i : Int) + 1).toNat = l := by rw [ha2', show ((i : Int) + 1 + (l.length : Int)).toNat = i + 1 + l.length by omega, show ((i : Int) + 1).toNat = i + 1 by omega]; exact ha4
    rw [List.length_cons] at hll
    refine aC_ rfl rfl (q_move) ?_
    refine aC_ rfl rfl (q_move) ?_
    refine aC_ rfl rfl (q_ixs) ?_
    refine AOps.dec rfl rfl (q_neq) (fun h5_3 => ?_) (fun h5_3 => ?_)
    ·
     refine AOps.nil ?_
     refine AWp.cond_t rfl ?_
     refine AWp.skip ?_
     refine AWp.block ?_
     refine AWp.seq ?_
     refine AWp.region ?_
     refine aC_ rfl rfl (q_move) ?_
     refine aC_ rfl rfl (q_move) ?_
     refine aC_ rfl rfl (q_ixs) ?_
     refine aC_ rfl rfl (q_conv_8i) ?_
     refine aC_ rfl rfl (q_assign) ?_
     refine AOps.nil ?_
     refine AWp.seq ?_
     refine AWp.region ?_
     refine aC_ rfl rfl (q_move) ?_
     refine aC_ rfl rfl (q_move) ?_
     refine aC_ rfl rfl (q_move) ?_
     refine aC_ rfl rfl (q_add) ?_
     refine aC_ rfl rfl (q_move) ?_
     refine aC_ rfl rfl (q_add) ?_
     refine aC_ rfl rfl (q_move) ?_
     refine aC_ rfl rfl (q_add) ?_
     refine aC_ rfl rfl (q_sls) ?_
     refine aC_ rfl rfl (q_bs 809 sc [_] [(_, _)]) ?_
     refine aC_ rfl rfl (q_app) ?_
     refine aC_ rfl rfl (q_assign) ?_
     refine AOps.nil ?_
     refine AWp.region ?_
     refine aC_ rfl rfl (q_move) ?_
     refine aC_ rfl rfl (q_move) ?_
     refine aC_ rfl rfl (q_add) ?_
     refine aC_ rfl rfl (q_add) ?_
     refine aC_ rfl rfl (q_assign) ?_
     refine AOps.nil ?_
     refine ⟨(i + 1 + l.length, _, _, ls), ?_, Back.mk' (HasT.cons (HasT.cons HasT.nil) (h1 := by exact i64_eq (by rw [ha2']; omega)) ) (HasH.cons HasH.nil), ?_⟩
     ·
      try dsimp only
      exact ⟨hg.tail, ha5, by rw [hI, hsl]; simp⟩
     ·
      try dsimp only
      simp
    ·
     exfalso; exact h5_3 (show ¬ ((n.getD i 0).toNat : Int) = 0 by omega)
 ·
  refine aC_ rfl rfl (q_not) ?_
  refine AOps.nil ?_
  refine AWp.cond_t rfl ?_
  refine AWp.seq ?_
  refine AWp.region ?_
  refine aC_ rfl rfl (q_nilz (0) sc) ?_
  refine AOps.nil ?_
  refine AWp.ret ?_
  show Fin te Try.f55 _ _
  refine q_ret (0) [_] [_] ?_
  rw [labN_no h1_1]; rfl
set_option maxRecDepth 20000 in
set_option maxHeartbeats 2000000 in
theorem c_ciceroneref01_Join (ls : List (List UInt8)) (lv : Nat) (hj : (joinN ls).length ≤ 140737488351232) : AC Try.prog 56 [.fz lv ls.length (cl sc ls)] emp (Ret (str (joinN ls))) := by
 refine AC.intro te_ok (fn := Try.f56) ⟨Try.func56, rfl, rfl⟩ (Nat.le_of_ble_eq_true rfl) ?_
 refine AWp.seq ?_
 refine AWp.region ?_
 refine aC_ rfl rfl (q_assign) ?_
 refine AOps.nil ?_
 refine AWp.seq ?_
 refine AWp.region ?_
 refine aC_ rfl rfl (q_assign) ?_
 refine AOps.nil ?_
 refine AWp.seq ?_
 refine AWp.seq ?_
 refine AWp.region ?_
 refine aC_ rfl rfl (q_move) ?_
 refine aC_ rfl rfl (q_len) ?_
 refine aC_ rfl rfl (q_move) ?_
 refine AOps.nil ?_
 refine AWp.block ?_
 refine AWp.loopR (α := Nat × List UInt8) [3, 5, 8, 9, 10, 11, 12, 13, 14, 15, 16, 17, 18, 19, 20, 21] (fun x_ => [(8, i64 (x_.1)), (3, str (x_.2))]) (fun x_ => []) (fun x_ => (x_.1) ≤ ls.length ∧ (x_.2) ++ joinN (ls.drop (x_.1)) = joinN ls) (fun x_ => ls.length - (x_.1)) (0, []) ?_ (Back.mk' (HasT.cons (HasT.cons HasT.nil)) HasH.nil) ?_
 ·
  exact ⟨Nat.zero_le _, rfl⟩
 ·
  rintro ⟨i, acc⟩ hI3
  change i ≤ ls.length ∧ acc ++ joinN (ls.drop i) = joinN ls at hI3
  obtain ⟨hi, hI⟩ := hI3
  refine AWp.as (s' := AS.over _ [3, 5, 8, 9, 10, 11, 12, 13, 14, 15, 16, 17, 18, 19, 20, 21] [(8, i64 i), (3, str acc)] []) rfl ?_
  have hll := congrArg List.length hI
  rw [List.length_append] at hll
  refine AWp.seq ?_
  refine AWp.region ?_
  refine AOps.dec rfl rfl (q_lss) (fun h3_0 => ?_) (fun h3_0 => ?_)
  ·
   refine AOps.nil ?_
   refine AWp.seq ?_
   refine AWp.cond_t rfl ?_
   refine AWp.skip ?_
   refine AWp.seq ?_
   refine AWp.block ?_
   refine AWp.seq ?_
   refine AWp.region ?_
   have hja := join_at (ls := ls) (i := i) (by omega)
   rw [hja, List.length_cons, List.length_append] at hll
   have hll2 : acc.length + ((ls.getD (i : Int).toNat default).length + (joinN (ls.drop (i + 1))).length + 1) = (joinN ls).length := hll
   have hg3 : (ls[i]?.getD default).length = (ls.getD (i : Int).toNat default).length := congrArg List.length (List.getD_eq_getElem?_getD).symm
   have hg4 := joinN_length ls
   refine aC_ rfl rfl (q_ix) ?_
   refine aC_ rfl rfl (q_load) ?_
   refine aC_ rfl rfl (q_assign) ?_
   refine AOps.nil ?_
   refine AWp.region ?_
   refine aC_ rfl rfl (q_move) ?_
   refine aC_ rfl rfl (q_move) ?_
   refine aC_ rfl rfl (q_len_str) ?_
   refine aC_ rfl rfl (q_conv_u8) ?_
   refine aC_ rfl rfl (q_bs 604 bc [_] [(_, _)]) ?_
   refine aC_ rfl rfl (q_conv_ls) ?_
   refine aC_ rfl rfl (q_move) ?_
   refine aC_ rfl rfl (q_sadd) ?_
   refine aC_ rfl rfl (q_sadd) ?_
   refine aC_ rfl rfl (q_assign) ?_
   refine AOps.nil ?_
   refine AWp.region ?_
   refine aC_ rfl rfl (q_add) ?_
   refine aC_ rfl rfl (q_move) ?_
   refine AOps.nil ?_
   refine ⟨(i + 1, _), ?_, Back.mk' (HasT.cons (HasT.cons HasT.nil)) HasH.nil, ?_⟩
   ·
    try dsimp only
    exact ⟨by omega, by rw [← hI, hja]; simp⟩
   ·
    try dsimp only
    first | omega | (simp; omega)
  ·
   refine AOps.nil ?_
   refine AWp.seq ?_
   refine AWp.cond_f rfl ?_
   refine AWp.exit ?_
   refine AWp.seq ?_
   refine AWp.region ?_
   refine aC_ rfl rfl (q_move) ?_
   refine aC_ rfl rfl (q_sadd) ?_
   refine aC_ rfl rfl (q_assign) ?_
   refine AOps.nil ?_
   refine AWp.ret ?_
   show Fin te Try.f56 _ _
   obtain rfl : i = ls.length := by omega
   rw [List.drop_length, joinN_nil] at hI
   refine q_ret (0) [_] [_] ?_
   exact congrArg (fun x => str x) hI
set_option maxRecDepth 20000 in
set_option maxHeartbeats 2000000 in
theorem c_ciceroneref01_small (n : List UInt8) (h : n.length ≤ 140737488355328) : AC Try.prog 96 [str n] emp (Ret (str (n.map lowC))) := by
 refine AC.intro te_ok (fn := Try.f96) ⟨Try.func96, rfl, rfl⟩ (Nat.le_of_ble_eq_true rfl) ?_
 refine AWp.seq ?_
 refine AWp.region ?_
 refine aC_ rfl rfl (q_assign) ?_
 refine AOps.nil ?_
 refine AWp.seq ?_
 refine AWp.region ?_
 refine aC_ rfl rfl (q_move) ?_
 refine aC_ rfl rfl (q_conv_sl 201) ?_
 refine aC_ rfl rfl (q_assign) ?_
 refine AOps.nil ?_
 refine AWp.seq ?_
 refine AWp.seq ?_
 refine AWp.region ?_
 refine aC_ rfl rfl (q_move) ?_
 refine aC_ rfl rfl (q_len) ?_
 refine aC_ rfl rfl (q_move) ?_
 refine AOps.nil ?_
 refine AWp.block ?_
 refine AWp.loopR (α := Nat × List UInt8) [4, 5, 10, 11, 12, 13, 14, 15, 16, 17, 18, 19, 20, 21, 22, 23, 24, 25, 26] (fun x_ => [(10, i64 (x_.1))]) (fun x_ => [(201, .row (cl bc (x_.2)) 1 0)]) (fun x_ => (x_.1) ≤ n.length ∧ (x_.2) = (n.take (x_.1)).map lowC ++ n.drop (x_.1)) (fun x_ => n.length - (x_.1)) (0, n) ?_ (Back.mk' (HasT.cons HasT.nil) (HasH.cons HasH.nil)) ?_
 ·
  exact ⟨Nat.zero_le _, by simp⟩
 ·
  rintro ⟨i, b⟩ hI3
  change i ≤ n.length ∧ b = (n.take i).map lowC ++ n.drop i at hI3
  obtain ⟨hi, hb⟩ := hI3
  refine AWp.as (s' := AS.over _ [4, 5, 10, 11, 12, 13, 14, 15, 16, 17, 18, 19, 20, 21, 22, 23, 24, 25, 26] [(10, i64 i)] [(201, .row (cl bc b) 1 0)]) rfl ?_
  have hbl := lower_len hi hb
  refine AWp.seq ?_
  refine AWp.region ?_
  refine AOps.dec rfl rfl (q_lss) (fun h3_0 => ?_) (fun h3_0 => ?_)
  ·
   refine AOps.nil ?_
   refine AWp.seq ?_
   refine AWp.cond_t rfl ?_
   refine AWp.skip ?_
   refine AWp.seq ?_
   refine AWp.block ?_
   refine AWp.seq ?_
   refine AWp.region ?_
   refine aC_ rfl rfl (q_move) ?_
   refine aC_ rfl rfl (q_ix) ?_
   refine aC_ rfl rfl (q_load) ?_
   refine aC_ rfl rfl (q_assign) ?_
   refine aC_ rfl rfl (q_assign) ?_
   refine AOps.nil ?_
   refine AWp.seq ?_
   refine AWp.region ?_
   have hx := lower_step (by omega) hb
   refine aC_ rfl rfl (q_move) ?_
   refine AOps.dec rfl rfl (q_geq) (fun h5_1 => ?_) (fun h5_1 => ?_)
   ·
    refine aC_ rfl rfl (q_move) ?_
    refine AOps.gcons rfl rfl rfl rfl rfl (q_move) ?_
    refine AOps.gdec rfl rfl rfl rfl rfl (q_leq) (fun h5_4 => ?_) (fun h5_4 => ?_)
    ·
     refine aC_ rfl rfl (q_pick) ?_
     refine AOps.nil ?_
     refine AWp.cond_t rfl ?_
     refine AWp.region ?_
     refine aC_ rfl rfl (q_move) ?_
     refine aC_ rfl rfl (q_move) ?_
     refine aC_ rfl rfl (q_move) ?_
     refine aC_ rfl rfl (q_add8 _ 32) ?_
     refine aC_ rfl rfl (q_ix) ?_
     refine aC_ rfl rfl (q_store) ?_
     refine AOps.nil ?_
     refine AWp.region ?_
     refine aC_ rfl rfl (q_add) ?_
     refine aC_ rfl rfl (q_move) ?_
     refine AOps.nil ?_
     refine ⟨(i + 1, _), ?_, Back.mk' (HasT.cons HasT.nil) (HasH.cons HasH.nil), ?_⟩
     ·
      try dsimp only
      have k1 : 65 ≤ ((b.getD i default).toNat : Int) := h5_1
      have k2 : ((b.getD i default).toNat : Int) ≤ 90 := h5_4
      rw [hx.1] at k1 k2
      have e := hx.2
      rw [show lowC (n.getD i default) = n.getD i default + 32 from (if_pos ⟨by omega, by omega⟩).trans ((lowC_add _ ⟨by omega, by omega⟩).symm), ← hx.1] at e
      exact ⟨by omega, e⟩
     ·
      try dsimp only
      first | omega | (simp; omega)
    ·
     refine aC_ rfl rfl (q_pick) ?_
     refine AOps.nil ?_
     refine AWp.cond_f rfl ?_
     refine AWp.skip ?_
     refine AWp.region ?_
     refine aC_ rfl rfl (q_add) ?_
     refine aC_ rfl rfl (q_move) ?_
     refine AOps.nil ?_
     refine ⟨(i + 1, _), ?_, Back.mk' (HasT.cons HasT.nil) (HasH.cons HasH.nil), ?_⟩
     ·
      try dsimp only
      exact ⟨by omega, lower_skip (by omega) hb (if_neg (by have k1 : ¬ ((b.getD i default).toNat : Int) ≤ 90 := h5_4; rw [hx.1] at k1; omega))⟩
     ·
      try dsimp only
      first | omega | (simp; omega)
   ·
    refine aC_ rfl rfl (q_move) ?_
    refine aG_ rfl rfl rfl rfl rfl rfl rfl rfl ?_
    refine aG_ rfl rfl rfl rfl rfl rfl rfl rfl ?_
    refine aC_ rfl rfl (q_pick) ?_
    refine AOps.nil ?_
    refine AWp.cond_f rfl ?_
    refine AWp.skip ?_
    refine AWp.region ?_
    refine aC_ rfl rfl (q_add) ?_
    refine aC_ rfl rfl (q_move) ?_
    refine AOps.nil ?_
    refine ⟨(i + 1, _), ?_, Back.mk' (HasT.cons HasT.nil) (HasH.cons HasH.nil), ?_⟩
    ·
     try dsimp only
     exact ⟨by omega, lower_skip (by omega) hb (if_neg (by have k1 : ¬ 65 ≤ ((b.getD i default).toNat : Int) := h5_1; rw [hx.1] at k1; omega))⟩
    ·
     try dsimp only
     first | omega | (simp; omega)
  ·
   refine AOps.nil ?_
   refine AWp.seq ?_
   refine AWp.cond_f rfl ?_
   refine AWp.exit ?_
   refine AWp.seq ?_
   refine AWp.region ?_
   obtain rfl : i = n.length := by simp at h3_0; omega
   have hb2 : b = n.map lowC := by rw [hb, List.take_length, List.drop_length, List.append_nil]
   subst hb2
   refine aC_ rfl rfl (q_move) ?_
   refine aC_ rfl rfl (q_conv_ls) ?_
   refine aC_ rfl rfl (q_assign) ?_
   refine AOps.nil ?_
   refine AWp.ret ?_
   show Fin te Try.f96 _ _
   refine q_ret (0) [_] [_] ?_
   rfl
set_option maxRecDepth 20000 in
set_option maxHeartbeats 2000000 in
theorem c_ciceroneref01_Lower (n : List UInt8) (h : n.length ≤ 140737488355328) : AC Try.prog 61 [str n] emp (Ret (str (lowN n))) := by
 refine AC.intro te_ok (fn := Try.f61) ⟨Try.func61, rfl, rfl⟩ (Nat.le_of_ble_eq_true rfl) ?_
 refine AWp.seq ?_
 refine AWp.region ?_
 refine aC_ rfl rfl (q_assign) ?_
 refine AOps.nil ?_
 refine AWp.seq ?_
 refine AWp.seq ?_
 refine AWp.region ?_
 refine aC_ rfl rfl (q_move) ?_
 refine AOps.bool rfl rfl (q_call (0) (hc := c_ciceroneref01_Can _ (by first | assumption | omega | decide | (simp; omega) | (simp [*]; done)))) (fun h1_1 => ?_) (fun h1_1 => ?_)
 ·
  refine aC_ rfl rfl (q_not) ?_
  refine AOps.nil ?_
  refine AWp.cond_f rfl ?_
  refine AWp.skip ?_
  refine AWp.seq ?_
  refine AWp.region ?_
  refine aC_ rfl rfl (q_nilrow 400 1 sc) ?_
  refine AOps.nil ?_
  refine AWp.seq ?_
  refine AWp.seq ?_
  refine AWp.region ?_
  obtain ⟨hg0, hn0, hl0⟩ := can_labs h1_1
  obtain ⟨hw1, hw2⟩ := low_len h1_1
  have hll := labN_len n
  refine aC_ rfl rfl (q_move) ?_
  refine aC_ rfl rfl (q_call (0) (hc := c_ciceroneref01_Labels _ (by first | assumption | omega | decide | (simp; omega) | (simp [*]; done)))) ?_
  refine aC_ rfl rfl (q_len) ?_
  refine aC_ rfl rfl (q_move) ?_
  refine AOps.nil ?_
  refine AWp.block ?_
  refine AWp.loopR (α := Nat × List (List UInt8) × Nat) [3, 5, 12, 13, 14, 15, 16, 17, 18, 19, 20, 21] (fun x_ => [(12, i64 (x_.1)), (3, .sl 400 (x_.2.2) 0 (x_.2.1).length 1)]) (fun x_ => [(400, .row (cl sc (x_.2.1)) 1 (x_.2.2))]) (fun x_ => (x_.1) ≤ (labN n).length ∧ (x_.2.1) = lowL ((labN n).take (x_.1))) (fun x_ => (labN n).length - (x_.1)) (0, [], 0) ?_ (Back.mk' (HasT.cons (HasT.cons HasT.nil)) (HasH.cons HasH.nil)) ?_
  ·
   exact ⟨Nat.zero_le _, rfl⟩
  ·
   rintro ⟨i, acc, v⟩ hI5
   change i ≤ (labN n).length ∧ acc = lowL ((labN n).take i) at hI5
   obtain ⟨hi, hacc⟩ := hI5
   refine AWp.as (s' := AS.over _ [3, 5, 12, 13, 14, 15, 16, 17, 18, 19, 20, 21] [(12, i64 i), (3, .sl 400 v 0 acc.length 1)] [(400, .row (cl sc acc) 1 v)]) rfl ?_
   have hal : acc.length = i := by rw [hacc]; simp [lowL]; omega
   refine AWp.seq ?_
   refine AWp.region ?_
   refine AOps.dec rfl rfl (q_lss) (fun h5_0 => ?_) (fun h5_0 => ?_)
   ·
    refine AOps.nil ?_
    refine AWp.seq ?_
    refine AWp.cond_t rfl ?_
    refine AWp.skip ?_
    refine AWp.seq ?_
    refine AWp.block ?_
    refine AWp.seq ?_
    refine AWp.region ?_
    have hm := hg0 _ (getD_mem' (l := labN n) (i := i) (by omega))
    have hm2 : ((labN n).getD (i : Int).toNat default).length ≤ 63 := hm.2
    refine aC_ rfl rfl (q_ix) ?_
    refine aC_ rfl rfl (q_load) ?_
    refine aC_ rfl rfl (q_assign) ?_
    refine AOps.nil ?_
    refine AWp.region ?_
    refine aC_ rfl rfl (q_move) ?_
    refine aC_ rfl rfl (q_move) ?_
    refine aC_ rfl rfl (q_call (0) (hc := c_ciceroneref01_small _ (by first | assumption | omega | decide | (simp; omega) | (simp [*]; done)))) ?_
    refine aC_ rfl rfl (q_bs 803 sc [_] [(_, _)]) ?_
    refine aC_ rfl rfl (q_app) ?_
    refine aC_ rfl rfl (q_assign) ?_
    refine AOps.nil ?_
    refine AWp.region ?_
    refine aC_ rfl rfl (q_add) ?_
    refine aC_ rfl rfl (q_move) ?_
    refine AOps.nil ?_
    refine ⟨(i + 1, _, _), ?_, Back.mk' (HasT.cons (HasT.cons HasT.nil)) (HasH.cons HasH.nil), ?_⟩
    ·
     try dsimp only
     exact ⟨by omega, by rw [hacc]; exact (take_map_step _ (by omega)).symm⟩
    ·
     try dsimp only
     first | omega | (simp; omega)
   ·
    refine AOps.nil ?_
    refine AWp.seq ?_
    refine AWp.cond_f rfl ?_
    refine AWp.exit ?_
    refine AWp.seq ?_
    refine AWp.region ?_
    obtain rfl : i = (labN n).length := by omega
    rw [List.take_length] at hacc
    subst hacc
    refine aC_ rfl rfl (q_move) ?_
    refine aC_ rfl rfl (q_call (0) (hc := (c_ciceroneref01_Join _ _ (by first | omega | (simp; omega))))) ?_
    refine aC_ rfl rfl (q_assign) ?_
    refine AOps.nil ?_
    refine AWp.ret ?_
    show Fin te Try.f61 _ _
    refine q_ret (0) [_] [_] ?_
    rw [hw1]; rfl
 ·
  refine aC_ rfl rfl (q_not) ?_
  refine AOps.nil ?_
  refine AWp.cond_t rfl ?_
  refine AWp.seq ?_
  refine AWp.region ?_
  refine aC_ rfl rfl (q_assign) ?_
  refine AOps.nil ?_
  refine AWp.ret ?_
  show Fin te Try.f61 _ _
  refine q_ret (0) [_] [_] ?_
  rw [lowN, if_neg (by simp [h1_1])]; rfl
set_option maxRecDepth 20000 in
set_option maxHeartbeats 2000000 in
theorem c_ciceroneref01_Same (a b : List UInt8) (ha : a.length ≤ 140737488355328) (hb : b.length ≤ 140737488355328) : AC Try.prog 23 [str a, str b] emp (Ret (tf (sameN a b))) := by
 refine AC.intro te_ok (fn := Try.f23) ⟨Try.func23, rfl, rfl⟩ (Nat.le_of_ble_eq_true rfl) ?_
 refine AWp.seq ?_
 refine AWp.region ?_
 refine aC_ rfl rfl (q_assign) ?_
 refine AOps.nil ?_
 refine AWp.seq ?_
 refine AWp.region ?_
 refine aC_ rfl rfl (q_move) ?_
 refine AOps.bool rfl rfl (q_call (0) (hc := c_ciceroneref01_Can _ (by first | assumption | omega | decide | (simp; omega) | (simp [*]; done)))) (fun h1_1 => ?_) (fun h1_1 => ?_)
 ·
  refine aC_ rfl rfl (q_move) ?_
  refine AOps.gcons rfl rfl rfl rfl rfl (q_move) ?_
  refine AOps.gbool rfl rfl rfl rfl rfl (q_call (0) (hc := c_ciceroneref01_Can _ (by first | assumption | omega | decide | (simp; omega) | (simp [*]; done)))) (fun h1_4 => ?_) (fun h1_4 => ?_)
  ·
   refine aC_ rfl rfl (q_pick) ?_
   refine aC_ rfl rfl (q_move) ?_
   refine AOps.gcons rfl rfl rfl rfl rfl (q_move) ?_
   refine AOps.gcons rfl rfl rfl rfl rfl (q_call (0) (hc := c_ciceroneref01_Lower _ (by first | assumption | omega | decide | (simp; omega) | (simp [*]; done)))) ?_
   refine AOps.gcons rfl rfl rfl rfl rfl (q_move) ?_
   refine AOps.gcons rfl rfl rfl rfl rfl (q_call (0) (hc := c_ciceroneref01_Lower _ (by first | assumption | omega | decide | (simp; omega) | (simp [*]; done)))) ?_
   refine AOps.gcons rfl rfl rfl rfl rfl (q_seql) ?_
   refine aC_ rfl rfl (q_pick) ?_
   refine aC_ rfl rfl (q_assign) ?_
   refine AOps.nil ?_
   refine AWp.ret ?_
   show Fin te Try.f23 _ _
   refine q_ret (0) [_] [_] ?_
   simp only [sameN, h1_1, h1_4]; rfl
  ·
   refine aC_ rfl rfl (q_pick) ?_
   refine aC_ rfl rfl (q_move) ?_
   refine aG_ rfl rfl rfl rfl rfl rfl rfl rfl ?_
   refine aG_ rfl rfl rfl rfl rfl rfl rfl rfl ?_
   refine aG_ rfl rfl rfl rfl rfl rfl rfl rfl ?_
   refine aG_ rfl rfl rfl rfl rfl rfl rfl rfl ?_
   refine aG_ rfl rfl rfl rfl rfl rfl rfl rfl ?_
   refine aC_ rfl rfl (q_pick) ?_
   refine aC_ rfl rfl (q_assign) ?_
   refine AOps.nil ?_
   refine AWp.ret ?_
   show Fin te Try.f23 _ _
   refine q_ret (0) [_] [_] ?_
   simp only [sameN, h1_1, h1_4]; rfl
 ·
  refine aC_ rfl rfl (q_move) ?_
  refine aG_ rfl rfl rfl rfl rfl rfl rfl rfl ?_
  refine aG_ rfl rfl rfl rfl rfl rfl rfl rfl ?_
  refine aC_ rfl rfl (q_pick) ?_
  refine aC_ rfl rfl (q_move) ?_
  refine aG_ rfl rfl rfl rfl rfl rfl rfl rfl ?_
  refine aG_ rfl rfl rfl rfl rfl rfl rfl rfl ?_
  refine aG_ rfl rfl rfl rfl rfl rfl rfl rfl ?_
  refine aG_ rfl rfl rfl rfl rfl rfl rfl rfl ?_
  refine aG_ rfl rfl rfl rfl rfl rfl rfl rfl ?_
  refine aC_ rfl rfl (q_pick) ?_
  refine aC_ rfl rfl (q_assign) ?_
  refine AOps.nil ?_
  refine AWp.ret ?_
  show Fin te Try.f23 _ _
  refine q_ret (0) [_] [_] ?_
  simp only [sameN, h1_1]; rfl
set_option maxRecDepth 20000 in
set_option maxHeartbeats 2000000 in
theorem c_ciceroneref01_Count (n : List UInt8) (h : n.length ≤ 140737488355328) : AC Try.prog 20 [str n] emp (Ret (i64 (cntN n))) := by
 refine AC.intro te_ok (fn := Try.f20) ⟨Try.func20, rfl, rfl⟩ (Nat.le_of_ble_eq_true rfl) ?_
 refine AWp.seq ?_
 refine AWp.region ?_
 refine aC_ rfl rfl (q_assign) ?_
 refine AOps.nil ?_
 refine AWp.seq ?_
 refine AWp.region ?_
 refine aC_ rfl rfl (q_move) ?_
 refine aC_ rfl rfl (q_call (0) (hc := c_ciceroneref01_Labels _ (by first | assumption | omega | decide | (simp; omega) | (simp [*]; done)))) ?_
 refine aC_ rfl rfl (q_len) ?_
 refine aC_ rfl rfl (q_assign) ?_
 refine AOps.nil ?_
 refine AWp.ret ?_
 show Fin te Try.f20 _ _
 refine q_ret (0) [_] [_] ?_
 rfl
set_option maxRecDepth 20000 in
set_option maxHeartbeats 2000000 in
theorem c_ciceroneref01_Tail (n : List UInt8) (h : n.length ≤ 140737488355328) (k : Int) (hk : -9223372036854775808 ≤ k ∧ k ≤ 9223372036854775807) : AC Try.prog 57 [str n, i64 k] emp (Ret (str (tailN n k))) := by
 refine AC.intro te_ok (fn := Try.f57) ⟨Try.func57, rfl, rfl⟩ (Nat.le_of_ble_eq_true rfl) ?_
 refine AWp.seq ?_
 refine AWp.region ?_
 refine aC_ rfl rfl (q_assign) ?_
 refine AOps.nil ?_
 refine AWp.seq ?_
 refine AWp.seq ?_
 refine AWp.region ?_
 refine aC_ rfl rfl (q_move) ?_
 refine AOps.bool rfl rfl (q_call (0) (hc := c_ciceroneref01_Can _ (by first | assumption | omega | decide | (simp; omega) | (simp [*]; done)))) (fun h1_1 => ?_) (fun h1_1 => ?_)
 ·
  refine aC_ rfl rfl (q_not) ?_
  refine AOps.nil ?_
  refine AWp.cond_f rfl ?_
  refine AWp.skip ?_
  refine AWp.seq ?_
  refine AWp.region ?_
  refine aC_ rfl rfl (q_move) ?_
  refine aC_ rfl rfl (q_call (0) (hc := c_ciceroneref01_Labels _ (by first | assumption | omega | decide | (simp; omega) | (simp [*]; done)))) ?_
  refine aC_ rfl rfl (q_assign) ?_
  refine AOps.nil ?_
  refine AWp.seq ?_
  refine AWp.region ?_
  obtain ⟨hg0, hn0, hl0⟩ := can_labs h1_1
  have hll := labN_len n
  have hjd := joinN_drop_le (labN n) (((labN n).length : Int) - min (max k 0) ((labN n).length : Int)).toNat
  rw [← hn0] at hjd
  refine aC_ rfl rfl (q_move) ?_
  refine aC_ rfl rfl (q_max) ?_
  refine aC_ rfl rfl (q_move) ?_
  refine aC_ rfl rfl (q_len) ?_
  refine aC_ rfl rfl (q_min) ?_
  refine aC_ rfl rfl (q_assign) ?_
  refine AOps.nil ?_
  refine AWp.seq ?_
  refine AWp.region ?_
  refine aC_ rfl rfl (q_move) ?_
  refine aC_ rfl rfl (q_move) ?_
  refine aC_ rfl rfl (q_len) ?_
  refine aC_ rfl rfl (q_move) ?_
  refine aC_ rfl rfl (q_sub) ?_
  refine aC_ rfl rfl (q_sl) ?_
  refine aC_ rfl rfl (q_call (0) (hc := (c_ciceroneref01_Join _ _ (by omega)))) ?_
  refine aC_ rfl rfl (q_assign) ?_
  refine AOps.nil ?_
  refine AWp.ret ?_
  show Fin te Try.f57 _ _
  refine q_ret (0) [_] [_] ?_
  rw [tailN, if_pos h1_1, show (labN n).length - min (max k 0).toNat (labN n).length = (((labN n).length : Int) - min (max k 0) ((labN n).length : Int)).toNat by omega]; rfl
 ·
  refine aC_ rfl rfl (q_not) ?_
  refine AOps.nil ?_
  refine AWp.cond_t rfl ?_
  refine AWp.seq ?_
  refine AWp.region ?_
  refine aC_ rfl rfl (q_assign) ?_
  refine AOps.nil ?_
  refine AWp.ret ?_
  show Fin te Try.f57 _ _
  refine q_ret (0) [_] [_] ?_
  rw [tailN, if_neg (by simp [h1_1])]; rfl
set_option maxRecDepth 20000 in
set_option maxHeartbeats 2000000 in
theorem c_ciceroneref01_Within (a b : List UInt8) (ha : a.length ≤ 140737488355328) (hb : b.length ≤ 140737488355328) : AC Try.prog 19 [str a, str b] emp (Ret (tf (withN a b))) := by
 have h1 := cntN_le a
 have h2 := cntN_le b
 have h3 := tailN_len a (cntN b)
 refine AC.intro te_ok (fn := Try.f19) ⟨Try.func19, rfl, rfl⟩ (Nat.le_of_ble_eq_true rfl) ?_
 refine AWp.seq ?_
 refine AWp.region ?_
 refine aC_ rfl rfl (q_assign) ?_
 refine AOps.nil ?_
 refine AWp.seq ?_
 refine AWp.region ?_
 refine aC_ rfl rfl (q_move) ?_
 refine AOps.bool rfl rfl (q_call (0) (hc := c_ciceroneref01_Can _ (by first | assumption | omega | decide | (simp; omega) | (simp [*]; done)))) (fun h1_1 => ?_) (fun h1_1 => ?_)
 ·
  refine aC_ rfl rfl (q_move) ?_
  refine AOps.gcons rfl rfl rfl rfl rfl (q_move) ?_
  refine AOps.gbool rfl rfl rfl rfl rfl (q_call (0) (hc := c_ciceroneref01_Can _ (by first | assumption | omega | decide | (simp; omega) | (simp [*]; done)))) (fun h1_4 => ?_) (fun h1_4 => ?_)
  ·
   refine aC_ rfl rfl (q_pick) ?_
   refine aC_ rfl rfl (q_move) ?_
   refine AOps.gcons rfl rfl rfl rfl rfl (q_move) ?_
   refine AOps.gcons rfl rfl rfl rfl rfl (q_call (0) (hc := c_ciceroneref01_Count _ (by first | assumption | omega | decide | (simp; omega) | (simp [*]; done)))) ?_
   refine AOps.gcons rfl rfl rfl rfl rfl (q_move) ?_
   refine AOps.gcons rfl rfl rfl rfl rfl (q_call (0) (hc := c_ciceroneref01_Count _ (by first | assumption | omega | decide | (simp; omega) | (simp [*]; done)))) ?_
   refine AOps.gdec rfl rfl rfl rfl rfl (q_geq) (fun h1_11 => ?_) (fun h1_11 => ?_)
   ·
    refine aC_ rfl rfl (q_pick) ?_
    refine aC_ rfl rfl (q_move) ?_
    refine AOps.gcons rfl rfl rfl rfl rfl (q_move) ?_
    refine AOps.gcons rfl rfl rfl rfl rfl (q_move) ?_
    refine AOps.gcons rfl rfl rfl rfl rfl (q_call (0) (hc := c_ciceroneref01_Count _ (by first | assumption | omega | decide | (simp; omega) | (simp [*]; done)))) ?_
    refine AOps.gcons rfl rfl rfl rfl rfl (q_call (0) (hc := c_ciceroneref01_Tail _ (by first | assumption | omega | decide | (simp; omega) | (simp [*]; done)) _ (by first | assumption | omega | decide | (simp; omega) | (simp [*]; done)))) ?_
    refine AOps.gcons rfl rfl rfl rfl rfl (q_move) ?_
    refine AOps.gcons rfl rfl rfl rfl rfl (q_call (0) (hc := c_ciceroneref01_Same _ _ (by first | assumption | omega | decide | (simp; omega) | (simp [*]; done)) (by first | assumption | omega | decide | (simp; omega) | (simp [*]; done)))) ?_
    refine aC_ rfl rfl (q_pick) ?_
    refine aC_ rfl rfl (q_assign) ?_
    refine AOps.nil ?_
    refine AWp.ret ?_
    show Fin te Try.f19 _ _
    refine q_ret (0) [_] [_] ?_
    simp only [withN, h1_1, h1_4, decide_eq_true (show cntN b ≤ cntN a by omega)]; rfl
   ·
    refine aC_ rfl rfl (q_pick) ?_
    refine aC_ rfl rfl (q_move) ?_
    refine aG_ rfl rfl rfl rfl rfl rfl rfl rfl ?_
    refine aG_ rfl rfl rfl rfl rfl rfl rfl rfl ?_
    refine aG_ rfl rfl rfl rfl rfl rfl rfl rfl ?_
    refine aG_ rfl rfl rfl rfl rfl rfl rfl rfl ?_
    refine aG_ rfl rfl rfl rfl rfl rfl rfl rfl ?_
    refine aG_ rfl rfl rfl rfl rfl rfl rfl rfl ?_
    refine aC_ rfl rfl (q_pick) ?_
    refine aC_ rfl rfl (q_assign) ?_
    refine AOps.nil ?_
    refine AWp.ret ?_
    show Fin te Try.f19 _ _
    refine q_ret (0) [_] [_] ?_
    simp only [withN, h1_1, h1_4, decide_eq_false (show ¬ cntN b ≤ cntN a by omega)]; rfl
  ·
   refine aC_ rfl rfl (q_pick) ?_
   refine aC_ rfl rfl (q_move) ?_
   refine aG_ rfl rfl rfl rfl rfl rfl rfl rfl ?_
   refine aG_ rfl rfl rfl rfl rfl rfl rfl rfl ?_
   refine aG_ rfl rfl rfl rfl rfl rfl rfl rfl ?_
   refine aG_ rfl rfl rfl rfl rfl rfl rfl rfl ?_
   refine aG_ rfl rfl rfl rfl rfl rfl rfl rfl ?_
   refine aC_ rfl rfl (q_pick) ?_
   refine aC_ rfl rfl (q_move) ?_
   refine aG_ rfl rfl rfl rfl rfl rfl rfl rfl ?_
   refine aG_ rfl rfl rfl rfl rfl rfl rfl rfl ?_
   refine aG_ rfl rfl rfl rfl rfl rfl rfl rfl ?_
   refine aG_ rfl rfl rfl rfl rfl rfl rfl rfl ?_
   refine aG_ rfl rfl rfl rfl rfl rfl rfl rfl ?_
   refine aG_ rfl rfl rfl rfl rfl rfl rfl rfl ?_
   refine aC_ rfl rfl (q_pick) ?_
   refine aC_ rfl rfl (q_assign) ?_
   refine AOps.nil ?_
   refine AWp.ret ?_
   show Fin te Try.f19 _ _
   refine q_ret (0) [_] [_] ?_
   simp only [withN, h1_1, h1_4]; rfl
 ·
  refine aC_ rfl rfl (q_move) ?_
  refine aG_ rfl rfl rfl rfl rfl rfl rfl rfl ?_
  refine aG_ rfl rfl rfl rfl rfl rfl rfl rfl ?_
  refine aC_ rfl rfl (q_pick) ?_
  refine aC_ rfl rfl (q_move) ?_
  refine aG_ rfl rfl rfl rfl rfl rfl rfl rfl ?_
  refine aG_ rfl rfl rfl rfl rfl rfl rfl rfl ?_
  refine aG_ rfl rfl rfl rfl rfl rfl rfl rfl ?_
  refine aG_ rfl rfl rfl rfl rfl rfl rfl rfl ?_
  refine aG_ rfl rfl rfl rfl rfl rfl rfl rfl ?_
  refine aC_ rfl rfl (q_pick) ?_
  refine aC_ rfl rfl (q_move) ?_
  refine aG_ rfl rfl rfl rfl rfl rfl rfl rfl ?_
  refine aG_ rfl rfl rfl rfl rfl rfl rfl rfl ?_
  refine aG_ rfl rfl rfl rfl rfl rfl rfl rfl ?_
  refine aG_ rfl rfl rfl rfl rfl rfl rfl rfl ?_
  refine aG_ rfl rfl rfl rfl rfl rfl rfl rfl ?_
  refine aG_ rfl rfl rfl rfl rfl rfl rfl rfl ?_
  refine aC_ rfl rfl (q_pick) ?_
  refine aC_ rfl rfl (q_assign) ?_
  refine AOps.nil ?_
  refine AWp.ret ?_
  show Fin te Try.f19 _ _
  refine q_ret (0) [_] [_] ?_
  simp only [withN, h1_1]; rfl
end Go.Proofs.Ytokccoloholgaaa.Fw


set_option linter.unusedVariables false
set_option linter.unusedSimpArgs false
namespace Go.Proofs.Ytokccoloholgaaa.Fw
open Go.RowKit
def txtW (b : List UInt8) : Bool := if h : 0 < b.length then (if 1 + (b.getD 0 default).toNat ≤ b.length then txtW (b.drop (1 + (b.getD 0 default).toNat)) else false) else true
termination_by b.length
decreasing_by simp; omega
def txtR (b : List UInt8) : Bool := decide (0 < b.length) && txtW b
def optK (b : List UInt8) : Nat := 4 + ((b.getD 2 default).toNat * 256 + (b.getD 3 default).toNat)
def optR (b : List UInt8) : Bool := if h : 0 < b.length then (if 4 ≤ b.length ∧ optK b ≤ b.length then optR (b.drop (optK b)) else false) else true
termination_by b.length
decreasing_by simp [optK]; omega
theorem txtW_end {b : List UInt8} (h : b.length = 0) : txtW b = true := by rw [txtW, dif_neg (by omega)]
theorem txtW_step {b : List UInt8} (h : 0 < b.length) (h2 : 1 + (b.getD 0 default).toNat ≤ b.length) : txtW b = txtW (b.drop (1 + (b.getD 0 default).toNat)) := by rw [txtW, dif_pos h, if_pos h2]
theorem txtW_no {b : List UInt8} (h : 0 < b.length) (h2 : b.length < 1 + (b.getD 0 default).toNat) : txtW b = false := by rw [txtW, dif_pos h, if_neg (by omega)]
theorem optR_end {b : List UInt8} (h : b.length = 0) : optR b = true := by rw [optR, dif_neg (by omega)]
theorem optR_step {b : List UInt8} (h : 0 < b.length) (h4 : 4 ≤ b.length) (h2 : optK b ≤ b.length) : optR b = optR (b.drop (optK b)) := by rw [optR, dif_pos h, if_pos ⟨h4, h2⟩]
theorem optR_no {b : List UInt8} (h : 0 < b.length) (h2 : b.length < 4 ∨ b.length < optK b) : optR b = false := by rw [optR, dif_pos h, if_neg (by omega)]
def canR (t : Int) (d : List UInt8) : Bool :=
  if t < 0 ∨ 65535 < t ∨ 65535 < d.length then false else if t = 1 then decide (d.length = 4) else if t = 28 then decide (d.length = 16) else if t = 2 ∨ t = 5 ∨ t = 12 then canN d
  else if t = 15 then decide (2 < d.length) && canN (d.drop 2) else if t = 16 then txtR d else if t = 41 then optR d else true
set_option maxRecDepth 20000 in
set_option maxHeartbeats 2000000 in
theorem c_rdata_whole (b : List UInt8) (lv : Nat) (h : b.length ≤ 140737488351232) : AC Try.prog 106 [.fz lv b.length (cl bc b)] emp (Ret (tf (canN b))) := by
 refine AC.intro te_ok (fn := Try.f106) ⟨Try.func106, rfl, rfl⟩ (Nat.le_of_ble_eq_true rfl) ?_
 refine AWp.seq ?_
 refine AWp.region ?_
 refine aC_ rfl rfl (q_assign) ?_
 refine AOps.nil ?_
 refine AWp.seq ?_
 refine AWp.region ?_
 refine aC_ rfl rfl (q_move) ?_
 refine aC_ rfl rfl (by first | exact q_conv_zs | exact q_conv_ls) ?_
 refine aC_ rfl rfl (q_call (0) (hc := c_name_Can _ (by first | assumption | omega | decide | (simp; omega) | (simp [*]; done)))) ?_
 refine aC_ rfl rfl (q_assign) ?_
 refine AOps.nil ?_
 refine AWp.ret ?_
 show Fin te Try.f106 _ _
 refine q_ret (0) [_] [_] ?_
 first | rfl | (simp; done)
set_option maxRecDepth 20000 in
set_option maxHeartbeats 2000000 in
theorem c_rdata_mail (b : List UInt8) (lv : Nat) (h : b.length ≤ 140737488351232) : AC Try.prog 107 [.fz lv b.length (cl bc b)] emp (Ret (tf (decide (2 < b.length) && canN (b.drop 2)))) := by
 refine AC.intro te_ok (fn := Try.f107) ⟨Try.func107, rfl, rfl⟩ (Nat.le_of_ble_eq_true rfl) ?_
 refine AWp.seq ?_
 refine AWp.region ?_
 refine aC_ rfl rfl (q_assign) ?_
 refine AOps.nil ?_
 refine AWp.seq ?_
 refine AWp.region ?_
 refine aC_ rfl rfl (q_move) ?_
 refine aC_ rfl rfl (q_len) ?_
 refine AOps.dec rfl rfl (q_gtr) (fun h1_2 => ?_) (fun h1_2 => ?_)
 ·
  refine aC_ rfl rfl (q_move) ?_
  refine AOps.gcons rfl rfl rfl rfl rfl (q_move) ?_
  refine AOps.gcons rfl rfl rfl rfl rfl (q_sl) ?_
  refine AOps.gcons rfl rfl rfl rfl rfl (q_call (lv) (hc := c_rdata_whole _ _ (by first | assumption | omega | decide | (simp; omega) | (simp [*]; done)))) ?_
  refine aC_ rfl rfl (q_pick) ?_
  refine aC_ rfl rfl (q_assign) ?_
  refine AOps.nil ?_
  refine AWp.ret ?_
  show Fin te Try.f107 _ _
  refine q_ret (0) [_] [_] ?_
  rw [decide_eq_true (show 2 < b.length by omega)]; rfl
 ·
  refine aC_ rfl rfl (q_move) ?_
  refine aG_ rfl rfl rfl rfl rfl rfl rfl rfl ?_
  refine aG_ rfl rfl rfl rfl rfl rfl rfl rfl ?_
  refine aG_ rfl rfl rfl rfl rfl rfl rfl rfl ?_
  refine aC_ rfl rfl (q_pick) ?_
  refine aC_ rfl rfl (q_assign) ?_
  refine AOps.nil ?_
  refine AWp.ret ?_
  show Fin te Try.f107 _ _
  refine q_ret (0) [_] [_] ?_
  rw [decide_eq_false (show ¬ 2 < b.length by omega)]; rfl
set_option maxRecDepth 20000 in
set_option maxHeartbeats 2000000 in
theorem c_rdata_texts (b : List UInt8) (lv : Nat) (h : b.length ≤ 140737488351232) : AC Try.prog 108 [.fz lv b.length (cl bc b)] emp (Ret (tf (txtR b))) := by
 refine AC.intro te_ok (fn := Try.f108) ⟨Try.func108, rfl, rfl⟩ (Nat.le_of_ble_eq_true rfl) ?_
 refine AWp.seq ?_
 refine AWp.region ?_
 refine aC_ rfl rfl (q_assign) ?_
 refine AOps.nil ?_
 refine AWp.seq ?_
 refine AWp.region ?_
 refine aC_ rfl rfl (q_move) ?_
 refine aC_ rfl rfl (q_len) ?_
 refine aC_ rfl rfl (q_gtr) ?_
 refine aC_ rfl rfl (q_assign) ?_
 refine AOps.nil ?_
 refine AWp.seq ?_
 refine AWp.block ?_
 refine AWp.loopR (α := List UInt8) [0, 2, 4, 8, 9, 10, 11, 12, 13, 14, 15, 16, 17, 18, 19, 20, 21, 22] (fun c => [(0, .fz lv c.length (cl bc c))]) (fun c => []) (fun c => txtW c = txtW b ∧ c.length ≤ b.length) (fun c => c.length) b ?_ (Back.mk' (HasT.cons HasT.nil) HasH.nil) ?_
 ·
  exact ⟨rfl, Nat.le_refl _⟩
 ·
  rintro c ⟨hc, hl⟩
  refine AWp.seq ?_
  refine AWp.seq ?_
  refine AWp.region ?_
  refine aC_ rfl rfl (q_move) ?_
  refine aC_ rfl rfl (q_len) ?_
  refine AOps.dec rfl rfl (q_gtr) (fun h2_2 => ?_) (fun h2_2 => ?_)
  ·
   refine AOps.nil ?_
   refine AWp.cond_t rfl ?_
   refine AWp.skip ?_
   refine AWp.block ?_
   refine AWp.seq ?_
   refine AWp.region ?_
   have hk := (c.getD 0 default).toNat_lt
   have he : (c.getD (Int.toNat 0) default).toNat = (c.getD 0 default).toNat := rfl
   have hs : (c[0]?.getD default).toNat = (c.getD 0 default).toNat := congrArg UInt8.toNat (List.getD_eq_getElem?_getD).symm
   refine aC_ rfl rfl (q_move) ?_
   refine aC_ rfl rfl (q_ix) ?_
   refine aC_ rfl rfl (q_load) ?_
   refine aC_ rfl rfl (q_conv_8i) ?_
   refine aC_ rfl rfl (q_add) ?_
   refine aC_ rfl rfl (q_assign) ?_
   refine AOps.nil ?_
   refine AWp.seq ?_
   refine AWp.seq ?_
   refine AWp.region ?_
   refine aC_ rfl rfl (q_move) ?_
   refine aC_ rfl rfl (q_move) ?_
   refine aC_ rfl rfl (q_len) ?_
   refine AOps.dec rfl rfl (q_gtr) (fun h4_3 => ?_) (fun h4_3 => ?_)
   ·
    refine AOps.nil ?_
    refine AWp.cond_t rfl ?_
    refine AWp.seq ?_
    refine AWp.region ?_
    refine aC_ rfl rfl (q_assign) ?_
    refine AOps.nil ?_
    refine AWp.ret ?_
    show Fin te Try.f108 _ _
    refine q_ret (0) [_] [_] ?_
    rw [txtR, ← hc, txtW_no (by omega) (by omega), Bool.and_false]; rfl
   ·
    refine AOps.nil ?_
    refine AWp.cond_f rfl ?_
    refine AWp.skip ?_
    refine AWp.region ?_
    refine aC_ rfl rfl (q_move) ?_
    refine aC_ rfl rfl (q_move) ?_
    refine aC_ rfl rfl (q_sl) ?_
    refine aC_ rfl rfl (q_assign) ?_
    refine AOps.nil ?_
    have e1 : ((1 : Int) + ((c.getD (Int.toNat 0) default).toNat : Int)).toNat = 1 + (c.getD 0 default).toNat := by omega
    refine ⟨_, ?_, Back.mk' (HasT.cons HasT.nil) HasH.nil, ?_⟩
    ·
     rw [e1]; exact ⟨(txtW_step (by omega) (by omega)).symm.trans hc, by rw [List.length_drop]; omega⟩
    ·
     rw [e1, List.length_drop]; omega
  ·
   refine AOps.nil ?_
   refine AWp.cond_f rfl ?_
   refine AWp.exit ?_
   refine AWp.seq ?_
   refine AWp.region ?_
   refine aC_ rfl rfl (q_move) ?_
   refine aC_ rfl rfl (q_assign) ?_
   refine AOps.nil ?_
   refine AWp.ret ?_
   show Fin te Try.f108 _ _
   refine q_ret (0) [_] [_] ?_
   rw [txtR, ← hc, txtW_end (by omega), Bool.and_true]; exact congrArg tf (decide_eq_decide.2 (by omega))
set_option maxRecDepth 20000 in
set_option maxHeartbeats 2000000 in
theorem c_rdata_options (b : List UInt8) (lv : Nat) (h : b.length ≤ 140737488351232) : AC Try.prog 109 [.fz lv b.length (cl bc b)] emp (Ret (tf (optR b))) := by
 refine AC.intro te_ok (fn := Try.f109) ⟨Try.func109, rfl, rfl⟩ (Nat.le_of_ble_eq_true rfl) ?_
 refine AWp.seq ?_
 refine AWp.region ?_
 refine aC_ rfl rfl (q_assign) ?_
 refine AOps.nil ?_
 refine AWp.seq ?_
 refine AWp.block ?_
 refine AWp.loopR (α := List UInt8) [0, 2, 3, 4, 5, 6, 7, 8, 9, 10, 11, 12, 13, 14, 15, 16, 17, 18, 19, 20, 21, 22, 23, 24, 25, 26, 27] (fun c => [(0, .fz lv c.length (cl bc c))]) (fun c => []) (fun c => optR c = optR b ∧ c.length ≤ b.length) (fun c => c.length) b ?_ (Back.mk' (HasT.cons HasT.nil) HasH.nil) ?_
 ·
  exact ⟨rfl, Nat.le_refl _⟩
 ·
  rintro c ⟨hc, hl⟩
  refine AWp.seq ?_
  refine AWp.seq ?_
  refine AWp.region ?_
  refine aC_ rfl rfl (q_move) ?_
  refine aC_ rfl rfl (q_len) ?_
  refine AOps.dec rfl rfl (q_gtr) (fun h1_2 => ?_) (fun h1_2 => ?_)
  ·
   refine AOps.nil ?_
   refine AWp.cond_t rfl ?_
   refine AWp.skip ?_
   refine AWp.block ?_
   refine AWp.seq ?_
   refine AWp.seq ?_
   refine AWp.region ?_
   refine aC_ rfl rfl (q_move) ?_
   refine aC_ rfl rfl (q_len) ?_
   refine AOps.dec rfl rfl (q_lss) (fun h2_2 => ?_) (fun h2_2 => ?_)
   ·
    refine AOps.nil ?_
    refine AWp.cond_t rfl ?_
    refine AWp.seq ?_
    refine AWp.region ?_
    refine aC_ rfl rfl (q_assign) ?_
    refine AOps.nil ?_
    refine AWp.ret ?_
    show Fin te Try.f109 _ _
    refine q_ret (0) [_] [_] ?_
    rw [← hc, optR_no (by omega) (by omega)]; rfl
   ·
    refine AOps.nil ?_
    refine AWp.cond_f rfl ?_
    refine AWp.skip ?_
    refine AWp.seq ?_
    have hk2 := (c.getD 2 default).toNat_lt
    have hk3 := (c.getD 3 default).toNat_lt
    have he2 : (c.getD (Int.toNat 2) default).toNat = (c.getD 2 default).toNat := rfl
    have he3 : (c.getD (Int.toNat 3) default).toNat = (c.getD 3 default).toNat := rfl
    have hs2 : (c[2]?.getD default).toNat = (c.getD 2 default).toNat := congrArg UInt8.toNat (List.getD_eq_getElem?_getD).symm
    have hs3 : (c[3]?.getD default).toNat = (c.getD 3 default).toNat := congrArg UInt8.toNat (List.getD_eq_getElem?_getD).symm
    refine AWp.draws [⟨0, [0], [], some 10, _, []⟩,
 ⟨1, [10], [], some 11, _, []⟩,
 ⟨2, [11], [], some 12, _, []⟩,
 ⟨3, [12], [], some 13, _, []⟩,
 ⟨4, [13], [], some 14, _, []⟩,
 ⟨5, [0], [], some 15, _, []⟩,
 ⟨6, [15], [], some 16, _, []⟩,
 ⟨7, [16], [], some 17, _, []⟩,
 ⟨8, [17], [], some 18, _, []⟩,
 ⟨9, [14, 18], [], some 19, _, []⟩,
 ⟨10, [19], [], some 20, _, []⟩,
 ⟨11, [20], [], some 3, _, []⟩]
     [kN_ 0 [0] [] 10,
 kN_ 1 [10] [] 11,
 kN_ 2 [11] [] 12,
 kN_ 3 [12] [] 13,
 kN_ 4 [13] [] 14,
 kN_ 5 [0] [] 15,
 kN_ 6 [15] [] 16,
 kN_ 7 [16] [] 17,
 kN_ 8 [17] [] 18,
 kN_ 9 [14, 18] [] 19,
 kN_ 10 [19] [] 20,
 kN_ 11 [20] [] 3]
     mixed_ok rfl (by kernel_rfl) ⟨dK_ fun s0 => oG_ rfl rfl (q_move),
 dK_ fun s0 => oG_ rfl rfl (q_ix),
 dK_ fun s0 => oG_ rfl rfl (q_load),
 dK_ fun s0 => oG_ rfl rfl (q_conv_8i),
 dK_ fun s0 => oG_ rfl rfl (q_shl 8),
 dK_ fun s0 => oG_ rfl rfl (q_move),
 dK_ fun s0 => oG_ rfl rfl (q_ix),
 dK_ fun s0 => oG_ rfl rfl (q_load),
 dK_ fun s0 => oG_ rfl rfl (q_conv_8i),
 dK_ fun s0 => oG_ rfl rfl (q_orb),
 dK_ fun s0 => oG_ rfl rfl (q_add),
 dK_ fun s0 => oG_ rfl rfl (q_assign), trivial⟩ ?_
    dsimp only [final, DS.upd, AS.seto]
    refine AWp.seq ?_
    refine AWp.seq ?_
    refine AWp.region ?_
    refine aC_ rfl rfl (q_move) ?_
    refine aC_ rfl rfl (q_move) ?_
    refine aC_ rfl rfl (q_len) ?_
    refine AOps.dec rfl rfl (q_gtr) (fun h5_3 => ?_) (fun h5_3 => ?_)
    ·
     refine AOps.nil ?_
     refine AWp.cond_t rfl ?_
     refine AWp.seq ?_
     refine AWp.region ?_
     refine aC_ rfl rfl (q_assign) ?_
     refine AOps.nil ?_
     refine AWp.ret ?_
     show Fin te Try.f109 _ _
     refine q_ret (0) [_] [_] ?_
     rw [← hc, optR_no (by omega) (Or.inr (by unfold optK; omega))]; rfl
    ·
     refine AOps.nil ?_
     refine AWp.cond_f rfl ?_
     refine AWp.skip ?_
     refine AWp.region ?_
     refine aC_ rfl rfl (q_move) ?_
     refine aC_ rfl rfl (q_move) ?_
     refine aC_ rfl rfl (q_sl) ?_
     refine aC_ rfl rfl (q_assign) ?_
     refine AOps.nil ?_
     have e1 : (4 + (((c.getD (Int.toNat 2) default).toNat : Int) * 256 + ((c.getD (Int.toNat 3) default).toNat : Int))).toNat = optK c := by unfold optK; omega
     refine ⟨_, ?_, Back.mk' (HasT.cons HasT.nil) HasH.nil, ?_⟩
     ·
      rw [e1]; exact ⟨(optR_step (by omega) (by omega) (by unfold optK; omega)).symm.trans hc, by rw [List.length_drop]; omega⟩
     ·
      rw [e1, List.length_drop]; unfold optK; omega
  ·
   refine AOps.nil ?_
   refine AWp.cond_f rfl ?_
   refine AWp.exit ?_
   refine AWp.seq ?_
   refine AWp.region ?_
   refine aC_ rfl rfl (q_assign) ?_
   refine AOps.nil ?_
   refine AWp.ret ?_
   show Fin te Try.f109 _ _
   refine q_ret (0) [_] [_] ?_
   rw [← hc, optR_end (by omega)]; rfl
set_option maxRecDepth 20000 in
set_option maxHeartbeats 2000000 in
theorem c_rdata_Can (t : Int) (b : List UInt8) (lv : Nat) (h : b.length ≤ 140737488351232) (ht : t ≠ 6) : AC Try.prog 79 [i64 t, .fz lv b.length (cl bc b)] emp (Ret (tf (canR t b))) := by
 refine AC.intro te_ok (fn := Try.f79) ⟨Try.func79, rfl, rfl⟩ (Nat.le_of_ble_eq_true rfl) ?_
 refine AWp.seq ?_
 refine AWp.region ?_
 refine aC_ rfl rfl (q_assign) ?_
 refine AOps.nil ?_
 refine AWp.seq ?_
 refine AWp.seq ?_
 refine AWp.region ?_
 refine aC_ rfl rfl (q_move) ?_
 refine AOps.dec rfl rfl (q_lss) (fun h1_1 => ?_) (fun h1_1 => ?_)
 ·
  refine aC_ rfl rfl (q_move) ?_
  refine aG_ rfl rfl rfl rfl rfl rfl rfl rfl ?_
  refine aG_ rfl rfl rfl rfl rfl rfl rfl rfl ?_
  refine aC_ rfl rfl (q_pick) ?_
  refine aC_ rfl rfl (q_move) ?_
  refine aG_ rfl rfl rfl rfl rfl rfl rfl rfl ?_
  refine aG_ rfl rfl rfl rfl rfl rfl rfl rfl ?_
  refine aG_ rfl rfl rfl rfl rfl rfl rfl rfl ?_
  refine aC_ rfl rfl (q_pick) ?_
  refine AOps.nil ?_
  refine AWp.cond_t rfl ?_
  refine AWp.seq ?_
  refine AWp.region ?_
  refine aC_ rfl rfl (q_assign) ?_
  refine AOps.nil ?_
  refine AWp.ret ?_
  show Fin te Try.f79 _ _
  refine q_ret (0) [_] [_] ?_
  rw [canR, if_pos (by omega)]; rfl
 ·
  refine aC_ rfl rfl (q_move) ?_
  refine AOps.gcons rfl rfl rfl rfl rfl (q_move) ?_
  refine AOps.gdec rfl rfl rfl rfl rfl (q_gtr) (fun h1_4 => ?_) (fun h1_4 => ?_)
  ·
   refine aC_ rfl rfl (q_pick) ?_
   refine aC_ rfl rfl (q_move) ?_
   refine aG_ rfl rfl rfl rfl rfl rfl rfl rfl ?_
   refine aG_ rfl rfl rfl rfl rfl rfl rfl rfl ?_
   refine aG_ rfl rfl rfl rfl rfl rfl rfl rfl ?_
   refine aC_ rfl rfl (q_pick) ?_
   refine AOps.nil ?_
   refine AWp.cond_t rfl ?_
   refine AWp.seq ?_
   refine AWp.region ?_
   refine aC_ rfl rfl (q_assign) ?_
   refine AOps.nil ?_
   refine AWp.ret ?_
   show Fin te Try.f79 _ _
   refine q_ret (0) [_] [_] ?_
   rw [canR, if_pos (by omega)]; rfl
  ·
   refine aC_ rfl rfl (q_pick) ?_
   refine aC_ rfl rfl (q_move) ?_
   refine AOps.gcons rfl rfl rfl rfl rfl (q_move) ?_
   refine AOps.gcons rfl rfl rfl rfl rfl (q_len) ?_
   refine AOps.gdec rfl rfl rfl rfl rfl (q_gtr) (fun h1_9 => ?_) (fun h1_9 => ?_)
   ·
    refine aC_ rfl rfl (q_pick) ?_
    refine AOps.nil ?_
    refine AWp.cond_t rfl ?_
    refine AWp.seq ?_
    refine AWp.region ?_
    refine aC_ rfl rfl (q_assign) ?_
    refine AOps.nil ?_
    refine AWp.ret ?_
    show Fin te Try.f79 _ _
    refine q_ret (0) [_] [_] ?_
    rw [canR, if_pos (by omega)]; rfl
   ·
    refine aC_ rfl rfl (q_pick) ?_
    refine AOps.nil ?_
    refine AWp.cond_f rfl ?_
    refine AWp.skip ?_
    refine AWp.seq ?_
    refine AWp.seq ?_
    refine AWp.region ?_
    refine aC_ rfl rfl (q_move) ?_
    refine AOps.nil ?_
    refine AWp.block ?_
    refine AWp.seq ?_
    refine AWp.region ?_
    refine AOps.dec rfl rfl (q_eql) (fun h4_0 => ?_) (fun h4_0 => ?_)
    ·
     refine aC_ rfl rfl (q_assign) ?_
     refine AOps.nil ?_
     refine AWp.cond_t rfl ?_
     refine AWp.seq ?_
     refine AWp.region ?_
     refine aC_ rfl rfl (q_move) ?_
     refine aC_ rfl rfl (q_len) ?_
     refine aC_ rfl rfl (q_eql) ?_
     refine aC_ rfl rfl (q_assign) ?_
     refine AOps.nil ?_
     refine AWp.ret ?_
     show Fin te Try.f79 _ _
     refine q_ret (0) [_] [_] ?_
     rw [canR, if_neg (by omega), if_pos h4_0]; exact congrArg tf (decide_eq_decide.2 (by omega))
    ·
     refine aC_ rfl rfl (q_assign) ?_
     refine AOps.nil ?_
     refine AWp.cond_f rfl ?_
     refine AWp.seq ?_
     refine AWp.region ?_
     refine AOps.dec rfl rfl (q_eql) (fun h6_0 => ?_) (fun h6_0 => ?_)
     ·
      refine aC_ rfl rfl (q_assign) ?_
      refine AOps.nil ?_
      refine AWp.cond_t rfl ?_
      refine AWp.seq ?_
      refine AWp.region ?_
      refine aC_ rfl rfl (q_move) ?_
      refine aC_ rfl rfl (q_len) ?_
      refine aC_ rfl rfl (q_eql) ?_
      refine aC_ rfl rfl (q_assign) ?_
      refine AOps.nil ?_
      refine AWp.ret ?_
      show Fin te Try.f79 _ _
      refine q_ret (0) [_] [_] ?_
      rw [canR, if_neg (by omega), if_neg h4_0, if_pos h6_0]; exact congrArg tf (decide_eq_decide.2 (by omega))
     ·
      refine aC_ rfl rfl (q_assign) ?_
      refine AOps.nil ?_
      refine AWp.cond_f rfl ?_
      refine AWp.seq ?_
      refine AWp.seq ?_
      refine AWp.region ?_
      refine AOps.dec rfl rfl (q_eql) (fun h8_0 => ?_) (fun h8_0 => ?_)
      ·
       refine aC_ rfl rfl (q_assign) ?_
       refine AOps.nil ?_
       refine AWp.cond_t rfl ?_
       refine AWp.skip ?_
       refine AWp.cond_t rfl ?_
       refine AWp.seq ?_
       refine AWp.region ?_
       refine aC_ rfl rfl (q_move) ?_
       refine aC_ rfl rfl (q_call (lv) (hc := c_rdata_whole _ _ (by first | assumption | omega | decide | (simp; omega) | (simp [*]; done)))) ?_
       refine aC_ rfl rfl (q_assign) ?_
       refine AOps.nil ?_
       refine AWp.ret ?_
       show Fin te Try.f79 _ _
       refine q_ret (0) [_] [_] ?_
       rw [canR, if_neg (by omega), if_neg h4_0, if_neg h6_0, if_pos (by omega)]; rfl
      ·
       refine aC_ rfl rfl (q_assign) ?_
       refine AOps.nil ?_
       refine AWp.cond_f rfl ?_
       refine AWp.seq ?_
       refine AWp.region ?_
       refine AOps.dec rfl rfl (q_eql) (fun h9_0 => ?_) (fun h9_0 => ?_)
       ·
        refine aC_ rfl rfl (q_assign) ?_
        refine AOps.nil ?_
        refine AWp.cond_t rfl ?_
        refine AWp.skip ?_
        refine AWp.cond_t rfl ?_
        refine AWp.seq ?_
        refine AWp.region ?_
        refine aC_ rfl rfl (q_move) ?_
        refine aC_ rfl rfl (q_call (lv) (hc := c_rdata_whole _ _ (by first | assumption | omega | decide | (simp; omega) | (simp [*]; done)))) ?_
        refine aC_ rfl rfl (q_assign) ?_
        refine AOps.nil ?_
        refine AWp.ret ?_
        show Fin te Try.f79 _ _
        refine q_ret (0) [_] [_] ?_
        rw [canR, if_neg (by omega), if_neg h4_0, if_neg h6_0, if_pos (by omega)]; rfl
       ·
        refine aC_ rfl rfl (q_assign) ?_
        refine AOps.nil ?_
        refine AWp.cond_f rfl ?_
        refine AWp.region ?_
        refine AOps.dec rfl rfl (q_eql) (fun h10_0 => ?_) (fun h10_0 => ?_)
        ·
         refine aC_ rfl rfl (q_assign) ?_
         refine AOps.nil ?_
         refine AWp.cond_t rfl ?_
         refine AWp.seq ?_
         refine AWp.region ?_
         refine aC_ rfl rfl (q_move) ?_
         refine aC_ rfl rfl (q_call (lv) (hc := c_rdata_whole _ _ (by first | assumption | omega | decide | (simp; omega) | (simp [*]; done)))) ?_
         refine aC_ rfl rfl (q_assign) ?_
         refine AOps.nil ?_
         refine AWp.ret ?_
         show Fin te Try.f79 _ _
         refine q_ret (0) [_] [_] ?_
         rw [canR, if_neg (by omega), if_neg h4_0, if_neg h6_0, if_pos (by omega)]; rfl
        ·
         refine aC_ rfl rfl (q_assign) ?_
         refine AOps.nil ?_
         refine AWp.cond_f rfl ?_
         refine AWp.seq ?_
         refine AWp.region ?_
         refine AOps.dec rfl rfl (q_eql) (fun h12_0 => ?_) (fun h12_0 => ?_)
         ·
          refine aC_ rfl rfl (q_assign) ?_
          refine AOps.nil ?_
          refine AWp.cond_t rfl ?_
          refine AWp.seq ?_
          refine AWp.region ?_
          refine aC_ rfl rfl (q_move) ?_
          refine aC_ rfl rfl (q_call (lv) (hc := c_rdata_mail _ _ (by first | assumption | omega | decide | (simp; omega) | (simp [*]; done)))) ?_
          refine aC_ rfl rfl (q_assign) ?_
          refine AOps.nil ?_
          refine AWp.ret ?_
          show Fin te Try.f79 _ _
          refine q_ret (0) [_] [_] ?_
          rw [canR, if_neg (by omega), if_neg h4_0, if_neg h6_0, if_neg (by omega), if_pos h12_0]; rfl
         ·
          refine aC_ rfl rfl (q_assign) ?_
          refine AOps.nil ?_
          refine AWp.cond_f rfl ?_
          refine AWp.seq ?_
          refine AWp.region ?_
          refine AOps.dec rfl rfl (q_eql) (fun h14_0 => ?_) (fun h14_0 => ?_)
          ·
           refine aC_ rfl rfl (q_assign) ?_
           refine AOps.nil ?_
           refine AWp.cond_t rfl ?_
           refine AWp.seq ?_
           refine AWp.region ?_
           refine aC_ rfl rfl (q_move) ?_
           refine aC_ rfl rfl (q_call (lv) (hc := c_rdata_texts _ _ (by first | assumption | omega | decide | (simp; omega) | (simp [*]; done)))) ?_
           refine aC_ rfl rfl (q_assign) ?_
           refine AOps.nil ?_
           refine AWp.ret ?_
           show Fin te Try.f79 _ _
           refine q_ret (0) [_] [_] ?_
           rw [canR, if_neg (by omega), if_neg h4_0, if_neg h6_0, if_neg (by omega), if_neg h12_0, if_pos h14_0]; rfl
          ·
           refine aC_ rfl rfl (q_assign) ?_
           refine AOps.nil ?_
           refine AWp.cond_f rfl ?_
           refine AWp.seq ?_
           refine AWp.region ?_
           refine AOps.dec rfl rfl (q_eql) (fun h16_0 => ?_) (fun h16_0 => ?_)
           ·
            refine aC_ rfl rfl (q_assign) ?_
            refine AOps.nil ?_
            refine AWp.cond_t rfl ?_
            refine AWp.seq ?_
            refine AWp.region ?_
            refine aC_ rfl rfl (q_move) ?_
            refine aC_ rfl rfl (q_call (lv) (hc := c_rdata_options _ _ (by first | assumption | omega | decide | (simp; omega) | (simp [*]; done)))) ?_
            refine aC_ rfl rfl (q_assign) ?_
            refine AOps.nil ?_
            refine AWp.ret ?_
            show Fin te Try.f79 _ _
            refine q_ret (0) [_] [_] ?_
            rw [canR, if_neg (by omega), if_neg h4_0, if_neg h6_0, if_neg (by omega), if_neg h12_0, if_neg h14_0, if_pos h16_0]; rfl
           ·
            refine aC_ rfl rfl (q_assign) ?_
            refine AOps.nil ?_
            refine AWp.cond_f rfl ?_
            refine AWp.seq ?_
            refine AWp.region ?_
            refine AOps.dec rfl rfl (q_eql) (fun h18_0 => ?_) (fun h18_0 => ?_)
            ·
             exfalso; omega
            ·
             refine aC_ rfl rfl (q_assign) ?_
             refine AOps.nil ?_
             refine AWp.cond_f rfl ?_
             refine AWp.skip ?_
             refine AWp.seq ?_
             refine AWp.region ?_
             refine aC_ rfl rfl (q_assign) ?_
             refine AOps.nil ?_
             refine AWp.ret ?_
             show Fin te Try.f79 _ _
             refine q_ret (0) [_] [_] ?_
             rw [canR, if_neg (by omega), if_neg h4_0, if_neg h6_0, if_neg (by omega), if_neg h12_0, if_neg h14_0, if_neg h16_0]; rfl
end Go.Proofs.Ytokccoloholgaaa.Fw


set_option linter.unusedVariables false
set_option linter.unusedSimpArgs false
namespace Go.Proofs.Ytokccoloholgaaa.Fw
open Go.RowKit
def zer (b : List UInt8) (i : Nat) : Nat := if h : i < b.length ∧ ¬ (b.getD i default).toNat = 0 then zer b (i + 1 + (b.getD i default).toNat) else i
termination_by b.length - i
decreasing_by omega
theorem zer_step {b : List UInt8} {i : Nat} (h : i < b.length) (h2 : ¬ (b.getD i default).toNat = 0) : zer b i = zer b (i + 1 + (b.getD i default).toNat) := by rw [zer, dif_pos ⟨h, h2⟩]
theorem zer_end {b : List UInt8} {i : Nat} (h : ¬ (i < b.length ∧ ¬ (b.getD i default).toNat = 0)) : zer b i = i := by rw [zer, dif_neg h]
def cutO (b : List UInt8) : Bool := decide (zer b 0 < b.length) && canN (b.take (zer b 0 + 1))
def cutM (b : List UInt8) : List UInt8 := if cutO b then b.take (zer b 0 + 1) else []
def cutR (b : List UInt8) : List UInt8 := if cutO b then b.drop (zer b 0 + 1) else []
theorem cut_no {b : List UInt8} (h : cutO b = false) : cutM b = [] ∧ cutR b = [] := by simp [cutM, cutR, h]
theorem cut_len (b : List UInt8) : (cutM b).length ≤ 255 ∧ (cutR b).length ≤ b.length := by
  cases h : cutO b with
  | false => simp [cut_no h]
  | true =>
    have h2 := h
    simp only [cutO, Bool.and_eq_true] at h2
    rw [cutM, cutR, if_pos h, if_pos h]
    exact ⟨canN_len h2.2, by simp⟩
theorem zer_join : ∀ {ls : List (List UInt8)} {b r : List UInt8} {i : Nat}, GoodN ls → b.drop i = joinN ls ++ r → zer b i + 1 = i + (joinN ls).length
  | [], b, r, i, _, h => by
    have hl := congrArg List.length h
    simp [joinN_nil] at hl
    have hi : i < b.length := by omega
    rw [List.drop_eq_getElem_cons hi, joinN_nil, List.singleton_append] at h
    have e : (b.getD i default).toNat = 0 := by
      rw [List.getD_eq_getElem?_getD, List.getElem?_eq_getElem hi, Option.getD_some, (List.cons.inj h).1]; rfl
    rw [zer_end (by omega)]
    rfl
  | l :: ls, b, r, i, g, h => by
    have hl := congrArg List.length h
    have hb := byte_len g.head.2
    have hh := g.head
    simp [joinN_cons] at hl
    have hi : i < b.length := by omega
    have h2 := h
    rw [List.drop_eq_getElem_cons hi, joinN_cons, List.cons_append, List.append_assoc] at h2
    obtain ⟨e1, e2⟩ := List.cons.inj h2
    have e : (b.getD i default).toNat = l.length := by
      rw [List.getD_eq_getElem?_getD, List.getElem?_eq_getElem hi, Option.getD_some, e1]; exact hb
    have e3 : b.drop (i + 1 + l.length) = joinN ls ++ r := by rw [← List.drop_drop, e2, List.drop_left]
    rw [zer_step hi (by omega), e, zer_join g.tail e3, joinN_cons]
    simp
    omega
theorem cut_at {b : List UInt8} {k : Nat} (hk : k ≤ b.length) (h : canN (b.take k) = true) : cutO b = true ∧ cutM b = b.take k ∧ cutR b = b.drop k := by
  obtain ⟨ls, g, e, hl⟩ := canN_iff.1 h
  have hz : zer b 0 + 1 = k := by
    have hd : b.drop 0 = joinN ls ++ b.drop k := by rw [← e, List.take_append_drop, List.drop_zero]
    have := zer_join g hd
    have hlen := congrArg List.length e
    rw [List.length_take] at hlen
    omega
  have ho : cutO b = true := by rw [cutO, hz, h, decide_eq_true (by omega)]; rfl
  rw [cutM, cutR, if_pos ho, if_pos ho, hz]
  exact ⟨ho, rfl, rfl⟩
theorem cut_none {b : List UInt8} (h : ∀ j, 1 ≤ j → j ≤ b.length → j ≤ 255 → canN (b.take j) = false) : cutO b = false := by
  cases ho : cutO b with
  | false => rfl
  | true =>
    have h2 := ho
    simp only [cutO, Bool.and_eq_true, decide_eq_true_eq] at h2
    have h3 := canN_len h2.2
    rw [List.length_take] at h3
    rw [h (zer b 0 + 1) (by omega) (by omega) (by omega)] at h2
    cases h2.2
def num (l : List UInt8) : Int := l.foldl (fun a x => a * 256 + (x.toNat : Int)) 0
theorem num_snoc (l : List UInt8) (x : UInt8) : num (l ++ [x]) = num l * 256 + x.toNat := by simp [num, List.foldl_append]
theorem num_step {l : List UInt8} {k : Nat} (h : k < l.length) : num (l.take (k + 1)) = num (l.take k) * 256 + (l.getD k default).toNat := by
  rw [List.take_succ_eq_append_getElem h, num_snoc, List.getD_eq_getElem?_getD, List.getElem?_eq_getElem h]
  rfl
theorem num_le : ∀ (k : Nat) (l : List UInt8), l.length = k → 0 ≤ num l ∧ num l < 256 ^ k
  | 0, l, h => by
    obtain rfl := List.eq_nil_of_length_eq_zero h
    simp [num]
  | k + 1, l, h => by
    have hs : l = l.take k ++ [l.getD k default] := by
      rw [List.getD_eq_getElem?_getD, List.getElem?_eq_getElem (by omega), Option.getD_some, ← List.take_succ_eq_append_getElem (by omega), List.take_of_length_le (by omega)]
    have := num_le k (l.take k) (by rw [List.length_take]; omega)
    have hx := (l.getD k default).toNat_lt
    rw [hs, num_snoc, Int.pow_succ]
    omega
theorem num_24 {l : List UInt8} {k : Nat} (h : k < 4) (hl : l.length = k) : 0 ≤ num l ∧ num l ≤ 16777215 := by
  have := num_le k l hl
  have e : k = 0 ∨ k = 1 ∨ k = 2 ∨ k = 3 := by omega
  rcases e with rfl | rfl | rfl | rfl <;> simp at this <;> omega
def dg (c : List UInt8) (j : Nat) : List UInt8 := (c.take (4 * (j : Int) + 4).toNat).drop (4 * (j : Int)).toNat
theorem dg_len {c : List UInt8} {j : Nat} (hc : c.length = 20) (hj : j < 5) : (dg c j).length = 4 := by rw [dg, List.length_drop, List.length_take]; omega
def wd (c : List UInt8) (j i : Nat) : Int := if j < i then num ((dg c j).take 4) else 0
structure Soa where
  m : List UInt8
  r : List UInt8
  n1 : Int
  n2 : Int
  n3 : Int
  n4 : Int
  n5 : Int
def soaA (x : Soa) : AV := .agg [str x.m, str x.r, i64 x.n1, i64 x.n2, i64 x.n3, i64 x.n4, i64 x.n5]
def soaO (b : List UInt8) : Bool := cutO b && (cutO (cutR b) && decide ((cutR (cutR b)).length = 20))
def soaV (b : List UInt8) : Soa := if soaO b then ⟨cutM b, cutM (cutR b), wd (cutR (cutR b)) 0 5, wd (cutR (cutR b)) 1 5, wd (cutR (cutR b)) 2 5, wd (cutR (cutR b)) 3 5, wd (cutR (cutR b)) 4 5⟩ else ⟨[], [], 0, 0, 0, 0, 0⟩
theorem soaV_no {b : List UInt8} (h : soaO b = false) : soaV b = ⟨[], [], 0, 0, 0, 0, 0⟩ := by rw [soaV, if_neg (by simp [h])]
theorem four_num {c : List UInt8} {j : Nat} (hc : c.length = 20) (hj : j < 5) : (((((c.getD (4 * j) default).toNat : Int) * 256 + ((c.getD (4 * j + 1) default).toNat : Int)) * 256 + ((c.getD (4 * j + 2) default).toNat : Int)) * 256 + ((c.getD (4 * j + 3) default).toNat : Int)) = wd c j 5 := by
  have hl := dg_len hc hj
  have hg : ∀ k, k < 4 → (dg c j).getD k default = c.getD (4 * j + k) default := by
    intro k hk
    rw [dg, List.getD_eq_getElem?_getD, List.getD_eq_getElem?_getD, List.getElem?_drop, List.getElem?_take, if_pos (by omega)]
    congr 2 <;> omega
  rw [wd, if_pos hj, num_step (by omega), num_step (by omega), num_step (by omega), num_step (by omega), hg 0 (by omega), hg 1 (by omega), hg 2 (by omega), hg 3 (by omega)]
  simp [num]
set_option maxRecDepth 20000 in
set_option maxHeartbeats 2000000 in
theorem c_rdata_cut (b : List UInt8) (lv : Nat) (h : b.length ≤ 140737488351232) : AC Try.prog 119 [.fz lv b.length (cl bc b)] emp (Ret (.tup [str (cutM b), .fz lv (cutR b).length (cl bc (cutR b)), tf (cutO b)])) := by
 refine AC.intro te_ok (fn := Try.f119) ⟨Try.func119, rfl, rfl⟩ (Nat.le_of_ble_eq_true rfl) ?_
 refine AWp.seq ?_
 refine AWp.region ?_
 refine aC_ rfl rfl (q_assign) ?_
 refine aC_ rfl rfl (q_nilz (lv) bc) ?_
 refine aC_ rfl rfl (q_assign) ?_
 refine AOps.nil ?_
 refine AWp.seq ?_
 refine AWp.region ?_
 refine aC_ rfl rfl (q_assign) ?_
 refine AOps.nil ?_
 refine AWp.seq ?_
 refine AWp.block ?_
 refine AWp.loopR (α := Nat) [5, 6, 7, 8, 9, 10, 11, 12, 13, 14, 15, 16, 17, 18, 19, 20, 21, 22, 23, 24] (fun i => [(5, i64 i)]) (fun i => []) (fun i => zer b i = zer b 0 ∧ i ≤ b.length + 255) (fun i => b.length - i) 0 ?_ (Back.mk' (HasT.cons HasT.nil) HasH.nil) ?_
 ·
  exact ⟨rfl, Nat.zero_le _⟩
 ·
  rintro i ⟨hz, hi⟩
  refine AWp.seq ?_
  refine AWp.seq ?_
  refine AWp.region ?_
  refine aC_ rfl rfl (q_move) ?_
  refine aC_ rfl rfl (q_move) ?_
  refine aC_ rfl rfl (q_len) ?_
  refine AOps.dec rfl rfl (q_lss) (fun h2_3 => ?_) (fun h2_3 => ?_)
  ·
   refine aC_ rfl rfl (q_move) ?_
   refine AOps.gcons rfl rfl rfl rfl rfl (q_move) ?_
   refine AOps.gcons rfl rfl rfl rfl rfl (q_move) ?_
   refine AOps.gcons rfl rfl rfl rfl rfl (q_ix) ?_
   refine AOps.gcons rfl rfl rfl rfl rfl (q_load) ?_
   refine AOps.gdec rfl rfl rfl rfl rfl (q_neq) (fun h2_9 => ?_) (fun h2_9 => ?_)
   ·
    refine aC_ rfl rfl (q_pick) ?_
    refine AOps.nil ?_
    refine AWp.cond_t rfl ?_
    refine AWp.skip ?_
    refine AWp.block ?_
    refine AWp.region ?_
    have hk := (b.getD i default).toNat_lt
    have he : (b.getD (i : Int).toNat default).toNat = (b.getD i default).toNat := rfl
    have k9 : ¬ (b.getD i default).toNat = 0 := fun e => h2_9 (by show ((b.getD i default).toNat : Int) = 0; omega)
    refine aC_ rfl rfl (q_move) ?_
    refine aC_ rfl rfl (q_move) ?_
    refine aC_ rfl rfl (q_move) ?_
    refine aC_ rfl rfl (q_ix) ?_
    refine aC_ rfl rfl (q_load) ?_
    refine aC_ rfl rfl (q_conv_8i) ?_
    refine aC_ rfl rfl (q_add) ?_
    refine aC_ rfl rfl (q_add) ?_
    refine aC_ rfl rfl (q_assign) ?_
    refine AOps.nil ?_
    refine ⟨i + 1 + (b.getD i default).toNat, ?_, Back.mk' (HasT.cons HasT.nil (h1 := by exact i64_eq (by show (i : Int) + (1 + ((b.getD i default).toNat : Int)) = ((i + 1 + (b.getD i default).toNat : Nat) : Int); omega)) ) HasH.nil, ?_⟩
    ·
     exact ⟨(zer_step (by omega) k9).symm.trans hz, by omega⟩
    ·
     omega
   ·
    refine aC_ rfl rfl (q_pick) ?_
    refine AOps.nil ?_
    refine AWp.cond_f rfl ?_
    refine AWp.exit ?_
    refine AWp.seq ?_
    refine AWp.seq ?_
    refine AWp.region ?_
    have k9 : ((b.getD i default).toNat : Int) = 0 := Classical.not_not.1 h2_9
    have hz0 : zer b 0 = i := by rw [← hz]; exact zer_end (by omega)
    refine aC_ rfl rfl (q_move) ?_
    refine aC_ rfl rfl (q_move) ?_
    refine aC_ rfl rfl (q_len) ?_
    refine AOps.dec rfl rfl (q_geq) (fun h4_3 => ?_) (fun h4_3 => ?_)
    ·
     exfalso; omega
    ·
     refine aC_ rfl rfl (q_move) ?_
     have ei : ((i : Int) + 1).toNat = i + 1 := by omega
     refine AOps.gcons rfl rfl rfl rfl rfl (q_move) ?_
     refine AOps.gcons rfl rfl rfl rfl rfl (q_move) ?_
     refine AOps.gcons rfl rfl rfl rfl rfl (q_add) ?_
     refine AOps.gcons rfl rfl rfl rfl rfl (q_sl) ?_
     refine AOps.gcons rfl rfl rfl rfl rfl (by first | exact q_conv_zs | exact q_conv_ls) ?_
     refine AOps.gbool rfl rfl rfl rfl rfl (q_call (lv) (hc := c_name_Can _ (by first | assumption | omega | decide | (simp; omega) | (simp [*]; done)))) (fun h4_10 => ?_) (fun h4_10 => ?_)
     ·
      refine AOps.gcons rfl rfl rfl rfl rfl (q_not) ?_
      refine aC_ rfl rfl (q_pick) ?_
      refine AOps.nil ?_
      refine AWp.cond_f rfl ?_
      refine AWp.skip ?_
      refine AWp.seq ?_
      refine AWp.draws [⟨0, [0], [], some 38, _, []⟩,
 ⟨1, [5], [], some 39, _, []⟩,
 ⟨2, [39], [], some 40, _, []⟩,
 ⟨3, [38, 40], [], some 41, _, []⟩,
 ⟨4, [41], [], some 42, _, []⟩,
 ⟨5, [0], [], some 43, _, []⟩,
 ⟨6, [5], [], some 44, _, []⟩,
 ⟨7, [44], [], some 45, _, []⟩,
 ⟨8, [43, 45], [], some 46, _, []⟩,
 ⟨9, [42], [], some 2, _, []⟩,
 ⟨10, [46], [], some 3, _, []⟩,
 ⟨11, [], [], some 4, _, []⟩]
       [kN_ 0 [0] [] 38,
 kN_ 1 [5] [] 39,
 kN_ 2 [39] [] 40,
 kN_ 3 [38, 40] [] 41,
 kN_ 4 [41] [] 42,
 kN_ 5 [0] [] 43,
 kN_ 6 [5] [] 44,
 kN_ 7 [44] [] 45,
 kN_ 8 [43, 45] [] 46,
 kN_ 9 [42] [] 2,
 kN_ 10 [46] [] 3,
 kN_ 11 [] [] 4]
       mixed_ok rfl (by kernel_rfl) ⟨dK_ fun s0 => oG_ rfl rfl (q_move),
 dK_ fun s0 => oG_ rfl rfl (q_move),
 dK_ fun s0 => oG_ rfl rfl (q_add),
 dK_ fun s0 => oG_ rfl rfl (q_sl),
 dK_ fun s0 => oG_ rfl rfl (by first | exact q_conv_zs | exact q_conv_ls),
 dK_ fun s0 => oG_ rfl rfl (q_move),
 dK_ fun s0 => oG_ rfl rfl (q_move),
 dK_ fun s0 => oG_ rfl rfl (q_add),
 dK_ fun s0 => oG_ rfl rfl (q_sl),
 dK_ fun s0 => oG_ rfl rfl (q_assign),
 dK_ fun s0 => oG_ rfl rfl (q_assign),
 dK_ fun s0 => oG_ rfl rfl (q_assign), trivial⟩ ?_
      dsimp only [final, DS.upd, AS.seto]
      refine AWp.ret ?_
      show Fin te Try.f119 _ _
      refine q_ret (lv) [_, _, _] [_, _, _] ?_
      rw [ei] at h4_10
      obtain ⟨q1, q2, q3⟩ := cut_at (b := b) (k := i + 1) (by omega) h4_10
      rw [q1, q2, q3, ei]; rfl
     ·
      refine AOps.gcons rfl rfl rfl rfl rfl (q_not) ?_
      refine aC_ rfl rfl (q_pick) ?_
      refine AOps.nil ?_
      refine AWp.cond_t rfl ?_
      refine AWp.seq ?_
      refine AWp.region ?_
      refine aC_ rfl rfl (q_assign) ?_
      refine aC_ rfl rfl (q_nilz (lv) bc) ?_
      refine aC_ rfl rfl (q_assign) ?_
      refine AOps.nil ?_
      refine AWp.ret ?_
      show Fin te Try.f119 _ _
      refine q_ret (lv) [_, _, _] [_, _, _] ?_
      have ho : cutO b = false := by rw [ei] at h4_10; rw [cutO, hz0, h4_10, Bool.and_false]
      rw [(cut_no ho).1, (cut_no ho).2, ho]; rfl
  ·
   refine aC_ rfl rfl (q_move) ?_
   refine aG_ rfl rfl rfl rfl rfl rfl rfl rfl ?_
   refine aG_ rfl rfl rfl rfl rfl rfl rfl rfl ?_
   refine aG_ rfl rfl rfl rfl rfl rfl rfl rfl ?_
   refine aG_ rfl rfl rfl rfl rfl rfl rfl rfl ?_
   refine aG_ rfl rfl rfl rfl rfl rfl rfl rfl ?_
   refine aC_ rfl rfl (q_pick) ?_
   refine AOps.nil ?_
   refine AWp.cond_f rfl ?_
   refine AWp.exit ?_
   refine AWp.seq ?_
   refine AWp.seq ?_
   refine AWp.region ?_
   have hz0 : zer b 0 = i := by rw [← hz]; exact zer_end (by omega)
   refine aC_ rfl rfl (q_move) ?_
   refine aC_ rfl rfl (q_move) ?_
   refine aC_ rfl rfl (q_len) ?_
   refine AOps.dec rfl rfl (q_geq) (fun h4_3 => ?_) (fun h4_3 => ?_)
   ·
    refine aC_ rfl rfl (q_move) ?_
    have ei : ((i : Int) + 1).toNat = i + 1 := by omega
    refine aG_ rfl rfl rfl rfl rfl rfl rfl rfl ?_
    refine aG_ rfl rfl rfl rfl rfl rfl rfl rfl ?_
    refine aG_ rfl rfl rfl rfl rfl rfl rfl rfl ?_
    refine aG_ rfl rfl rfl rfl rfl rfl rfl rfl ?_
    refine aG_ rfl rfl rfl rfl rfl rfl rfl rfl ?_
    refine aG_ rfl rfl rfl rfl rfl rfl rfl rfl ?_
    refine aG_ rfl rfl rfl rfl rfl rfl rfl rfl ?_
    refine aC_ rfl rfl (q_pick) ?_
    refine AOps.nil ?_
    refine AWp.cond_t rfl ?_
    refine AWp.seq ?_
    refine AWp.region ?_
    refine aC_ rfl rfl (q_assign) ?_
    refine aC_ rfl rfl (q_nilz (lv) bc) ?_
    refine aC_ rfl rfl (q_assign) ?_
    refine AOps.nil ?_
    refine AWp.ret ?_
    show Fin te Try.f119 _ _
    refine q_ret (lv) [_, _, _] [_, _, _] ?_
    have ho : cutO b = false := by rw [cutO, hz0, decide_eq_false (by omega)]; rfl
    rw [(cut_no ho).1, (cut_no ho).2, ho]; rfl
   ·
    exfalso; omega
set_option maxRecDepth 20000 in
set_option maxHeartbeats 2000000 in
theorem c_rdata_SOA (b : List UInt8) (lv : Nat) (h : b.length ≤ 140737488351232) : AC Try.prog 110 [.fz lv b.length (cl bc b)] emp (Ret (.tup [soaA (soaV b), tf (soaO b)])) := by
 have hc1 := cut_len b
 have hc2 := cut_len (cutR b)
 refine AC.intro te_ok (fn := Try.f110) ⟨Try.func110, rfl, rfl⟩ (Nat.le_of_ble_eq_true rfl) ?_
 refine AWp.seq ?_
 refine AWp.region ?_
 refine aC_ rfl rfl (q_alloc 100) ?_
 refine aC_ rfl rfl (q_assign) ?_
 refine AOps.nil ?_
 refine AWp.seq ?_
 refine AWp.region ?_
 refine aC_ rfl rfl (q_alloc 200) ?_
 refine AOps.nil ?_
 refine AWp.seq ?_
 refine AWp.region ?_
 refine aC_ rfl rfl (q_assign) ?_
 refine AOps.nil ?_
 refine AWp.seq ?_
 refine AWp.region ?_
 refine aC_ rfl rfl (q_move) ?_
 refine aC_ rfl rfl (q_assign) ?_
 refine AOps.nil ?_
 refine AWp.seq ?_
 refine AWp.seq ?_
 refine AWp.region ?_
 refine aC_ rfl rfl (q_move) ?_
 refine aC_ rfl rfl (q_call (lv) (hc := c_rdata_cut _ _ (by first | assumption | omega | decide | (simp; omega) | (simp [*]; done)))) ?_
 refine aC_ rfl rfl (q_move) ?_
 refine aC_ rfl rfl (q_extract) ?_
 refine aC_ rfl rfl (q_extract) ?_
 refine AOps.bool rfl rfl (q_extract) (fun h4_5 => ?_) (fun h4_5 => ?_)
 ·
  refine aC_ rfl rfl (q_fa) ?_
  refine aC_ rfl rfl (q_store) ?_
  refine aC_ rfl rfl (q_assign) ?_
  refine aC_ rfl rfl (q_assign) ?_
  refine AOps.nil ?_
  refine AWp.seq ?_
  refine AWp.region ?_
  refine aC_ rfl rfl (q_move) ?_
  refine aC_ rfl rfl (q_not) ?_
  refine AOps.nil ?_
  refine AWp.cond_f rfl ?_
  refine AWp.skip ?_
  refine AWp.seq ?_
  refine AWp.seq ?_
  refine AWp.region ?_
  refine aC_ rfl rfl (q_move) ?_
  refine aC_ rfl rfl (q_call (lv) (hc := c_rdata_cut _ _ (by first | assumption | omega | decide | (simp; omega) | (simp [*]; done)))) ?_
  refine aC_ rfl rfl (q_move) ?_
  refine aC_ rfl rfl (q_extract) ?_
  refine aC_ rfl rfl (q_extract) ?_
  refine AOps.bool rfl rfl (q_extract) (fun h7_5 => ?_) (fun h7_5 => ?_)
  ·
   refine aC_ rfl rfl (q_fa) ?_
   refine aC_ rfl rfl (q_store) ?_
   refine aC_ rfl rfl (q_assign) ?_
   refine aC_ rfl rfl (q_assign) ?_
   refine AOps.nil ?_
   refine AWp.seq ?_
   refine AWp.region ?_
   refine aC_ rfl rfl (q_move) ?_
   refine aC_ rfl rfl (q_not) ?_
   refine aC_ rfl rfl (q_move) ?_
   refine AOps.gcons rfl rfl rfl rfl rfl (q_move) ?_
   refine AOps.gcons rfl rfl rfl rfl rfl (q_len) ?_
   refine AOps.gdec rfl rfl rfl rfl rfl (q_neq) (fun h8_5 => ?_) (fun h8_5 => ?_)
   ·
    refine aC_ rfl rfl (q_pick) ?_
    refine AOps.nil ?_
    refine AWp.cond_t rfl ?_
    refine AWp.seq ?_
    refine AWp.region ?_
    refine aC_ rfl rfl (q_build []) ?_
    refine aC_ rfl rfl (q_store) ?_
    refine aC_ rfl rfl (q_assign) ?_
    refine AOps.nil ?_
    refine AWp.ret ?_
    show Fin te Try.f110 _ _
    refine q_ret (0) [_, _] [_, _] ?_
    have ho : soaO b = false := by rw [soaO, decide_eq_false (by omega), Bool.and_false, Bool.and_false]
    rw [soaV_no ho, ho]; rfl
   ·
    refine aC_ rfl rfl (q_pick) ?_
    refine AOps.nil ?_
    refine AWp.cond_f rfl ?_
    refine AWp.skip ?_
    refine AWp.seq ?_
    refine AWp.seq ?_
    refine AWp.region ?_
    have hc20 : (cutR (cutR b)).length = 20 := by omega
    have hL5 : ([2, 3, 4, 5, 6] : List Nat).length = 5 := rfl
    refine aC_ rfl rfl (q_fa) ?_
    refine aC_ rfl rfl (q_fa) ?_
    refine aC_ rfl rfl (q_fa) ?_
    refine aC_ rfl rfl (q_fa) ?_
    refine aC_ rfl rfl (q_fa) ?_
    refine aC_ rfl rfl (q_bs 1105 (fun k => [AV.ptr 200 0 k]) [2, 3, 4, 5, 6] [(_, _), (_, _), (_, _), (_, _), (_, _)]) ?_
    refine aC_ rfl rfl (q_len) ?_
    refine aC_ rfl rfl (q_move) ?_
    refine AOps.nil ?_
    refine AWp.block ?_
    refine AWp.loopR (α := Nat) [7, 8, 10, 44, 45, 46, 47, 48, 49, 50, 51, 52, 53, 54, 55, 56, 57, 58, 59, 60, 61, 62, 63, 64, 65, 66, 67, 68, 69, 70, 71] (fun i => [(44, i64 i)]) (fun i => [(200, .box [str (cutM b), str (cutM (cutR b)), i64 (wd (cutR (cutR b)) 0 i), i64 (wd (cutR (cutR b)) 1 i), i64 (wd (cutR (cutR b)) 2 i), i64 (wd (cutR (cutR b)) 3 i), i64 (wd (cutR (cutR b)) 4 i)])]) (fun i => i ≤ 5) (fun i => 5 - i) 0 ?_ (Back.mk' (HasT.cons HasT.nil) (HasH.cons HasH.nil)) ?_
    ·
     exact Nat.zero_le _
    ·
     rintro i hi
     refine AWp.seq ?_
     refine AWp.region ?_
     refine AOps.dec rfl rfl (q_lss) (fun h11_0 => ?_) (fun h11_0 => ?_)
     ·
      refine AOps.nil ?_
      refine AWp.seq ?_
      refine AWp.cond_t rfl ?_
      refine AWp.skip ?_
      refine AWp.seq ?_
      refine AWp.block ?_
      refine AWp.seq ?_
      refine AWp.region ?_
      obtain rfl | rfl | rfl | rfl | rfl : i = 0 ∨ i = 1 ∨ i = 2 ∨ i = 3 ∨ i = 4 := by omega
      ·
       refine aC_ rfl rfl (q_move) ?_
       refine aC_ rfl rfl (q_ix) ?_
       refine aC_ rfl rfl (q_load (z := .ptr 200 0 2) (hy := rfl)) ?_
       refine aC_ rfl rfl (q_assign) ?_
       refine aC_ rfl rfl (q_assign) ?_
       refine AOps.nil ?_
       refine AWp.seq ?_
       refine AWp.region ?_
       refine aC_ rfl rfl (q_move) ?_
       refine aC_ rfl rfl (q_move) ?_
       refine aC_ rfl rfl (q_mul) ?_
       refine aC_ rfl rfl (q_move) ?_
       refine aC_ rfl rfl (q_mul) ?_
       refine aC_ rfl rfl (q_add) ?_
       refine aC_ rfl rfl (q_sl) ?_
       refine aC_ rfl rfl (q_len) ?_
       refine aC_ rfl rfl (q_move) ?_
       refine AOps.nil ?_
       refine AWp.block ?_
       refine AWp.loopR (α := Nat) [10, 57, 58, 59, 60, 61, 62, 63, 64, 65, 66, 67, 68, 69, 70] (fun k => [(57, i64 k)]) (fun k => [(200, .box [str (cutM b), str (cutM (cutR b)), i64 (num ((dg (cutR (cutR b)) 0).take k)), i64 (wd (cutR (cutR b)) 1 0), i64 (wd (cutR (cutR b)) 2 0), i64 (wd (cutR (cutR b)) 3 0), i64 (wd (cutR (cutR b)) 4 0)])]) (fun k => k ≤ 4) (fun k => 4 - k) 0 ?_ (Back.mk' (HasT.cons HasT.nil) (HasH.cons HasH.nil)) ?_
       ·
        exact Nat.zero_le _
       ·
        rintro k hk
        have hD := dg_len (j := 0) hc20 (by omega)
        have hn : k < 4 → 0 ≤ num ((dg (cutR (cutR b)) 0).take k) ∧ num ((dg (cutR (cutR b)) 0).take k) ≤ 16777215 := fun h4 => num_24 h4 (by rw [List.length_take]; omega)
        have hDl : ((dg (cutR (cutR b)) 0).length : Int) = 4 := by omega
        have hDl2 : ((List.drop (4 * ((0 : Nat) : Int)).toNat (List.take (4 * ((0 : Nat) : Int) + 4).toNat (cutR (cutR b)))).length : Int) = 4 := hDl
        have hby : ((List.drop (4 * ((0 : Nat) : Int)).toNat (List.take (4 * ((0 : Nat) : Int) + 4).toNat (cutR (cutR b)))).getD (k : Int).toNat default).toNat < 256 := ((dg (cutR (cutR b)) 0).getD k default).toNat_lt
        refine AWp.seq ?_
        refine AWp.region ?_
        refine AOps.dec rfl rfl (q_lss) (fun h14_0 => ?_) (fun h14_0 => ?_)
        ·
         refine AOps.nil ?_
         refine AWp.seq ?_
         refine AWp.cond_t rfl ?_
         refine AWp.skip ?_
         refine AWp.seq ?_
         refine AWp.block ?_
         refine AWp.seq ?_
         refine AWp.region ?_
         refine aC_ rfl rfl (q_ix) ?_
         refine aC_ rfl rfl (q_load) ?_
         refine aC_ rfl rfl (q_assign) ?_
         refine AOps.nil ?_
         refine AWp.region ?_
         refine aC_ rfl rfl (q_move) ?_
         refine aC_ rfl rfl (q_move) ?_
         refine aC_ rfl rfl (q_nil) ?_
         refine aC_ rfl rfl (q_load) ?_
         refine aC_ rfl rfl (q_shl 8) ?_
         refine aC_ rfl rfl (q_move) ?_
         refine aC_ rfl rfl (q_conv_8i) ?_
         refine aC_ rfl rfl (q_orb) ?_
         refine aC_ rfl rfl (q_nil) ?_
         refine aC_ rfl rfl (q_store) ?_
         refine AOps.nil ?_
         refine AWp.region ?_
         refine aC_ rfl rfl (q_add) ?_
         refine aC_ rfl rfl (q_move) ?_
         refine AOps.nil ?_
         have hst := num_step (l := dg (cutR (cutR b)) 0) (k := k) (by omega)
         refine ⟨k + 1, ?_, Back.mk' (HasT.cons HasT.nil) (HasH.cons HasH.nil (h1 := by rw [hst]; rfl) ), ?_⟩
         ·
          omega
         ·
          omega
        ·
         refine AOps.nil ?_
         refine AWp.seq ?_
         refine AWp.cond_f rfl ?_
         refine AWp.exit ?_
         refine AWp.region ?_
         obtain rfl : k = 4 := by omega
         refine aC_ rfl rfl (q_add) ?_
         refine aC_ rfl rfl (q_move) ?_
         refine AOps.nil ?_
         refine ⟨1, ?_, Back.mk' (HasT.cons HasT.nil) (HasH.cons HasH.nil), ?_⟩
         ·
          omega
         ·
          omega
      ·
       refine aC_ rfl rfl (q_move) ?_
       refine aC_ rfl rfl (q_ix) ?_
       refine aC_ rfl rfl (q_load (z := .ptr 200 0 3) (hy := rfl)) ?_
       refine aC_ rfl rfl (q_assign) ?_
       refine aC_ rfl rfl (q_assign) ?_
       refine AOps.nil ?_
       refine AWp.seq ?_
       refine AWp.region ?_
       refine aC_ rfl rfl (q_move) ?_
       refine aC_ rfl rfl (q_move) ?_
       refine aC_ rfl rfl (q_mul) ?_
       refine aC_ rfl rfl (q_move) ?_
       refine aC_ rfl rfl (q_mul) ?_
       refine aC_ rfl rfl (q_add) ?_
       refine aC_ rfl rfl (q_sl) ?_
       refine aC_ rfl rfl (q_len) ?_
       refine aC_ rfl rfl (q_move) ?_
       refine AOps.nil ?_
       refine AWp.block ?_
       refine AWp.loopR (α := Nat) [10, 57, 58, 59, 60, 61, 62, 63, 64, 65, 66, 67, 68, 69, 70] (fun k => [(57, i64 k)]) (fun k => [(200, .box [str (cutM b), str (cutM (cutR b)), i64 (wd (cutR (cutR b)) 0 1), i64 (num ((dg (cutR (cutR b)) 1).take k)), i64 (wd (cutR (cutR b)) 2 1), i64 (wd (cutR (cutR b)) 3 1), i64 (wd (cutR (cutR b)) 4 1)])]) (fun k => k ≤ 4) (fun k => 4 - k) 0 ?_ (Back.mk' (HasT.cons HasT.nil) (HasH.cons HasH.nil)) ?_
       ·
        exact Nat.zero_le _
       ·
        rintro k hk
        have hD := dg_len (j := 1) hc20 (by omega)
        have hn : k < 4 → 0 ≤ num ((dg (cutR (cutR b)) 1).take k) ∧ num ((dg (cutR (cutR b)) 1).take k) ≤ 16777215 := fun h4 => num_24 h4 (by rw [List.length_take]; omega)
        have hDl : ((dg (cutR (cutR b)) 1).length : Int) = 4 := by omega
        have hDl2 : ((List.drop (4 * ((1 : Nat) : Int)).toNat (List.take (4 * ((1 : Nat) : Int) + 4).toNat (cutR (cutR b)))).length : Int) = 4 := hDl
        have hby : ((List.drop (4 * ((1 : Nat) : Int)).toNat (List.take (4 * ((1 : Nat) : Int) + 4).toNat (cutR (cutR b)))).getD (k : Int).toNat default).toNat < 256 := ((dg (cutR (cutR b)) 1).getD k default).toNat_lt
        refine AWp.seq ?_
        refine AWp.region ?_
        refine AOps.dec rfl rfl (q_lss) (fun h14_0 => ?_) (fun h14_0 => ?_)
        ·
         refine AOps.nil ?_
         refine AWp.seq ?_
         refine AWp.cond_t rfl ?_
         refine AWp.skip ?_
         refine AWp.seq ?_
         refine AWp.block ?_
         refine AWp.seq ?_
         refine AWp.region ?_
         refine aC_ rfl rfl (q_ix) ?_
         refine aC_ rfl rfl (q_load) ?_
         refine aC_ rfl rfl (q_assign) ?_
         refine AOps.nil ?_
         refine AWp.region ?_
         refine aC_ rfl rfl (q_move) ?_
         refine aC_ rfl rfl (q_move) ?_
         refine aC_ rfl rfl (q_nil) ?_
         refine aC_ rfl rfl (q_load) ?_
         refine aC_ rfl rfl (q_shl 8) ?_
         refine aC_ rfl rfl (q_move) ?_
         refine aC_ rfl rfl (q_conv_8i) ?_
         refine aC_ rfl rfl (q_orb) ?_
         refine aC_ rfl rfl (q_nil) ?_
         refine aC_ rfl rfl (q_store) ?_
         refine AOps.nil ?_
         refine AWp.region ?_
         refine aC_ rfl rfl (q_add) ?_
         refine aC_ rfl rfl (q_move) ?_
         refine AOps.nil ?_
         have hst := num_step (l := dg (cutR (cutR b)) 1) (k := k) (by omega)
         refine ⟨k + 1, ?_, Back.mk' (HasT.cons HasT.nil) (HasH.cons HasH.nil (h1 := by rw [hst]; rfl) ), ?_⟩
         ·
          omega
         ·
          omega
        ·
         refine AOps.nil ?_
         refine AWp.seq ?_
         refine AWp.cond_f rfl ?_
         refine AWp.exit ?_
         refine AWp.region ?_
         obtain rfl : k = 4 := by omega
         refine aC_ rfl rfl (q_add) ?_
         refine aC_ rfl rfl (q_move) ?_
         refine AOps.nil ?_
         refine ⟨2, ?_, Back.mk' (HasT.cons HasT.nil) (HasH.cons HasH.nil), ?_⟩
         ·
          omega
         ·
          omega
      ·
       refine aC_ rfl rfl (q_move) ?_
       refine aC_ rfl rfl (q_ix) ?_
       refine aC_ rfl rfl (q_load (z := .ptr 200 0 4) (hy := rfl)) ?_
       refine aC_ rfl rfl (q_assign) ?_
       refine aC_ rfl rfl (q_assign) ?_
       refine AOps.nil ?_
       refine AWp.seq ?_
       refine AWp.region ?_
       refine aC_ rfl rfl (q_move) ?_
       refine aC_ rfl rfl (q_move) ?_
       refine aC_ rfl rfl (q_mul) ?_
       refine aC_ rfl rfl (q_move) ?_
       refine aC_ rfl rfl (q_mul) ?_
       refine aC_ rfl rfl (q_add) ?_
       refine aC_ rfl rfl (q_sl) ?_
       refine aC_ rfl rfl (q_len) ?_
       refine aC_ rfl rfl (q_move) ?_
       refine AOps.nil ?_
       refine AWp.block ?_
       refine AWp.loopR (α := Nat) [10, 57, 58, 59, 60, 61, 62, 63, 64, 65, 66, 67, 68, 69, 70] (fun k => [(57, i64 k)]) (fun k => [(200, .box [str (cutM b), str (cutM (cutR b)), i64 (wd (cutR (cutR b)) 0 2), i64 (wd (cutR (cutR b)) 1 2), i64 (num ((dg (cutR (cutR b)) 2).take k)), i64 (wd (cutR (cutR b)) 3 2), i64 (wd (cutR (cutR b)) 4 2)])]) (fun k => k ≤ 4) (fun k => 4 - k) 0 ?_ (Back.mk' (HasT.cons HasT.nil) (HasH.cons HasH.nil)) ?_
       ·
        exact Nat.zero_le _
       ·
        rintro k hk
        have hD := dg_len (j := 2) hc20 (by omega)
        have hn : k < 4 → 0 ≤ num ((dg (cutR (cutR b)) 2).take k) ∧ num ((dg (cutR (cutR b)) 2).take k) ≤ 16777215 := fun h4 => num_24 h4 (by rw [List.length_take]; omega)
        have hDl : ((dg (cutR (cutR b)) 2).length : Int) = 4 := by omega
        have hDl2 : ((List.drop (4 * ((2 : Nat) : Int)).toNat (List.take (4 * ((2 : Nat) : Int) + 4).toNat (cutR (cutR b)))).length : Int) = 4 := hDl
        have hby : ((List.drop (4 * ((2 : Nat) : Int)).toNat (List.take (4 * ((2 : Nat) : Int) + 4).toNat (cutR (cutR b)))).getD (k : Int).toNat default).toNat < 256 := ((dg (cutR (cutR b)) 2).getD k default).toNat_lt
        refine AWp.seq ?_
        refine AWp.region ?_
        refine AOps.dec rfl rfl (q_lss) (fun h14_0 => ?_) (fun h14_0 => ?_)
        ·
         refine AOps.nil ?_
         refine AWp.seq ?_
         refine AWp.cond_t rfl ?_
         refine AWp.skip ?_
         refine AWp.seq ?_
         refine AWp.block ?_
         refine AWp.seq ?_
         refine AWp.region ?_
         refine aC_ rfl rfl (q_ix) ?_
         refine aC_ rfl rfl (q_load) ?_
         refine aC_ rfl rfl (q_assign) ?_
         refine AOps.nil ?_
         refine AWp.region ?_
         refine aC_ rfl rfl (q_move) ?_
         refine aC_ rfl rfl (q_move) ?_
         refine aC_ rfl rfl (q_nil) ?_
         refine aC_ rfl rfl (q_load) ?_
         refine aC_ rfl rfl (q_shl 8) ?_
         refine aC_ rfl rfl (q_move) ?_
         refine aC_ rfl rfl (q_conv_8i) ?_
         refine aC_ rfl rfl (q_orb) ?_
         refine aC_ rfl rfl (q_nil) ?_
         refine aC_ rfl rfl (q_store) ?_
         refine AOps.nil ?_
         refine AWp.region ?_
         refine aC_ rfl rfl (q_add) ?_
         refine aC_ rfl rfl (q_move) ?_
         refine AOps.nil ?_
         have hst := num_step (l := dg (cutR (cutR b)) 2) (k := k) (by omega)
         refine ⟨k + 1, ?_, Back.mk' (HasT.cons HasT.nil) (HasH.cons HasH.nil (h1 := by rw [hst]; rfl) ), ?_⟩
         ·
          omega
         ·
          omega
        ·
         refine AOps.nil ?_
         refine AWp.seq ?_
         refine AWp.cond_f rfl ?_
         refine AWp.exit ?_
         refine AWp.region ?_
         obtain rfl : k = 4 := by omega
         refine aC_ rfl rfl (q_add) ?_
         refine aC_ rfl rfl (q_move) ?_
         refine AOps.nil ?_
         refine ⟨3, ?_, Back.mk' (HasT.cons HasT.nil) (HasH.cons HasH.nil), ?_⟩
         ·
          omega
         ·
          omega
      ·
       refine aC_ rfl rfl (q_move) ?_
       refine aC_ rfl rfl (q_ix) ?_
       refine aC_ rfl rfl (q_load (z := .ptr 200 0 5) (hy := rfl)) ?_
       refine aC_ rfl rfl (q_assign) ?_
       refine aC_ rfl rfl (q_assign) ?_
       refine AOps.nil ?_
       refine AWp.seq ?_
       refine AWp.region ?_
       refine aC_ rfl rfl (q_move) ?_
       refine aC_ rfl rfl (q_move) ?_
       refine aC_ rfl rfl (q_mul) ?_
       refine aC_ rfl rfl (q_move) ?_
       refine aC_ rfl rfl (q_mul) ?_
       refine aC_ rfl rfl (q_add) ?_
       refine aC_ rfl rfl (q_sl) ?_
       refine aC_ rfl rfl (q_len) ?_
       refine aC_ rfl rfl (q_move) ?_
       refine AOps.nil ?_
       refine AWp.block ?_
       refine AWp.loopR (α := Nat) [10, 57, 58, 59, 60, 61, 62, 63, 64, 65, 66, 67, 68, 69, 70] (fun k => [(57, i64 k)]) (fun k => [(200, .box [str (cutM b), str (cutM (cutR b)), i64 (wd (cutR (cutR b)) 0 3), i64 (wd (cutR (cutR b)) 1 3), i64 (wd (cutR (cutR b)) 2 3), i64 (num ((dg (cutR (cutR b)) 3).take k)), i64 (wd (cutR (cutR b)) 4 3)])]) (fun k => k ≤ 4) (fun k => 4 - k) 0 ?_ (Back.mk' (HasT.cons HasT.nil) (HasH.cons HasH.nil)) ?_
       ·
        exact Nat.zero_le _
       ·
        rintro k hk
        have hD := dg_len (j := 3) hc20 (by omega)
        have hn : k < 4 → 0 ≤ num ((dg (cutR (cutR b)) 3).take k) ∧ num ((dg (cutR (cutR b)) 3).take k) ≤ 16777215 := fun h4 => num_24 h4 (by rw [List.length_take]; omega)
        have hDl : ((dg (cutR (cutR b)) 3).length : Int) = 4 := by omega
        have hDl2 : ((List.drop (4 * ((3 : Nat) : Int)).toNat (List.take (4 * ((3 : Nat) : Int) + 4).toNat (cutR (cutR b)))).length : Int) = 4 := hDl
        have hby : ((List.drop (4 * ((3 : Nat) : Int)).toNat (List.take (4 * ((3 : Nat) : Int) + 4).toNat (cutR (cutR b)))).getD (k : Int).toNat default).toNat < 256 := ((dg (cutR (cutR b)) 3).getD k default).toNat_lt
        refine AWp.seq ?_
        refine AWp.region ?_
        refine AOps.dec rfl rfl (q_lss) (fun h14_0 => ?_) (fun h14_0 => ?_)
        ·
         refine AOps.nil ?_
         refine AWp.seq ?_
         refine AWp.cond_t rfl ?_
         refine AWp.skip ?_
         refine AWp.seq ?_
         refine AWp.block ?_
         refine AWp.seq ?_
         refine AWp.region ?_
         refine aC_ rfl rfl (q_ix) ?_
         refine aC_ rfl rfl (q_load) ?_
         refine aC_ rfl rfl (q_assign) ?_
         refine AOps.nil ?_
         refine AWp.region ?_
         refine aC_ rfl rfl (q_move) ?_
         refine aC_ rfl rfl (q_move) ?_
         refine aC_ rfl rfl (q_nil) ?_
         refine aC_ rfl rfl (q_load) ?_
         refine aC_ rfl rfl (q_shl 8) ?_
         refine aC_ rfl rfl (q_move) ?_
         refine aC_ rfl rfl (q_conv_8i) ?_
         refine aC_ rfl rfl (q_orb) ?_
         refine aC_ rfl rfl (q_nil) ?_
         refine aC_ rfl rfl (q_store) ?_
         refine AOps.nil ?_
         refine AWp.region ?_
         refine aC_ rfl rfl (q_add) ?_
         refine aC_ rfl rfl (q_move) ?_
         refine AOps.nil ?_
         have hst := num_step (l := dg (cutR (cutR b)) 3) (k := k) (by omega)
         refine ⟨k + 1, ?_, Back.mk' (HasT.cons HasT.nil) (HasH.cons HasH.nil (h1 := by rw [hst]; rfl) ), ?_⟩
         ·
          omega
         ·
          omega
        ·
         refine AOps.nil ?_
         refine AWp.seq ?_
         refine AWp.cond_f rfl ?_
         refine AWp.exit ?_
         refine AWp.region ?_
         obtain rfl : k = 4 := by omega
         refine aC_ rfl rfl (q_add) ?_
         refine aC_ rfl rfl (q_move) ?_
         refine AOps.nil ?_
         refine ⟨4, ?_, Back.mk' (HasT.cons HasT.nil) (HasH.cons HasH.nil), ?_⟩
         ·
          omega
         ·
          omega
      ·
       refine aC_ rfl rfl (q_move) ?_
       refine aC_ rfl rfl (q_ix) ?_
       refine aC_ rfl rfl (q_load (z := .ptr 200 0 6) (hy := rfl)) ?_
       refine aC_ rfl rfl (q_assign) ?_
       refine aC_ rfl rfl (q_assign) ?_
       refine AOps.nil ?_
       refine AWp.seq ?_
       refine AWp.region ?_
       refine aC_ rfl rfl (q_move) ?_
       refine aC_ rfl rfl (q_move) ?_
       refine aC_ rfl rfl (q_mul) ?_
       refine aC_ rfl rfl (q_move) ?_
       refine aC_ rfl rfl (q_mul) ?_
       refine aC_ rfl rfl (q_add) ?_
       refine aC_ rfl rfl (q_sl) ?_
       refine aC_ rfl rfl (q_len) ?_
       refine aC_ rfl rfl (q_move) ?_
       refine AOps.nil ?_
       refine AWp.block ?_
       refine AWp.loopR (α := Nat) [10, 57, 58, 59, 60, 61, 62, 63, 64, 65, 66, 67, 68, 69, 70] (fun k => [(57, i64 k)]) (fun k => [(200, .box [str (cutM b), str (cutM (cutR b)), i64 (wd (cutR (cutR b)) 0 4), i64 (wd (cutR (cutR b)) 1 4), i64 (wd (cutR (cutR b)) 2 4), i64 (wd (cutR (cutR b)) 3 4), i64 (num ((dg (cutR (cutR b)) 4).take k))])]) (fun k => k ≤ 4) (fun k => 4 - k) 0 ?_ (Back.mk' (HasT.cons HasT.nil) (HasH.cons HasH.nil)) ?_
       ·
        exact Nat.zero_le _
       ·
        rintro k hk
        have hD := dg_len (j := 4) hc20 (by omega)
        have hn : k < 4 → 0 ≤ num ((dg (cutR (cutR b)) 4).take k) ∧ num ((dg (cutR (cutR b)) 4).take k) ≤ 16777215 := fun h4 => num_24 h4 (by rw [List.length_take]; omega)
        have hDl : ((dg (cutR (cutR b)) 4).length : Int) = 4 := by omega
        have hDl2 : ((List.drop (4 * ((4 : Nat) : Int)).toNat (List.take (4 * ((4 : Nat) : Int) + 4).toNat (cutR (cutR b)))).length : Int) = 4 := hDl
        have hby : ((List.drop (4 * ((4 : Nat) : Int)).toNat (List.take (4 * ((4 : Nat) : Int) + 4).toNat (cutR (cutR b)))).getD (k : Int).toNat default).toNat < 256 := ((dg (cutR (cutR b)) 4).getD k default).toNat_lt
        refine AWp.seq ?_
        refine AWp.region ?_
        refine AOps.dec rfl rfl (q_lss) (fun h14_0 => ?_) (fun h14_0 => ?_)
        ·
         refine AOps.nil ?_
         refine AWp.seq ?_
         refine AWp.cond_t rfl ?_
         refine AWp.skip ?_
         refine AWp.seq ?_
         refine AWp.block ?_
         refine AWp.seq ?_
         refine AWp.region ?_
         refine aC_ rfl rfl (q_ix) ?_
         refine aC_ rfl rfl (q_load) ?_
         refine aC_ rfl rfl (q_assign) ?_
         refine AOps.nil ?_
         refine AWp.region ?_
         refine aC_ rfl rfl (q_move) ?_
         refine aC_ rfl rfl (q_move) ?_
         refine aC_ rfl rfl (q_nil) ?_
         refine aC_ rfl rfl (q_load) ?_
         refine aC_ rfl rfl (q_shl 8) ?_
         refine aC_ rfl rfl (q_move) ?_
         refine aC_ rfl rfl (q_conv_8i) ?_
         refine aC_ rfl rfl (q_orb) ?_
         refine aC_ rfl rfl (q_nil) ?_
         refine aC_ rfl rfl (q_store) ?_
         refine AOps.nil ?_
         refine AWp.region ?_
         refine aC_ rfl rfl (q_add) ?_
         refine aC_ rfl rfl (q_move) ?_
         refine AOps.nil ?_
         have hst := num_step (l := dg (cutR (cutR b)) 4) (k := k) (by omega)
         refine ⟨k + 1, ?_, Back.mk' (HasT.cons HasT.nil) (HasH.cons HasH.nil (h1 := by rw [hst]; rfl) ), ?_⟩
         ·
          omega
         ·
          omega
        ·
         refine AOps.nil ?_
         refine AWp.seq ?_
         refine AWp.cond_f rfl ?_
         refine AWp.exit ?_
         refine AWp.region ?_
         obtain rfl : k = 4 := by omega
         refine aC_ rfl rfl (q_add) ?_
         refine aC_ rfl rfl (q_move) ?_
         refine AOps.nil ?_
         refine ⟨5, ?_, Back.mk' (HasT.cons HasT.nil) (HasH.cons HasH.nil), ?_⟩
         ·
          omega
         ·
          omega
     ·
      refine AOps.nil ?_
      refine AWp.seq ?_
      refine AWp.cond_f rfl ?_
      refine AWp.exit ?_
      refine AWp.seq ?_
      refine AWp.region ?_
      obtain rfl : i = 5 := by omega
      have ho : soaO b = true := by rw [soaO, h4_5, h7_5, decide_eq_true (by omega)]; rfl
      have hv : soaV b = ⟨cutM b, cutM (cutR b), wd (cutR (cutR b)) 0 5, wd (cutR (cutR b)) 1 5, wd (cutR (cutR b)) 2 5, wd (cutR (cutR b)) 3 5, wd (cutR (cutR b)) 4 5⟩ := by rw [soaV, if_pos ho]
      refine aC_ rfl rfl (q_load) ?_
      refine aC_ rfl rfl (q_store) ?_
      refine aC_ rfl rfl (q_assign) ?_
      refine AOps.nil ?_
      refine AWp.ret ?_
      show Fin te Try.f110 _ _
      refine q_ret (0) [_, _] [_, _] ?_
      rw [hv, ho]; rfl
  ·
   refine aC_ rfl rfl (q_fa) ?_
   refine aC_ rfl rfl (q_store) ?_
   refine aC_ rfl rfl (q_assign) ?_
   refine aC_ rfl rfl (q_assign) ?_
   refine AOps.nil ?_
   refine AWp.seq ?_
   refine AWp.region ?_
   refine aC_ rfl rfl (q_move) ?_
   refine aC_ rfl rfl (q_not) ?_
   refine aC_ rfl rfl (q_move) ?_
   refine aG_ rfl rfl rfl rfl rfl rfl rfl rfl ?_
   refine aG_ rfl rfl rfl rfl rfl rfl rfl rfl ?_
   refine aG_ rfl rfl rfl rfl rfl rfl rfl rfl ?_
   refine aC_ rfl rfl (q_pick) ?_
   refine AOps.nil ?_
   refine AWp.cond_t rfl ?_
   refine AWp.seq ?_
   refine AWp.region ?_
   refine aC_ rfl rfl (q_build []) ?_
   refine aC_ rfl rfl (q_store) ?_
   refine aC_ rfl rfl (q_assign) ?_
   refine AOps.nil ?_
   refine AWp.ret ?_
   show Fin te Try.f110 _ _
   refine q_ret (0) [_, _] [_, _] ?_
   have ho : soaO b = false := by rw [soaO, h7_5, Bool.false_and, Bool.and_false]
   rw [soaV_no ho, ho]; rfl
 ·
  refine aC_ rfl rfl (q_fa) ?_
  refine aC_ rfl rfl (q_store) ?_
  refine aC_ rfl rfl (q_assign) ?_
  refine aC_ rfl rfl (q_assign) ?_
  refine AOps.nil ?_
  refine AWp.seq ?_
  refine AWp.region ?_
  refine aC_ rfl rfl (q_move) ?_
  refine aC_ rfl rfl (q_not) ?_
  refine AOps.nil ?_
  refine AWp.cond_t rfl ?_
  refine AWp.seq ?_
  refine AWp.region ?_
  refine aC_ rfl rfl (q_build []) ?_
  refine aC_ rfl rfl (q_store) ?_
  refine aC_ rfl rfl (q_assign) ?_
  refine AOps.nil ?_
  refine AWp.ret ?_
  show Fin te Try.f110 _ _
  refine q_ret (0) [_, _] [_, _] ?_
  have ho : soaO b = false := by rw [soaO, h4_5]; rfl
  rw [soaV_no ho, ho]; rfl
end Go.Proofs.Ytokccoloholgaaa.Fw


set_option linter.unusedVariables false
set_option linter.unusedSimpArgs false
namespace Go.Proofs.Ytokccoloholgaaa.Fw
open Go.RowKit
def fourR (b : List UInt8) : Int := (((((b.getD 0 default).toNat : Int) * 256 + ((b.getD 1 default).toNat : Int)) * 256 + ((b.getD 2 default).toNat : Int)) * 256 + ((b.getD 3 default).toNat : Int))
theorem fourR_drop {c : List UInt8} {j : Nat} (hc : c.length = 20) (hj : j < 5) : fourR (c.drop (4 * j)) = wd c j 5 := by
  rw [← four_num hc hj, fourR]
  have e : ∀ k, (c.drop (4 * j)).getD k default = c.getD (4 * j + k) default := fun k => by rw [List.getD_eq_getElem?_getD, List.getD_eq_getElem?_getD, List.getElem?_drop]
  rw [e 0, e 1, e 2, e 3]
  rfl
def canS (t : Int) (d : List UInt8) : Bool := if t = 6 then decide (d.length ≤ 65535) && soaO d else canR t d
theorem canS_ne {t : Int} {d : List UInt8} (h : t ≠ 6) : canS t d = canR t d := if_neg h
theorem canS_6 {d : List UInt8} (h : d.length ≤ 65535) : canS 6 d = soaO d := by rw [canS, if_pos rfl, decide_eq_true h, Bool.true_and]
theorem canS_6n {d : List UInt8} (h : ¬ d.length ≤ 65535) : canS 6 d = false := by rw [canS, if_pos rfl, decide_eq_false h, Bool.false_and]
set_option maxRecDepth 20000 in
set_option maxHeartbeats 2000000 in
theorem c_bytes_Equal (l m : List UInt8) (lv lw : Nat) : AC Try.prog 89 [.fz lv l.length (cl bc l), .fz lw m.length (cl bc m)] emp (Ret (tf (decide (l = m)))) := by
 refine AC.intro te_ok (fn := Try.f89) ⟨Try.func89, rfl, rfl⟩ (Nat.le_of_ble_eq_true rfl) ?_
 refine AWp.seq ?_
 refine AWp.region ?_
 refine aC_ rfl rfl (q_assign) ?_
 refine AOps.nil ?_
 refine AWp.seq ?_
 refine AWp.region ?_
 refine aC_ rfl rfl (q_move) ?_
 refine aC_ rfl rfl (by first | exact q_conv_zs | exact q_conv_ls) ?_
 refine aC_ rfl rfl (q_move) ?_
 refine aC_ rfl rfl (by first | exact q_conv_zs | exact q_conv_ls) ?_
 refine aC_ rfl rfl (q_seql) ?_
 refine aC_ rfl rfl (q_assign) ?_
 refine AOps.nil ?_
 refine AWp.ret ?_
 show Fin te Try.f89 _ _
 refine q_ret (0) [_] [_] ?_
 first | rfl | (simp; done)
set_option maxRecDepth 20000 in
set_option maxHeartbeats 2000000 in
theorem c_bytes_Clone (l : List UInt8) (lv : Nat) (h : l.length ≤ 140737488351232) : AC Try.prog 97 [.fz lv l.length (cl bc l)] emp (Ret (.fz 0 l.length (cl bc l))) := by
 refine AC.intro te_ok (fn := Try.f97) ⟨Try.func97, rfl, rfl⟩ (Nat.le_of_ble_eq_true rfl) ?_
 refine AWp.seq ?_
 refine AWp.region ?_
 refine aC_ rfl rfl (q_nilz (0) bc) ?_
 refine AOps.nil ?_
 refine AWp.seq ?_
 refine AWp.seq ?_
 refine AWp.region ?_
 refine aC_ rfl rfl (q_move) ?_
 refine AOps.snil (fun h1_1 => ?_) ?_
 ·
  refine AOps.nil ?_
  refine AWp.cond_t rfl ?_
  refine AWp.seq ?_
  refine AWp.region ?_
  refine aC_ rfl rfl (q_nilz (0) bc) ?_
  refine AOps.nil ?_
  refine AWp.ret ?_
  show Fin te Try.f97 _ _
  refine q_ret (0) [_] [_] ?_
  obtain rfl := List.eq_nil_of_length_eq_zero h1_1
  rfl
 ·
  refine AOps.nil ?_
  refine AWp.cond_f rfl ?_
  refine AWp.skip ?_
  refine AWp.seq ?_
  refine AWp.region ?_
  refine aC_ rfl rfl (q_bs 400 bc [] []) ?_
  refine aC_ rfl rfl (q_move) ?_
  refine aC_ rfl rfl (q_app) ?_
  refine aC_ rfl rfl (q_assign) ?_
  refine AOps.nil ?_
  refine AWp.ret ?_
  show Fin te Try.f97 _ _
  refine q_ret (0) [_] [_] ?_
  rfl
set_option maxRecDepth 20000 in
set_option maxHeartbeats 2000000 in
theorem c_ciceroneref03_First (b : List UInt8) (lv : Nat) (h : b.length ≤ 140737488351232) : AC Try.prog 120 [.fz lv b.length (cl bc b)] emp (Ret (.tup [str (cutM b), .fz lv (cutR b).length (cl bc (cutR b)), tf (cutO b)])) := by
 refine AC.intro te_ok (fn := Try.f120) ⟨Try.func120, rfl, rfl⟩ (Nat.le_of_ble_eq_true rfl) ?_
 refine AWp.seq ?_
 refine AWp.region ?_
 refine aC_ rfl rfl (q_assign) ?_
 refine aC_ rfl rfl (q_nilz (lv) bc) ?_
 refine aC_ rfl rfl (q_assign) ?_
 refine AOps.nil ?_
 refine AWp.seq ?_
 refine AWp.seq ?_
 refine AWp.region ?_
 refine aC_ rfl rfl (q_assign) ?_
 refine AOps.nil ?_
 refine AWp.block ?_
 refine AWp.loopR (α := Nat) [2, 3, 4, 5, 6, 7, 8, 9, 10, 11, 12, 13, 14, 15, 16, 17, 18, 19, 20, 21, 22, 23, 24, 25, 26, 27] (fun k => [(5, i64 k)]) (fun k => []) (fun k => 1 ≤ k ∧ k ≤ 256 ∧ ∀ j, 1 ≤ j → j < k → canN (b.take j) = false) (fun k => 256 - k) 1 ?_ (Back.mk' (HasT.cons HasT.nil) HasH.nil) ?_
 ·
  exact ⟨by omega, by omega, fun j h1 h2 => by omega⟩
 ·
  rintro k ⟨hk1, hk2, hk⟩
  refine AWp.seq ?_
  refine AWp.seq ?_
  refine AWp.region ?_
  refine aC_ rfl rfl (q_move) ?_
  refine aC_ rfl rfl (q_move) ?_
  refine aC_ rfl rfl (q_len) ?_
  refine AOps.dec rfl rfl (q_leq) (fun h2_3 => ?_) (fun h2_3 => ?_)
  ·
   refine aC_ rfl rfl (q_move) ?_
   refine AOps.gcons rfl rfl rfl rfl rfl (q_move) ?_
   refine AOps.gdec rfl rfl rfl rfl rfl (q_leq) (fun h2_6 => ?_) (fun h2_6 => ?_)
   ·
    refine aC_ rfl rfl (q_pick) ?_
    refine AOps.nil ?_
    refine AWp.cond_t rfl ?_
    refine AWp.skip ?_
    refine AWp.seq ?_
    refine AWp.block ?_
    refine AWp.seq ?_
    refine AWp.region ?_
    refine aC_ rfl rfl (q_move) ?_
    refine aC_ rfl rfl (q_move) ?_
    refine aC_ rfl rfl (q_sl) ?_
    refine aC_ rfl rfl (by first | exact q_conv_zs | exact q_conv_ls) ?_
    refine AOps.bool rfl rfl (q_call (lv) (hc := c_ciceroneref01_Can _ (by first | assumption | omega | decide | (simp; omega) | (simp [*]; done)))) (fun h4_4 => ?_) (fun h4_4 => ?_)
    ·
     refine AOps.nil ?_
     refine AWp.cond_t rfl ?_
     refine AWp.seq ?_
     refine AWp.draws [⟨0, [0], [], some 21, _, []⟩,
 ⟨1, [5], [], some 22, _, []⟩,
 ⟨2, [21, 22], [], some 23, _, []⟩,
 ⟨3, [23], [], some 24, _, []⟩,
 ⟨4, [0], [], some 25, _, []⟩,
 ⟨5, [5], [], some 26, _, []⟩,
 ⟨6, [25, 26], [], some 27, _, []⟩,
 ⟨7, [24], [], some 2, _, []⟩,
 ⟨8, [27], [], some 3, _, []⟩,
 ⟨9, [], [], some 4, _, []⟩]
      [kN_ 0 [0] [] 21,
 kN_ 1 [5] [] 22,
 kN_ 2 [21, 22] [] 23,
 kN_ 3 [23] [] 24,
 kN_ 4 [0] [] 25,
 kN_ 5 [5] [] 26,
 kN_ 6 [25, 26] [] 27,
 kN_ 7 [24] [] 2,
 kN_ 8 [27] [] 3,
 kN_ 9 [] [] 4]
      mixed_ok rfl (by kernel_rfl) ⟨dK_ fun s0 => oG_ rfl rfl (q_move),
 dK_ fun s0 => oG_ rfl rfl (q_move),
 dK_ fun s0 => oG_ rfl rfl (q_sl),
 dK_ fun s0 => oG_ rfl rfl (by first | exact q_conv_zs | exact q_conv_ls),
 dK_ fun s0 => oG_ rfl rfl (q_move),
 dK_ fun s0 => oG_ rfl rfl (q_move),
 dK_ fun s0 => oG_ rfl rfl (q_sl),
 dK_ fun s0 => oG_ rfl rfl (q_assign),
 dK_ fun s0 => oG_ rfl rfl (q_assign),
 dK_ fun s0 => oG_ rfl rfl (q_assign), trivial⟩ ?_
     dsimp only [final, DS.upd, AS.seto]
     refine AWp.ret ?_
     show Fin te Try.f120 _ _
     refine q_ret (lv) [_, _, _] [_, _, _] ?_
     obtain ⟨q1, q2, q3⟩ := cut_at (b := b) (k := k) (by omega) h4_4
     rw [q1, q2, q3]; rfl
    ·
     refine AOps.nil ?_
     refine AWp.cond_f rfl ?_
     refine AWp.skip ?_
     refine AWp.region ?_
     refine aC_ rfl rfl (q_move) ?_
     refine aC_ rfl rfl (q_add) ?_
     refine aC_ rfl rfl (q_assign) ?_
     refine AOps.nil ?_
     refine ⟨k + 1, ?_, Back.mk' (HasT.cons HasT.nil) HasH.nil, ?_⟩
     ·
      refine ⟨by omega, by omega, fun j h1 h2 => ?_⟩
      by_cases e : j = k
      · subst e; exact h4_4
      · exact hk j h1 (by omega)
     ·
      omega
   ·
    refine aC_ rfl rfl (q_pick) ?_
    refine AOps.nil ?_
    refine AWp.cond_f rfl ?_
    refine AWp.exit ?_
    refine AWp.seq ?_
    refine AWp.region ?_
    refine aC_ rfl rfl (q_assign) ?_
    refine aC_ rfl rfl (q_nilz (lv) bc) ?_
    refine aC_ rfl rfl (q_assign) ?_
    refine AOps.nil ?_
    refine AWp.ret ?_
    show Fin te Try.f120 _ _
    refine q_ret (lv) [_, _, _] [_, _, _] ?_
    have ho := cut_none (b := b) (fun j h1 h2 h3 => hk j h1 (by omega))
    rw [(cut_no ho).1, (cut_no ho).2, ho]; rfl
  ·
   refine aC_ rfl rfl (q_move) ?_
   refine aG_ rfl rfl rfl rfl rfl rfl rfl rfl ?_
   refine aG_ rfl rfl rfl rfl rfl rfl rfl rfl ?_
   refine aC_ rfl rfl (q_pick) ?_
   refine AOps.nil ?_
   refine AWp.cond_f rfl ?_
   refine AWp.exit ?_
   refine AWp.seq ?_
   refine AWp.region ?_
   refine aC_ rfl rfl (q_assign) ?_
   refine aC_ rfl rfl (q_nilz (lv) bc) ?_
   refine aC_ rfl rfl (q_assign) ?_
   refine AOps.nil ?_
   refine AWp.ret ?_
   show Fin te Try.f120 _ _
   refine q_ret (lv) [_, _, _] [_, _, _] ?_
   have ho := cut_none (b := b) (fun j h1 h2 h3 => hk j h1 (by omega))
   rw [(cut_no ho).1, (cut_no ho).2, ho]; rfl
set_option maxRecDepth 20000 in
set_option maxHeartbeats 2000000 in
theorem c_ciceroneref03_four (b : List UInt8) (lv : Nat) (h : b.length ≤ 140737488351232) (h4 : 4 ≤ b.length) : AC Try.prog 121 [.fz lv b.length (cl bc b)] emp (Ret (i64 (fourR b))) := by
 have f0 := (b.getD (Int.toNat 0) default).toNat_lt
 have g0 := (b[0]?.getD default).toNat_lt
 have f1 := (b.getD (Int.toNat 1) default).toNat_lt
 have g1 := (b[1]?.getD default).toNat_lt
 have f2 := (b.getD (Int.toNat 2) default).toNat_lt
 have g2 := (b[2]?.getD default).toNat_lt
 have f3 := (b.getD (Int.toNat 3) default).toNat_lt
 have g3 := (b[3]?.getD default).toNat_lt
 refine AC.intro te_ok (fn := Try.f121) ⟨Try.func121, rfl, rfl⟩ (Nat.le_of_ble_eq_true rfl) ?_
 refine AWp.seq ?_
 refine AWp.region ?_
 refine aC_ rfl rfl (q_assign) ?_
 refine AOps.nil ?_
 refine AWp.seq ?_
 refine AWp.draws [⟨0, [0], [], some 3, _, []⟩,
 ⟨1, [3], [], some 4, _, []⟩,
 ⟨2, [4], [], some 5, _, []⟩,
 ⟨3, [5], [], some 6, _, []⟩,
 ⟨4, [6], [], some 7, _, []⟩,
 ⟨5, [0], [], some 8, _, []⟩,
 ⟨6, [8], [], some 9, _, []⟩,
 ⟨7, [9], [], some 10, _, []⟩,
 ⟨8, [10], [], some 11, _, []⟩,
 ⟨9, [7, 11], [], some 12, _, []⟩,
 ⟨10, [12], [], some 13, _, []⟩,
 ⟨11, [0], [], some 14, _, []⟩,
 ⟨12, [14], [], some 15, _, []⟩,
 ⟨13, [15], [], some 16, _, []⟩,
 ⟨14, [16], [], some 17, _, []⟩,
 ⟨15, [13, 17], [], some 18, _, []⟩,
 ⟨16, [18], [], some 19, _, []⟩,
 ⟨17, [0], [], some 20, _, []⟩,
 ⟨18, [20], [], some 21, _, []⟩,
 ⟨19, [21], [], some 22, _, []⟩,
 ⟨20, [22], [], some 23, _, []⟩,
 ⟨21, [19, 23], [], some 24, _, []⟩,
 ⟨22, [24], [], some 2, _, []⟩]
  [kN_ 0 [0] [] 3,
 kN_ 1 [3] [] 4,
 kN_ 2 [4] [] 5,
 kN_ 3 [5] [] 6,
 kN_ 4 [6] [] 7,
 kN_ 5 [0] [] 8,
 kN_ 6 [8] [] 9,
 kN_ 7 [9] [] 10,
 kN_ 8 [10] [] 11,
 kN_ 9 [7, 11] [] 12,
 kN_ 10 [12] [] 13,
 kN_ 11 [0] [] 14,
 kN_ 12 [14] [] 15,
 kN_ 13 [15] [] 16,
 kN_ 14 [16] [] 17,
 kN_ 15 [13, 17] [] 18,
 kN_ 16 [18] [] 19,
 kN_ 17 [0] [] 20,
 kN_ 18 [20] [] 21,
 kN_ 19 [21] [] 22,
 kN_ 20 [22] [] 23,
 kN_ 21 [19, 23] [] 24,
 kN_ 22 [24] [] 2]
  mixed_ok rfl (by kernel_rfl) ⟨dK_ fun s0 => oG_ rfl rfl (q_move),
 dK_ fun s0 => oG_ rfl rfl (q_ix),
 dK_ fun s0 => oG_ rfl rfl (q_load),
 dK_ fun s0 => oG_ rfl rfl (q_conv_8i),
 dK_ fun s0 => oG_ rfl rfl (q_mul),
 dK_ fun s0 => oG_ rfl rfl (q_move),
 dK_ fun s0 => oG_ rfl rfl (q_ix),
 dK_ fun s0 => oG_ rfl rfl (q_load),
 dK_ fun s0 => oG_ rfl rfl (q_conv_8i),
 dK_ fun s0 => oG_ rfl rfl (q_add),
 dK_ fun s0 => oG_ rfl rfl (q_mul),
 dK_ fun s0 => oG_ rfl rfl (q_move),
 dK_ fun s0 => oG_ rfl rfl (q_ix),
 dK_ fun s0 => oG_ rfl rfl (q_load),
 dK_ fun s0 => oG_ rfl rfl (q_conv_8i),
 dK_ fun s0 => oG_ rfl rfl (q_add),
 dK_ fun s0 => oG_ rfl rfl (q_mul),
 dK_ fun s0 => oG_ rfl rfl (q_move),
 dK_ fun s0 => oG_ rfl rfl (q_ix),
 dK_ fun s0 => oG_ rfl rfl (q_load),
 dK_ fun s0 => oG_ rfl rfl (q_conv_8i),
 dK_ fun s0 => oG_ rfl rfl (q_add),
 dK_ fun s0 => oG_ rfl rfl (q_assign), trivial⟩ ?_
 dsimp only [final, DS.upd, AS.seto]
 refine AWp.ret ?_
 show Fin te Try.f121 _ _
 refine q_ret (0) [_] [_] ?_
 rfl
set_option maxRecDepth 20000 in
set_option maxHeartbeats 2000000 in
theorem c_ciceroneref03_SOA (b : List UInt8) (lv : Nat) (h : b.length ≤ 140737488351232) : AC Try.prog 113 [.fz lv b.length (cl bc b)] emp (Ret (.tup [soaA (soaV b), tf (soaO b)])) := by
 have hc1 := cut_len b
 have hc2 := cut_len (cutR b)
 refine AC.intro te_ok (fn := Try.f113) ⟨Try.func113, rfl, rfl⟩ (Nat.le_of_ble_eq_true rfl) ?_
 refine AWp.seq ?_
 refine AWp.region ?_
 refine aC_ rfl rfl (q_alloc 100) ?_
 refine aC_ rfl rfl (q_assign) ?_
 refine AOps.nil ?_
 refine AWp.seq ?_
 refine AWp.region ?_
 refine aC_ rfl rfl (q_move) ?_
 refine aC_ rfl rfl (q_call (lv) (hc := c_ciceroneref03_First _ _ (by first | assumption | omega | decide | (simp; omega) | (simp [*]; done)))) ?_
 refine aC_ rfl rfl (q_move) ?_
 refine aC_ rfl rfl (q_extract) ?_
 refine aC_ rfl rfl (q_extract) ?_
 refine AOps.bool rfl rfl (q_extract) (fun h1_5 => ?_) (fun h1_5 => ?_)
 ·
  refine aC_ rfl rfl (q_assign) ?_
  refine aC_ rfl rfl (q_assign) ?_
  refine aC_ rfl rfl (q_assign) ?_
  refine AOps.nil ?_
  refine AWp.seq ?_
  refine AWp.seq ?_
  refine AWp.region ?_
  refine aC_ rfl rfl (q_move) ?_
  refine aC_ rfl rfl (q_not) ?_
  refine AOps.nil ?_
  refine AWp.cond_f rfl ?_
  refine AWp.skip ?_
  refine AWp.seq ?_
  refine AWp.region ?_
  refine aC_ rfl rfl (q_move) ?_
  refine aC_ rfl rfl (q_call (lv) (hc := c_ciceroneref03_First _ _ (by first | assumption | omega | decide | (simp; omega) | (simp [*]; done)))) ?_
  refine aC_ rfl rfl (q_move) ?_
  refine aC_ rfl rfl (q_extract) ?_
  refine aC_ rfl rfl (q_extract) ?_
  refine AOps.bool rfl rfl (q_extract) (fun h4_5 => ?_) (fun h4_5 => ?_)
  ·
   refine aC_ rfl rfl (q_assign) ?_
   refine aC_ rfl rfl (q_assign) ?_
   refine aC_ rfl rfl (q_assign) ?_
   refine AOps.nil ?_
   refine AWp.seq ?_
   refine AWp.seq ?_
   refine AWp.region ?_
   refine aC_ rfl rfl (q_move) ?_
   refine aC_ rfl rfl (q_not) ?_
   refine aC_ rfl rfl (q_move) ?_
   refine AOps.gcons rfl rfl rfl rfl rfl (q_move) ?_
   refine AOps.gcons rfl rfl rfl rfl rfl (q_len) ?_
   refine AOps.gdec rfl rfl rfl rfl rfl (q_neq) (fun h5_5 => ?_) (fun h5_5 => ?_)
   ·
    refine aC_ rfl rfl (q_pick) ?_
    refine AOps.nil ?_
    refine AWp.cond_t rfl ?_
    refine AWp.seq ?_
    refine AWp.region ?_
    refine aC_ rfl rfl (q_build []) ?_
    refine aC_ rfl rfl (q_store) ?_
    refine aC_ rfl rfl (q_assign) ?_
    refine AOps.nil ?_
    refine AWp.ret ?_
    show Fin te Try.f113 _ _
    refine q_ret (0) [_, _] [_, _] ?_
    have ho : soaO b = false := by rw [soaO, decide_eq_false (by omega), Bool.and_false, Bool.and_false]
    rw [soaV_no ho, ho]; rfl
   ·
    refine aC_ rfl rfl (q_pick) ?_
    refine AOps.nil ?_
    refine AWp.cond_f rfl ?_
    refine AWp.skip ?_
    refine AWp.seq ?_
    have hc20 : (cutR (cutR b)).length = 20 := by omega
    have ho : soaO b = true := by rw [soaO, h1_5, h4_5, decide_eq_true (by omega)]; rfl
    have hv : soaV b = ⟨cutM b, cutM (cutR b), wd (cutR (cutR b)) 0 5, wd (cutR (cutR b)) 1 5, wd (cutR (cutR b)) 2 5, wd (cutR (cutR b)) 3 5, wd (cutR (cutR b)) 4 5⟩ := by rw [soaV, if_pos ho]
    have e0 : fourR (cutR (cutR b)) = wd (cutR (cutR b)) 0 5 := fourR_drop (j := 0) hc20 (by omega)
    have e1 : fourR ((cutR (cutR b)).drop (Int.toNat 4)) = wd (cutR (cutR b)) 1 5 := fourR_drop (j := 1) hc20 (by omega)
    have e2 : fourR ((cutR (cutR b)).drop (Int.toNat 8)) = wd (cutR (cutR b)) 2 5 := fourR_drop (j := 2) hc20 (by omega)
    have e3 : fourR ((cutR (cutR b)).drop (Int.toNat 12)) = wd (cutR (cutR b)) 3 5 := fourR_drop (j := 3) hc20 (by omega)
    have e4 : fourR ((cutR (cutR b)).drop (Int.toNat 16)) = wd (cutR (cutR b)) 4 5 := fourR_drop (j := 4) hc20 (by omega)
    refine AWp.draws [⟨0, [4], [], some 31, _, []⟩,
 ⟨1, [7], [], some 32, _, []⟩,
 ⟨2, [5], [], some 33, _, []⟩,
 ⟨3, [33], [], some 34, _, []⟩,
 ⟨4, [5], [], some 35, _, []⟩,
 ⟨5, [35], [], some 36, _, []⟩,
 ⟨6, [36], [], some 37, _, []⟩,
 ⟨7, [5], [], some 38, _, []⟩,
 ⟨8, [38], [], some 39, _, []⟩,
 ⟨9, [39], [], some 40, _, []⟩,
 ⟨10, [5], [], some 41, _, []⟩,
 ⟨11, [41], [], some 42, _, []⟩,
 ⟨12, [42], [], some 43, _, []⟩,
 ⟨13, [5], [], some 44, _, []⟩,
 ⟨14, [44], [], some 45, _, []⟩,
 ⟨15, [45], [], some 46, _, []⟩,
 ⟨16, [31, 32, 34, 37, 40, 43, 46], [], some 47, _, []⟩,
 ⟨17, [2, 47], [100], none, _, [(100, _)]⟩,
 ⟨18, [], [], some 3, _, []⟩]
     [kN_ 0 [4] [] 31,
 kN_ 1 [7] [] 32,
 kN_ 2 [5] [] 33,
 kN_ 3 [33] [] 34,
 kN_ 4 [5] [] 35,
 kN_ 5 [35] [] 36,
 kN_ 6 [36] [] 37,
 kN_ 7 [5] [] 38,
 kN_ 8 [38] [] 39,
 kN_ 9 [39] [] 40,
 kN_ 10 [5] [] 41,
 kN_ 11 [41] [] 42,
 kN_ 12 [42] [] 43,
 kN_ 13 [5] [] 44,
 kN_ 14 [44] [] 45,
 kN_ 15 [45] [] 46,
 kN_ 16 [31, 32, 34, 37, 40, 43, 46] [] 47,
 ⟨17, [2, 47], [100], none, .any, [(100, .box [])]⟩,
 kN_ 18 [] [] 3]
     mixed_ok rfl (by kernel_rfl) ⟨dK_ fun s0 => oG_ rfl rfl (q_move),
 dK_ fun s0 => oG_ rfl rfl (q_move),
 dK_ fun s0 => oG_ rfl rfl (q_move),
 dK_ fun s0 => oG_ rfl rfl (q_call (lv) (hc := c_ciceroneref03_four _ _ (by first | assumption | omega | decide | (simp; omega) | (simp [*]; done)) (by first | assumption | omega | decide | (simp; omega) | (simp [*]; done)))),
 dK_ fun s0 => oG_ rfl rfl (q_move),
 dK_ fun s0 => oG_ rfl rfl (q_sl),
 dK_ fun s0 => oG_ rfl rfl (q_call (lv) (hc := c_ciceroneref03_four _ _ (by first | assumption | omega | decide | (simp; omega) | (simp [*]; done)) (by first | assumption | omega | decide | (simp; omega) | (simp [*]; done)))),
 dK_ fun s0 => oG_ rfl rfl (q_move),
 dK_ fun s0 => oG_ rfl rfl (q_sl),
 dK_ fun s0 => oG_ rfl rfl (q_call (lv) (hc := c_ciceroneref03_four _ _ (by first | assumption | omega | decide | (simp; omega) | (simp [*]; done)) (by first | assumption | omega | decide | (simp; omega) | (simp [*]; done)))),
 dK_ fun s0 => oG_ rfl rfl (q_move),
 dK_ fun s0 => oG_ rfl rfl (q_sl),
 dK_ fun s0 => oG_ rfl rfl (q_call (lv) (hc := c_ciceroneref03_four _ _ (by first | assumption | omega | decide | (simp; omega) | (simp [*]; done)) (by first | assumption | omega | decide | (simp; omega) | (simp [*]; done)))),
 dK_ fun s0 => oG_ rfl rfl (q_move),
 dK_ fun s0 => oG_ rfl rfl (q_sl),
 dK_ fun s0 => oG_ rfl rfl (q_call (lv) (hc := c_ciceroneref03_four _ _ (by first | assumption | omega | decide | (simp; omega) | (simp [*]; done)) (by first | assumption | omega | decide | (simp; omega) | (simp [*]; done)))),
 dK_ fun s0 => oG_ rfl rfl (q_build [(_, _), (_, _), (_, _), (_, _), (_, _), (_, _), (_, _)]),
 dK_ fun s0 => oG_ rfl rfl (q_store),
 dK_ fun s0 => oG_ rfl rfl (q_assign), trivial⟩ ?_
    dsimp only [final, DS.upd, AS.seto]
    refine AWp.ret ?_
    show Fin te Try.f113 _ _
    refine q_ret (0) [_, _] [_, _] ?_
    rw [e0, e1, e2, e3, e4, hv, ho]; rfl
  ·
   refine aC_ rfl rfl (q_assign) ?_
   refine aC_ rfl rfl (q_assign) ?_
   refine aC_ rfl rfl (q_assign) ?_
   refine AOps.nil ?_
   refine AWp.seq ?_
   refine AWp.seq ?_
   refine AWp.region ?_
   refine aC_ rfl rfl (q_move) ?_
   refine aC_ rfl rfl (q_not) ?_
   refine aC_ rfl rfl (q_move) ?_
   refine aG_ rfl rfl rfl rfl rfl rfl rfl rfl ?_
   refine aG_ rfl rfl rfl rfl rfl rfl rfl rfl ?_
   refine aG_ rfl rfl rfl rfl rfl rfl rfl rfl ?_
   refine aC_ rfl rfl (q_pick) ?_
   refine AOps.nil ?_
   refine AWp.cond_t rfl ?_
   refine AWp.seq ?_
   refine AWp.region ?_
   refine aC_ rfl rfl (q_build []) ?_
   refine aC_ rfl rfl (q_store) ?_
   refine aC_ rfl rfl (q_assign) ?_
   refine AOps.nil ?_
   refine AWp.ret ?_
   show Fin te Try.f113 _ _
   refine q_ret (0) [_, _] [_, _] ?_
   have ho : soaO b = false := by rw [soaO, h4_5, Bool.false_and, Bool.and_false]
   rw [soaV_no ho, ho]; rfl
 ·
  refine aC_ rfl rfl (q_assign) ?_
  refine aC_ rfl rfl (q_assign) ?_
  refine aC_ rfl rfl (q_assign) ?_
  refine AOps.nil ?_
  refine AWp.seq ?_
  refine AWp.seq ?_
  refine AWp.region ?_
  refine aC_ rfl rfl (q_move) ?_
  refine aC_ rfl rfl (q_not) ?_
  refine AOps.nil ?_
  refine AWp.cond_t rfl ?_
  refine AWp.seq ?_
  refine AWp.region ?_
  refine aC_ rfl rfl (q_build []) ?_
  refine aC_ rfl rfl (q_store) ?_
  refine aC_ rfl rfl (q_assign) ?_
  refine AOps.nil ?_
  refine AWp.ret ?_
  show Fin te Try.f113 _ _
  refine q_ret (0) [_, _] [_, _] ?_
  have ho : soaO b = false := by rw [soaO, h1_5]; rfl
  rw [soaV_no ho, ho]; rfl
set_option maxRecDepth 20000 in
set_option maxHeartbeats 2000000 in
theorem c_ciceroneref03_texts (b : List UInt8) (lv : Nat) (h : b.length ≤ 140737488351232) : AC Try.prog 114 [.fz lv b.length (cl bc b)] emp (Ret (tf (txtR b))) := by
 refine AC.intro te_ok (fn := Try.f114) ⟨Try.func114, rfl, rfl⟩ (Nat.le_of_ble_eq_true rfl) ?_
 refine AWp.seq ?_
 refine AWp.region ?_
 refine aC_ rfl rfl (q_assign) ?_
 refine AOps.nil ?_
 refine AWp.seq ?_
 refine AWp.seq ?_
 refine AWp.region ?_
 refine aC_ rfl rfl (q_move) ?_
 refine aC_ rfl rfl (q_len) ?_
 refine AOps.dec rfl rfl (q_eql) (fun h1_2 => ?_) (fun h1_2 => ?_)
 ·
  refine AOps.nil ?_
  refine AWp.cond_t rfl ?_
  refine AWp.seq ?_
  refine AWp.region ?_
  refine aC_ rfl rfl (q_assign) ?_
  refine AOps.nil ?_
  refine AWp.ret ?_
  show Fin te Try.f114 _ _
  refine q_ret (0) [_] [_] ?_
  rw [txtR, decide_eq_false (by omega)]; rfl
 ·
  refine AOps.nil ?_
  refine AWp.cond_f rfl ?_
  refine AWp.skip ?_
  refine AWp.seq ?_
  refine AWp.block ?_
  refine AWp.loopR (α := List UInt8) [0, 2, 3, 7, 8, 9, 10, 11, 12, 13, 14, 15, 16, 17, 18, 19, 20, 21, 22] (fun c => [(0, .fz lv c.length (cl bc c))]) (fun c => []) (fun c => txtW c = txtW b ∧ c.length ≤ b.length) (fun c => c.length) b ?_ (Back.mk' (HasT.cons HasT.nil) HasH.nil) ?_
  ·
   exact ⟨rfl, Nat.le_refl _⟩
  ·
   rintro c ⟨hc, hl⟩
   refine AWp.seq ?_
   refine AWp.seq ?_
   refine AWp.region ?_
   refine aC_ rfl rfl (q_move) ?_
   refine aC_ rfl rfl (q_len) ?_
   refine AOps.dec rfl rfl (q_gtr) (fun h3_2 => ?_) (fun h3_2 => ?_)
   ·
    refine AOps.nil ?_
    refine AWp.cond_t rfl ?_
    refine AWp.skip ?_
    refine AWp.block ?_
    refine AWp.seq ?_
    refine AWp.region ?_
    have hk := (c.getD 0 default).toNat_lt
    have he : (c.getD (Int.toNat 0) default).toNat = (c.getD 0 default).toNat := rfl
    have hs : (c[0]?.getD default).toNat = (c.getD 0 default).toNat := congrArg UInt8.toNat (List.getD_eq_getElem?_getD).symm
    refine aC_ rfl rfl (q_move) ?_
    refine aC_ rfl rfl (q_ix) ?_
    refine aC_ rfl rfl (q_load) ?_
    refine aC_ rfl rfl (q_conv_8i) ?_
    refine aC_ rfl rfl (q_assign) ?_
    refine AOps.nil ?_
    refine AWp.seq ?_
    refine AWp.seq ?_
    refine AWp.region ?_
    refine aC_ rfl rfl (q_move) ?_
    refine aC_ rfl rfl (q_len) ?_
    refine aC_ rfl rfl (q_move) ?_
    refine aC_ rfl rfl (q_add) ?_
    refine AOps.dec rfl rfl (q_lss) (fun h5_4 => ?_) (fun h5_4 => ?_)
    ·
     refine AOps.nil ?_
     refine AWp.cond_t rfl ?_
     refine AWp.seq ?_
     refine AWp.region ?_
     refine aC_ rfl rfl (q_assign) ?_
     refine AOps.nil ?_
     refine AWp.ret ?_
     show Fin te Try.f114 _ _
     refine q_ret (0) [_] [_] ?_
     rw [txtR, ← hc, txtW_no (by omega) (by omega), Bool.and_false]; rfl
    ·
     refine AOps.nil ?_
     refine AWp.cond_f rfl ?_
     refine AWp.skip ?_
     refine AWp.region ?_
     refine aC_ rfl rfl (q_move) ?_
     refine aC_ rfl rfl (q_move) ?_
     refine aC_ rfl rfl (q_add) ?_
     refine aC_ rfl rfl (q_sl) ?_
     refine aC_ rfl rfl (q_assign) ?_
     refine AOps.nil ?_
     have e1 : ((1 : Int) + ((c.getD (Int.toNat 0) default).toNat : Int)).toNat = 1 + (c.getD 0 default).toNat := by omega
     refine ⟨_, ?_, Back.mk' (HasT.cons HasT.nil) HasH.nil, ?_⟩
     ·
      rw [e1]; exact ⟨(txtW_step (by omega) (by omega)).symm.trans hc, by rw [List.length_drop]; omega⟩
     ·
      rw [e1, List.length_drop]; omega
   ·
    refine AOps.nil ?_
    refine AWp.cond_f rfl ?_
    refine AWp.exit ?_
    refine AWp.seq ?_
    refine AWp.region ?_
    refine aC_ rfl rfl (q_assign) ?_
    refine AOps.nil ?_
    refine AWp.ret ?_
    show Fin te Try.f114 _ _
    refine q_ret (0) [_] [_] ?_
    rw [txtR, ← hc, txtW_end (by omega), Bool.and_true, decide_eq_true (by omega)]; rfl
set_option maxRecDepth 20000 in
set_option maxHeartbeats 2000000 in
theorem c_ciceroneref03_options (b : List UInt8) (lv : Nat) (h : b.length ≤ 140737488351232) : AC Try.prog 115 [.fz lv b.length (cl bc b)] emp (Ret (tf (optR b))) := by
 refine AC.intro te_ok (fn := Try.f115) ⟨Try.func115, rfl, rfl⟩ (Nat.le_of_ble_eq_true rfl) ?_
 refine AWp.seq ?_
 refine AWp.region ?_
 refine aC_ rfl rfl (q_assign) ?_
 refine AOps.nil ?_
 refine AWp.seq ?_
 refine AWp.block ?_
 refine AWp.loopR (α := List UInt8) [0, 2, 3, 4, 5, 6, 7, 8, 9, 10, 11, 12, 13, 14, 15, 16, 17, 18, 19, 20, 21, 22, 23, 24, 25, 26, 27, 28] (fun c => [(0, .fz lv c.length (cl bc c))]) (fun c => []) (fun c => optR c = optR b ∧ c.length ≤ b.length) (fun c => c.length) b ?_ (Back.mk' (HasT.cons HasT.nil) HasH.nil) ?_
 ·
  exact ⟨rfl, Nat.le_refl _⟩
 ·
  rintro c ⟨hc, hl⟩
  refine AWp.seq ?_
  refine AWp.seq ?_
  refine AWp.region ?_
  refine aC_ rfl rfl (q_move) ?_
  refine aC_ rfl rfl (q_len) ?_
  refine AOps.dec rfl rfl (q_gtr) (fun h1_2 => ?_) (fun h1_2 => ?_)
  ·
   refine AOps.nil ?_
   refine AWp.cond_t rfl ?_
   refine AWp.skip ?_
   refine AWp.block ?_
   refine AWp.seq ?_
   refine AWp.seq ?_
   refine AWp.region ?_
   refine aC_ rfl rfl (q_move) ?_
   refine aC_ rfl rfl (q_len) ?_
   refine AOps.dec rfl rfl (q_lss) (fun h2_2 => ?_) (fun h2_2 => ?_)
   ·
    refine AOps.nil ?_
    refine AWp.cond_t rfl ?_
    refine AWp.seq ?_
    refine AWp.region ?_
    refine aC_ rfl rfl (q_assign) ?_
    refine AOps.nil ?_
    refine AWp.ret ?_
    show Fin te Try.f115 _ _
    refine q_ret (0) [_] [_] ?_
    rw [← hc, optR_no (by omega) (by omega)]; rfl
   ·
    refine AOps.nil ?_
    refine AWp.cond_f rfl ?_
    refine AWp.skip ?_
    refine AWp.seq ?_
    have hk2 := (c.getD 2 default).toNat_lt
    have hk3 := (c.getD 3 default).toNat_lt
    have he2 : (c.getD (Int.toNat 2) default).toNat = (c.getD 2 default).toNat := rfl
    have he3 : (c.getD (Int.toNat 3) default).toNat = (c.getD 3 default).toNat := rfl
    have hs2 : (c[2]?.getD default).toNat = (c.getD 2 default).toNat := congrArg UInt8.toNat (List.getD_eq_getElem?_getD).symm
    have hs3 : (c[3]?.getD default).toNat = (c.getD 3 default).toNat := congrArg UInt8.toNat (List.getD_eq_getElem?_getD).symm
    refine AWp.draws [⟨0, [0], [], some 10, _, []⟩,
 ⟨1, [10], [], some 11, _, []⟩,
 ⟨2, [11], [], some 12, _, []⟩,
 ⟨3, [12], [], some 13, _, []⟩,
 ⟨4, [13], [], some 14, _, []⟩,
 ⟨5, [0], [], some 15, _, []⟩,
 ⟨6, [15], [], some 16, _, []⟩,
 ⟨7, [16], [], some 17, _, []⟩,
 ⟨8, [17], [], some 18, _, []⟩,
 ⟨9, [14, 18], [], some 19, _, []⟩,
 ⟨10, [19], [], some 3, _, []⟩]
     [kN_ 0 [0] [] 10,
 kN_ 1 [10] [] 11,
 kN_ 2 [11] [] 12,
 kN_ 3 [12] [] 13,
 kN_ 4 [13] [] 14,
 kN_ 5 [0] [] 15,
 kN_ 6 [15] [] 16,
 kN_ 7 [16] [] 17,
 kN_ 8 [17] [] 18,
 kN_ 9 [14, 18] [] 19,
 kN_ 10 [19] [] 3]
     mixed_ok rfl (by kernel_rfl) ⟨dK_ fun s0 => oG_ rfl rfl (q_move),
 dK_ fun s0 => oG_ rfl rfl (q_ix),
 dK_ fun s0 => oG_ rfl rfl (q_load),
 dK_ fun s0 => oG_ rfl rfl (q_conv_8i),
 dK_ fun s0 => oG_ rfl rfl (q_mul),
 dK_ fun s0 => oG_ rfl rfl (q_move),
 dK_ fun s0 => oG_ rfl rfl (q_ix),
 dK_ fun s0 => oG_ rfl rfl (q_load),
 dK_ fun s0 => oG_ rfl rfl (q_conv_8i),
 dK_ fun s0 => oG_ rfl rfl (q_add),
 dK_ fun s0 => oG_ rfl rfl (q_assign), trivial⟩ ?_
    dsimp only [final, DS.upd, AS.seto]
    refine AWp.seq ?_
    refine AWp.seq ?_
    refine AWp.region ?_
    refine aC_ rfl rfl (q_move) ?_
    refine aC_ rfl rfl (q_len) ?_
    refine aC_ rfl rfl (q_move) ?_
    refine aC_ rfl rfl (q_add) ?_
    refine AOps.dec rfl rfl (q_lss) (fun h5_4 => ?_) (fun h5_4 => ?_)
    ·
     refine AOps.nil ?_
     refine AWp.cond_t rfl ?_
     refine AWp.seq ?_
     refine AWp.region ?_
     refine aC_ rfl rfl (q_assign) ?_
     refine AOps.nil ?_
     refine AWp.ret ?_
     show Fin te Try.f115 _ _
     refine q_ret (0) [_] [_] ?_
     rw [← hc, optR_no (by omega) (Or.inr (by unfold optK; omega))]; rfl
    ·
     refine AOps.nil ?_
     refine AWp.cond_f rfl ?_
     refine AWp.skip ?_
     refine AWp.region ?_
     refine aC_ rfl rfl (q_move) ?_
     refine aC_ rfl rfl (q_move) ?_
     refine aC_ rfl rfl (q_add) ?_
     refine aC_ rfl rfl (q_sl) ?_
     refine aC_ rfl rfl (q_assign) ?_
     refine AOps.nil ?_
     have e1 : (4 + (((c.getD (Int.toNat 2) default).toNat : Int) * 256 + ((c.getD (Int.toNat 3) default).toNat : Int))).toNat = optK c := by unfold optK; omega
     refine ⟨_, ?_, Back.mk' (HasT.cons HasT.nil) HasH.nil, ?_⟩
     ·
      rw [e1]; exact ⟨(optR_step (by omega) (by omega) (by unfold optK; omega)).symm.trans hc, by rw [List.length_drop]; omega⟩
     ·
      rw [e1, List.length_drop]; unfold optK; omega
  ·
   refine AOps.nil ?_
   refine AWp.cond_f rfl ?_
   refine AWp.exit ?_
   refine AWp.seq ?_
   refine AWp.region ?_
   refine aC_ rfl rfl (q_assign) ?_
   refine AOps.nil ?_
   refine AWp.ret ?_
   show Fin te Try.f115 _ _
   refine q_ret (0) [_] [_] ?_
   rw [← hc, optR_end (by omega)]; rfl
set_option maxRecDepth 20000 in
set_option maxHeartbeats 2000000 in
theorem c_Can6 (b : List UInt8) (lv : Nat) (h : b.length ≤ 140737488351232) : AC Try.prog 79 [i64 6, .fz lv b.length (cl bc b)] emp (Ret (tf (canS 6 b))) := by
 refine AC.intro te_ok (fn := Try.f79) ⟨Try.func79, rfl, rfl⟩ (Nat.le_of_ble_eq_true rfl) ?_
 refine AWp.seq ?_
 refine AWp.region ?_
 refine aC_ rfl rfl (q_assign) ?_
 refine AOps.nil ?_
 refine AWp.seq ?_
 refine AWp.seq ?_
 refine AWp.region ?_
 refine aC_ rfl rfl (q_move) ?_
 refine AOps.dec rfl rfl (q_lss) (fun h1_1 => ?_) (fun h1_1 => ?_)
 ·
  exfalso; omega
 ·
  refine aC_ rfl rfl (q_move) ?_
  refine AOps.gcons rfl rfl rfl rfl rfl (q_move) ?_
  refine AOps.gdec rfl rfl rfl rfl rfl (q_gtr) (fun h1_4 => ?_) (fun h1_4 => ?_)
  ·
   exfalso; omega
  ·
   refine aC_ rfl rfl (q_pick) ?_
   refine aC_ rfl rfl (q_move) ?_
   refine AOps.gcons rfl rfl rfl rfl rfl (q_move) ?_
   refine AOps.gcons rfl rfl rfl rfl rfl (q_len) ?_
   refine AOps.gdec rfl rfl rfl rfl rfl (q_gtr) (fun h1_9 => ?_) (fun h1_9 => ?_)
   ·
    refine aC_ rfl rfl (q_pick) ?_
    refine AOps.nil ?_
    refine AWp.cond_t rfl ?_
    refine AWp.seq ?_
    refine AWp.region ?_
    refine aC_ rfl rfl (q_assign) ?_
    refine AOps.nil ?_
    refine AWp.ret ?_
    show Fin te Try.f79 _ _
    refine q_ret (0) [_] [_] ?_
    rw [canS_6n (by omega)]; rfl
   ·
    refine aC_ rfl rfl (q_pick) ?_
    refine AOps.nil ?_
    refine AWp.cond_f rfl ?_
    refine AWp.skip ?_
    refine AWp.seq ?_
    refine AWp.seq ?_
    refine AWp.region ?_
    refine aC_ rfl rfl (q_move) ?_
    refine AOps.nil ?_
    refine AWp.block ?_
    refine AWp.seq ?_
    refine AWp.region ?_
    refine AOps.dec rfl rfl (q_eql) (fun h4_0 => ?_) (fun h4_0 => ?_)
    ·
     exfalso; omega
    ·
     refine aC_ rfl rfl (q_assign) ?_
     refine AOps.nil ?_
     refine AWp.cond_f rfl ?_
     refine AWp.seq ?_
     refine AWp.region ?_
     refine AOps.dec rfl rfl (q_eql) (fun h6_0 => ?_) (fun h6_0 => ?_)
     ·
      exfalso; omega
     ·
      refine aC_ rfl rfl (q_assign) ?_
      refine AOps.nil ?_
      refine AWp.cond_f rfl ?_
      refine AWp.seq ?_
      refine AWp.seq ?_
      refine AWp.region ?_
      refine AOps.dec rfl rfl (q_eql) (fun h8_0 => ?_) (fun h8_0 => ?_)
      ·
       exfalso; omega
      ·
       refine aC_ rfl rfl (q_assign) ?_
       refine AOps.nil ?_
       refine AWp.cond_f rfl ?_
       refine AWp.seq ?_
       refine AWp.region ?_
       refine AOps.dec rfl rfl (q_eql) (fun h9_0 => ?_) (fun h9_0 => ?_)
       ·
        exfalso; omega
       ·
        refine aC_ rfl rfl (q_assign) ?_
        refine AOps.nil ?_
        refine AWp.cond_f rfl ?_
        refine AWp.region ?_
        refine AOps.dec rfl rfl (q_eql) (fun h10_0 => ?_) (fun h10_0 => ?_)
        ·
         exfalso; omega
        ·
         refine aC_ rfl rfl (q_assign) ?_
         refine AOps.nil ?_
         refine AWp.cond_f rfl ?_
         refine AWp.seq ?_
         refine AWp.region ?_
         refine AOps.dec rfl rfl (q_eql) (fun h12_0 => ?_) (fun h12_0 => ?_)
         ·
          exfalso; omega
         ·
          refine aC_ rfl rfl (q_assign) ?_
          refine AOps.nil ?_
          refine AWp.cond_f rfl ?_
          refine AWp.seq ?_
          refine AWp.region ?_
          refine AOps.dec rfl rfl (q_eql) (fun h14_0 => ?_) (fun h14_0 => ?_)
          ·
           exfalso; omega
          ·
           refine aC_ rfl rfl (q_assign) ?_
           refine AOps.nil ?_
           refine AWp.cond_f rfl ?_
           refine AWp.seq ?_
           refine AWp.region ?_
           refine AOps.dec rfl rfl (q_eql) (fun h16_0 => ?_) (fun h16_0 => ?_)
           ·
            exfalso; omega
           ·
            refine aC_ rfl rfl (q_assign) ?_
            refine AOps.nil ?_
            refine AWp.cond_f rfl ?_
            refine AWp.seq ?_
            refine AWp.region ?_
            refine AOps.dec rfl rfl (q_eql) (fun h18_0 => ?_) (fun h18_0 => ?_)
            ·
             refine aC_ rfl rfl (q_assign) ?_
             refine AOps.nil ?_
             refine AWp.cond_t rfl ?_
             refine AWp.seq ?_
             refine AWp.region ?_
             refine aC_ rfl rfl (q_move) ?_
             refine aC_ rfl rfl (q_call (lv) (hc := c_rdata_SOA _ _ (by first | assumption | omega | decide | (simp; omega) | (simp [*]; done)))) ?_
             refine aC_ rfl rfl (q_move) ?_
             refine aC_ rfl rfl (q_extract) ?_
             refine aC_ rfl rfl (q_extract) ?_
             refine aC_ rfl rfl (q_alloc 2005) ?_
             refine aC_ rfl rfl (q_store) ?_
             refine aC_ rfl rfl (q_assign) ?_
             refine AOps.nil ?_
             refine AWp.seq ?_
             refine AWp.region ?_
             refine aC_ rfl rfl (q_move) ?_
             refine aC_ rfl rfl (q_assign) ?_
             refine AOps.nil ?_
             refine AWp.ret ?_
             show Fin te Try.f79 _ _
             refine q_ret (0) [_] [_] ?_
             rw [canS_6 (by omega)]; rfl
            ·
             exfalso; omega
end Go.Proofs.Ytokccoloholgaaa.Fw


set_option linter.unusedVariables false
set_option linter.unusedSimpArgs false
namespace Go.Proofs.Ytokccoloholgaaa.Fw
open Go.RowKit
structure Rr where
  nm : List UInt8
  ty : Int
  cs : Int
  ttl : Int
  da : List UInt8
  deriving Inhabited, DecidableEq
structure Qu where
  nm : List UInt8
  ty : Int
  cs : Int
  deriving Inhabited, DecidableEq
structure Hdr where
  id : Int
  resp : Bool
  op : Int
  aa : Bool
  tc : Bool
  rd : Bool
  ra : Bool
  code : Int
  deriving Inhabited, DecidableEq
structure Msg where
  h : Hdr
  qs : List Qu
  an : List Rr
  au : List Rr
  ad : List Rr
  deriving Inhabited, DecidableEq
def rrc (x : Rr) : List AV := [str x.nm, i64 x.ty, i64 x.cs, i64 x.ttl, .fz 0 x.da.length (cl bc x.da)]
def quc (x : Qu) : List AV := [str x.nm, i64 x.ty, i64 x.cs]
def msgC (m : Msg) : List AV := [i64 m.h.id, tf m.h.resp, i64 m.h.op, tf m.h.aa, tf m.h.tc, tf m.h.rd, tf m.h.ra, i64 m.h.code, .fz 0 m.qs.length (cl quc m.qs), .fz 0 m.an.length (cl rrc m.an), .fz 0 m.au.length (cl rrc m.au), .fz 0 m.ad.length (cl rrc m.ad)]
def RrsOk (l : List Rr) : Prop := l.length * 64 ≤ 140737488351232 ∧ ∀ x ∈ l, x.da.length ≤ 140737488351232
def MsgOk (m : Msg) : Prop := m.qs.length * 32 ≤ 140737488351232 ∧ RrsOk m.an ∧ RrsOk m.au ∧ RrsOk m.ad
theorem rr_eq {a b : Rr} : a = b ↔ a.nm = b.nm ∧ a.ty = b.ty ∧ a.cs = b.cs ∧ a.ttl = b.ttl ∧ a.da = b.da := by cases a; cases b; simp
theorem msg_eq {a b : Msg} : a = b ↔ a.h = b.h ∧ a.qs = b.qs ∧ a.an = b.an ∧ a.au = b.au ∧ a.ad = b.ad := by cases a; cases b; simp
theorem quV (x y : Qu) : eqV ((quc x).map unv) ((quc y).map unv) = decide (x = y) := by
  cases x; cases y
  simp [quc, eqV, eq1, unv]
theorem hdV (x y : Hdr) : eqV [.int .i64 x.id, .bool x.resp, .int .i64 x.op, .bool x.aa, .bool x.tc, .bool x.rd, .bool x.ra, .int .i64 x.code] [.int .i64 y.id, .bool y.resp, .int .i64 y.op, .bool y.aa, .bool y.tc, .bool y.rd, .bool y.ra, .int .i64 y.code] = decide (x = y) := by
  cases x; cases y
  rw [Bool.eq_iff_iff]
  simp [eqV, eq1]
theorem eq_step' {α : Type} [Inhabited α] {a b : List α} {i : Nat} (ha : i < a.length) (hb : i < b.length) (h : a.take i = b.take i) (e : a.getD i default = b.getD i default) : a.take (i + 1) = b.take (i + 1) := by
  rw [List.take_succ_eq_append_getElem ha, List.take_succ_eq_append_getElem hb, h]
  rw [List.getD_eq_getElem?_getD, List.getD_eq_getElem?_getD, List.getElem?_eq_getElem ha, List.getElem?_eq_getElem hb, Option.getD_some, Option.getD_some] at e
  rw [e]
theorem take_step' {α : Type} [Inhabited α] {l : List α} {i : Nat} (hi : i < l.length) : l.take (i + 1) = l.take i ++ [l.getD i default] := by
  have := take_map_step (fun y => y) (l := l) hi
  simpa using this
set_option maxRecDepth 20000 in
set_option maxHeartbeats 2000000 in
theorem c_ciceroneplain_sameRR (a b : Rr) : AC Try.prog 44 [.agg (rrc a), .agg (rrc b)] emp (Ret (tf (decide (a = b)))) := by
 refine AC.intro te_ok (fn := Try.f44) ⟨Try.func44, rfl, rfl⟩ (Nat.le_of_ble_eq_true rfl) ?_
 refine AWp.seq ?_
 refine AWp.region ?_
 refine aC_ rfl rfl (q_box 100) ?_
 refine aC_ rfl rfl (q_box 101) ?_
 refine aC_ rfl rfl (q_assign) ?_
 refine AOps.nil ?_
 refine AWp.seq ?_
 refine AWp.region ?_
 refine aC_ rfl rfl (q_fa) ?_
 refine aC_ rfl rfl (q_load) ?_
 refine aC_ rfl rfl (q_fa) ?_
 refine aC_ rfl rfl (q_load) ?_
 refine AOps.dec rfl rfl (q_seql) (fun h1_4 => ?_) (fun h1_4 => ?_)
 ·
  refine aC_ rfl rfl (q_move) ?_
  refine AOps.gcons rfl rfl rfl rfl rfl (q_fa) ?_
  refine AOps.gcons rfl rfl rfl rfl rfl (q_load) ?_
  refine AOps.gcons rfl rfl rfl rfl rfl (q_fa) ?_
  refine AOps.gcons rfl rfl rfl rfl rfl (q_load) ?_
  refine AOps.gdec rfl rfl rfl rfl rfl (q_eql) (fun h1_10 => ?_) (fun h1_10 => ?_)
  ·
   refine aC_ rfl rfl (q_pick) ?_
   refine aC_ rfl rfl (q_move) ?_
   refine AOps.gcons rfl rfl rfl rfl rfl (q_fa) ?_
   refine AOps.gcons rfl rfl rfl rfl rfl (q_load) ?_
   refine AOps.gcons rfl rfl rfl rfl rfl (q_fa) ?_
   refine AOps.gcons rfl rfl rfl rfl rfl (q_load) ?_
   refine AOps.gdec rfl rfl rfl rfl rfl (q_eql) (fun h1_17 => ?_) (fun h1_17 => ?_)
   ·
    refine aC_ rfl rfl (q_pick) ?_
    refine aC_ rfl rfl (q_move) ?_
    refine AOps.gcons rfl rfl rfl rfl rfl (q_fa) ?_
    refine AOps.gcons rfl rfl rfl rfl rfl (q_load) ?_
    refine AOps.gcons rfl rfl rfl rfl rfl (q_fa) ?_
    refine AOps.gcons rfl rfl rfl rfl rfl (q_load) ?_
    refine AOps.gdec rfl rfl rfl rfl rfl (q_eql) (fun h1_24 => ?_) (fun h1_24 => ?_)
    ·
     refine aC_ rfl rfl (q_pick) ?_
     refine aC_ rfl rfl (q_move) ?_
     refine AOps.gcons rfl rfl rfl rfl rfl (q_fa) ?_
     refine AOps.gcons rfl rfl rfl rfl rfl (q_load) ?_
     refine AOps.gcons rfl rfl rfl rfl rfl (q_fa) ?_
     refine AOps.gcons rfl rfl rfl rfl rfl (q_load) ?_
     refine AOps.gcons rfl rfl rfl rfl rfl (q_call (0) (hc := c_bytes_Equal _ _ _ _)) ?_
     refine aC_ rfl rfl (q_pick) ?_
     refine aC_ rfl rfl (q_assign) ?_
     refine AOps.nil ?_
     refine AWp.ret ?_
     show Fin te Try.f44 _ _
     refine q_ret (0) [_] [_] ?_
     exact congrArg tf (decide_eq_decide.2 (by rw [rr_eq]; simp [*]))
    ·
     refine aC_ rfl rfl (q_pick) ?_
     refine aC_ rfl rfl (q_move) ?_
     refine aG_ rfl rfl rfl rfl rfl rfl rfl rfl ?_
     refine aG_ rfl rfl rfl rfl rfl rfl rfl rfl ?_
     refine aG_ rfl rfl rfl rfl rfl rfl rfl rfl ?_
     refine aG_ rfl rfl rfl rfl rfl rfl rfl rfl ?_
     refine aG_ rfl rfl rfl rfl rfl rfl rfl rfl ?_
     refine aC_ rfl rfl (q_pick) ?_
     refine aC_ rfl rfl (q_assign) ?_
     refine AOps.nil ?_
     refine AWp.ret ?_
     show Fin te Try.f44 _ _
     refine q_ret (0) [_] [_] ?_
     rw [decide_eq_false (fun e => h1_24 (by rw [e]))]; rfl
   ·
    refine aC_ rfl rfl (q_pick) ?_
    refine aC_ rfl rfl (q_move) ?_
    refine aG_ rfl rfl rfl rfl rfl rfl rfl rfl ?_
    refine aG_ rfl rfl rfl rfl rfl rfl rfl rfl ?_
    refine aG_ rfl rfl rfl rfl rfl rfl rfl rfl ?_
    refine aG_ rfl rfl rfl rfl rfl rfl rfl rfl ?_
    refine aG_ rfl rfl rfl rfl rfl rfl rfl rfl ?_
    refine aC_ rfl rfl (q_pick) ?_
    refine aC_ rfl rfl (q_move) ?_
    refine aG_ rfl rfl rfl rfl rfl rfl rfl rfl ?_
    refine aG_ rfl rfl rfl rfl rfl rfl rfl rfl ?_
    refine aG_ rfl rfl rfl rfl rfl rfl rfl rfl ?_
    refine aG_ rfl rfl rfl rfl rfl rfl rfl rfl ?_
    refine aG_ rfl rfl rfl rfl rfl rfl rfl rfl ?_
    refine aC_ rfl rfl (q_pick) ?_
    refine aC_ rfl rfl (q_assign) ?_
    refine AOps.nil ?_
    refine AWp.ret ?_
    show Fin te Try.f44 _ _
    refine q_ret (0) [_] [_] ?_
    rw [decide_eq_false (fun e => h1_17 (by rw [e]))]; rfl
  ·
   refine aC_ rfl rfl (q_pick) ?_
   refine aC_ rfl rfl (q_move) ?_
   refine aG_ rfl rfl rfl rfl rfl rfl rfl rfl ?_
   refine aG_ rfl rfl rfl rfl rfl rfl rfl rfl ?_
   refine aG_ rfl rfl rfl rfl rfl rfl rfl rfl ?_
   refine aG_ rfl rfl rfl rfl rfl rfl rfl rfl ?_
   refine aG_ rfl rfl rfl rfl rfl rfl rfl rfl ?_
   refine aC_ rfl rfl (q_pick) ?_
   refine aC_ rfl rfl (q_move) ?_
   refine aG_ rfl rfl rfl rfl rfl rfl rfl rfl ?_
   refine aG_ rfl rfl rfl rfl rfl rfl rfl rfl ?_
   refine aG_ rfl rfl rfl rfl rfl rfl rfl rfl ?_
   refine aG_ rfl rfl rfl rfl rfl rfl rfl rfl ?_
   refine aG_ rfl rfl rfl rfl rfl rfl rfl rfl ?_
   refine aC_ rfl rfl (q_pick) ?_
   refine aC_ rfl rfl (q_move) ?_
   refine aG_ rfl rfl rfl rfl rfl rfl rfl rfl ?_
   refine aG_ rfl rfl rfl rfl rfl rfl rfl rfl ?_
   refine aG_ rfl rfl rfl rfl rfl rfl rfl rfl ?_
   refine aG_ rfl rfl rfl rfl rfl rfl rfl rfl ?_
   refine aG_ rfl rfl rfl rfl rfl rfl rfl rfl ?_
   refine aC_ rfl rfl (q_pick) ?_
   refine aC_ rfl rfl (q_assign) ?_
   refine AOps.nil ?_
   refine AWp.ret ?_
   show Fin te Try.f44 _ _
   refine q_ret (0) [_] [_] ?_
   rw [decide_eq_false (fun e => h1_10 (by rw [e]))]; rfl
 ·
  refine aC_ rfl rfl (q_move) ?_
  refine aG_ rfl rfl rfl rfl rfl rfl rfl rfl ?_
  refine aG_ rfl rfl rfl rfl rfl rfl rfl rfl ?_
  refine aG_ rfl rfl rfl rfl rfl rfl rfl rfl ?_
  refine aG_ rfl rfl rfl rfl rfl rfl rfl rfl ?_
  refine aG_ rfl rfl rfl rfl rfl rfl rfl rfl ?_
  refine aC_ rfl rfl (q_pick) ?_
  refine aC_ rfl rfl (q_move) ?_
  refine aG_ rfl rfl rfl rfl rfl rfl rfl rfl ?_
  refine aG_ rfl rfl rfl rfl rfl rfl rfl rfl ?_
  refine aG_ rfl rfl rfl rfl rfl rfl rfl rfl ?_
  refine aG_ rfl rfl rfl rfl rfl rfl rfl rfl ?_
  refine aG_ rfl rfl rfl rfl rfl rfl rfl rfl ?_
  refine aC_ rfl rfl (q_pick) ?_
  refine aC_ rfl rfl (q_move) ?_
  refine aG_ rfl rfl rfl rfl rfl rfl rfl rfl ?_
  refine aG_ rfl rfl rfl rfl rfl rfl rfl rfl ?_
  refine aG_ rfl rfl rfl rfl rfl rfl rfl rfl ?_
  refine aG_ rfl rfl rfl rfl rfl rfl rfl rfl ?_
  refine aG_ rfl rfl rfl rfl rfl rfl rfl rfl ?_
  refine aC_ rfl rfl (q_pick) ?_
  refine aC_ rfl rfl (q_move) ?_
  refine aG_ rfl rfl rfl rfl rfl rfl rfl rfl ?_
  refine aG_ rfl rfl rfl rfl rfl rfl rfl rfl ?_
  refine aG_ rfl rfl rfl rfl rfl rfl rfl rfl ?_
  refine aG_ rfl rfl rfl rfl rfl rfl rfl rfl ?_
  refine aG_ rfl rfl rfl rfl rfl rfl rfl rfl ?_
  refine aC_ rfl rfl (q_pick) ?_
  refine aC_ rfl rfl (q_assign) ?_
  refine AOps.nil ?_
  refine AWp.ret ?_
  show Fin te Try.f44 _ _
  refine q_ret (0) [_] [_] ?_
  rw [decide_eq_false (fun e => h1_4 (by rw [e]))]; rfl
set_option maxRecDepth 20000 in
set_option maxHeartbeats 2000000 in
theorem c_Equal_qu (a b : List Qu) (lv lw : Nat) (ha : a.length ≤ 140737488351232) : AC Try.prog 65 [.fz lv a.length (cl quc a), .fz lw b.length (cl quc b)] emp (Ret (tf (decide (a = b)))) := by
 refine AC.intro te_ok (fn := Try.f65) ⟨Try.func65, rfl, rfl⟩ (Nat.le_of_ble_eq_true rfl) ?_
 refine AWp.seq ?_
 refine AWp.region ?_
 refine aC_ rfl rfl (q_assign) ?_
 refine AOps.nil ?_
 refine AWp.seq ?_
 refine AWp.seq ?_
 refine AWp.region ?_
 refine aC_ rfl rfl (q_move) ?_
 refine aC_ rfl rfl (q_len) ?_
 refine aC_ rfl rfl (q_move) ?_
 refine aC_ rfl rfl (q_len) ?_
 refine AOps.dec rfl rfl (q_neq) (fun h1_4 => ?_) (fun h1_4 => ?_)
 ·
  refine AOps.nil ?_
  refine AWp.cond_t rfl ?_
  refine AWp.seq ?_
  refine AWp.region ?_
  refine aC_ rfl rfl (q_assign) ?_
  refine AOps.nil ?_
  refine AWp.ret ?_
  show Fin te Try.f65 _ _
  refine q_ret (0) [_] [_] ?_
  rw [decide_eq_false (fun e => h1_4 (by rw [e]))]; rfl
 ·
  refine AOps.nil ?_
  refine AWp.cond_f rfl ?_
  refine AWp.skip ?_
  refine AWp.seq ?_
  refine AWp.seq ?_
  refine AWp.region ?_
  refine aC_ rfl rfl (q_move) ?_
  refine aC_ rfl rfl (q_len) ?_
  refine aC_ rfl rfl (q_move) ?_
  refine AOps.nil ?_
  refine AWp.block ?_
  refine AWp.loopR (α := Nat) [4, 5, 13, 14, 15, 16, 17, 18, 19, 20, 21, 22, 23, 24, 25] (fun i => [(13, i64 i)]) (fun i => []) (fun i => i ≤ a.length ∧ a.take i = b.take i) (fun i => a.length - i) 0 ?_ (Back.mk' (HasT.cons HasT.nil) HasH.nil) ?_
  ·
   exact ⟨Nat.zero_le _, rfl⟩
  ·
   rintro i ⟨hi, hI⟩
   have hlen : a.length = b.length := by omega
   refine AWp.seq ?_
   refine AWp.region ?_
   refine AOps.dec rfl rfl (q_lss) (fun h4_0 => ?_) (fun h4_0 => ?_)
   ·
    refine AOps.nil ?_
    refine AWp.seq ?_
    refine AWp.cond_t rfl ?_
    refine AWp.skip ?_
    refine AWp.seq ?_
    refine AWp.block ?_
    refine AWp.seq ?_
    refine AWp.region ?_
    refine aC_ rfl rfl (q_move) ?_
    refine aC_ rfl rfl (q_assign) ?_
    refine AOps.nil ?_
    refine AWp.seq ?_
    by_cases he : a.getD i default = b.getD i default
    ·
     refine AWp.draws [⟨0, [0], [], some 16, _, []⟩,
 ⟨1, [5], [], some 17, _, []⟩,
 ⟨2, [16, 17], [], some 18, _, []⟩,
 ⟨3, [18], [], some 19, _, []⟩,
 ⟨4, [1], [], some 20, _, []⟩,
 ⟨5, [5], [], some 21, _, []⟩,
 ⟨6, [20, 21], [], some 22, _, []⟩,
 ⟨7, [22], [], some 23, _, []⟩,
 ⟨8, [19, 23], [], some 24, _, []⟩]
      [kN_ 0 [0] [] 16,
 kN_ 1 [5] [] 17,
 kN_ 2 [16, 17] [] 18,
 kN_ 3 [18] [] 19,
 kN_ 4 [1] [] 20,
 kN_ 5 [5] [] 21,
 kN_ 6 [20, 21] [] 22,
 kN_ 7 [22] [] 23,
 kN_ 8 [19, 23] [] 24]
      mixed_ok rfl (by kernel_rfl) ⟨dK_ fun s0 => oG_ rfl rfl (q_move),
 dK_ fun s0 => oG_ rfl rfl (q_move),
 dK_ fun s0 => oG_ rfl rfl (q_ix),
 dK_ fun s0 => oG_ rfl rfl (q_load),
 dK_ fun s0 => oG_ rfl rfl (q_move),
 dK_ fun s0 => oG_ rfl rfl (q_move),
 dK_ fun s0 => oG_ rfl rfl (q_ix),
 dK_ fun s0 => oG_ rfl rfl (q_load),
 dK_ fun s0 => oG_ rfl rfl ((OpOk.bool_is (c := false) (q_eqp) ((congrArg (! ·) ((quV (a.getD i default) (b.getD i default)).trans (decide_eq_true he)))))), trivial⟩ ?_
     dsimp only [final, DS.upd, AS.seto]
     refine AWp.cond_f rfl ?_
     refine AWp.skip ?_
     refine AWp.region ?_
     refine aC_ rfl rfl (q_add) ?_
     refine aC_ rfl rfl (q_move) ?_
     refine AOps.nil ?_
     refine ⟨i + 1, ?_, Back.mk' (HasT.cons HasT.nil) HasH.nil, ?_⟩
     ·
      exact ⟨by omega, eq_step' (by omega) (by omega) hI he⟩
     ·
      first | omega | (simp; omega)
    ·
     refine AWp.draws [⟨0, [0], [], some 16, _, []⟩,
 ⟨1, [5], [], some 17, _, []⟩,
 ⟨2, [16, 17], [], some 18, _, []⟩,
 ⟨3, [18], [], some 19, _, []⟩,
 ⟨4, [1], [], some 20, _, []⟩,
 ⟨5, [5], [], some 21, _, []⟩,
 ⟨6, [20, 21], [], some 22, _, []⟩,
 ⟨7, [22], [], some 23, _, []⟩,
 ⟨8, [19, 23], [], some 24, _, []⟩]
      [kN_ 0 [0] [] 16,
 kN_ 1 [5] [] 17,
 kN_ 2 [16, 17] [] 18,
 kN_ 3 [18] [] 19,
 kN_ 4 [1] [] 20,
 kN_ 5 [5] [] 21,
 kN_ 6 [20, 21] [] 22,
 kN_ 7 [22] [] 23,
 kN_ 8 [19, 23] [] 24]
      mixed_ok rfl (by kernel_rfl) ⟨dK_ fun s0 => oG_ rfl rfl (q_move),
 dK_ fun s0 => oG_ rfl rfl (q_move),
 dK_ fun s0 => oG_ rfl rfl (q_ix),
 dK_ fun s0 => oG_ rfl rfl (q_load),
 dK_ fun s0 => oG_ rfl rfl (q_move),
 dK_ fun s0 => oG_ rfl rfl (q_move),
 dK_ fun s0 => oG_ rfl rfl (q_ix),
 dK_ fun s0 => oG_ rfl rfl (q_load),
 dK_ fun s0 => oG_ rfl rfl ((OpOk.bool_is (c := true) (q_eqp) ((congrArg (! ·) ((quV (a.getD i default) (b.getD i default)).trans (decide_eq_false he)))))), trivial⟩ ?_
     dsimp only [final, DS.upd, AS.seto]
     refine AWp.cond_t rfl ?_
     refine AWp.seq ?_
     refine AWp.region ?_
     refine aC_ rfl rfl (q_assign) ?_
     refine AOps.nil ?_
     refine AWp.ret ?_
     show Fin te Try.f65 _ _
     refine q_ret (0) [_] [_] ?_
     rw [decide_eq_false (fun e => he (by rw [e]))]; rfl
   ·
    refine AOps.nil ?_
    refine AWp.seq ?_
    refine AWp.cond_f rfl ?_
    refine AWp.exit ?_
    refine AWp.seq ?_
    refine AWp.region ?_
    refine aC_ rfl rfl (q_assign) ?_
    refine AOps.nil ?_
    refine AWp.ret ?_
    show Fin te Try.f65 _ _
    refine q_ret (0) [_] [_] ?_
    have e : a = b := by rw [List.take_of_length_le (by omega), List.take_of_length_le (by omega)] at hI; exact hI
    rw [decide_eq_true e]; rfl
set_option maxRecDepth 20000 in
set_option maxHeartbeats 2000000 in
theorem c_EqualFunc_rr (l m : List Rr) (lv lw : Nat) {fid : Nat} (hl : l.length ≤ 140737488351232) (hg : ∀ x y : Rr, AC Try.prog fid [.agg (rrc x), .agg (rrc y)] emp (Ret (tf (decide (x = y))))) : AC Try.prog 43 [.fz lv l.length (cl rrc l), .fz lw m.length (cl rrc m), .fn (.func fid) [] []] emp (Ret (tf (decide (l = m)))) := by
 refine AC.intro te_ok (fn := Try.f43) ⟨Try.func43, rfl, rfl⟩ (Nat.le_of_ble_eq_true rfl) ?_
 refine AWp.seq ?_
 refine AWp.region ?_
 refine aC_ rfl rfl (q_assign) ?_
 refine AOps.nil ?_
 refine AWp.seq ?_
 refine AWp.seq ?_
 refine AWp.region ?_
 refine aC_ rfl rfl (q_move) ?_
 refine aC_ rfl rfl (q_len) ?_
 refine aC_ rfl rfl (q_move) ?_
 refine aC_ rfl rfl (q_len) ?_
 refine AOps.dec rfl rfl (q_neq) (fun h1_4 => ?_) (fun h1_4 => ?_)
 ·
  refine AOps.nil ?_
  refine AWp.cond_t rfl ?_
  refine AWp.seq ?_
  refine AWp.region ?_
  refine aC_ rfl rfl (q_assign) ?_
  refine AOps.nil ?_
  refine AWp.ret ?_
  show Fin te Try.f43 _ _
  refine q_ret (0) [_] [_] ?_
  rw [decide_eq_false (fun e => h1_4 (by rw [e]))]; rfl
 ·
  refine AOps.nil ?_
  refine AWp.cond_f rfl ?_
  refine AWp.skip ?_
  refine AWp.seq ?_
  refine AWp.seq ?_
  refine AWp.region ?_
  refine aC_ rfl rfl (q_move) ?_
  refine aC_ rfl rfl (q_len) ?_
  refine aC_ rfl rfl (q_move) ?_
  refine AOps.nil ?_
  refine AWp.block ?_
  refine AWp.loopR (α := Nat) [6, 7, 8, 9, 17, 18, 19, 20, 21, 22, 23, 24, 25, 26, 27, 28, 29, 30, 31] (fun i => [(17, i64 i)]) (fun i => []) (fun i => i ≤ l.length ∧ l.take i = m.take i) (fun i => l.length - i) 0 ?_ (Back.mk' (HasT.cons HasT.nil) HasH.nil) ?_
  ·
   exact ⟨Nat.zero_le _, rfl⟩
  ·
   rintro i ⟨hi, hI⟩
   have hlen : l.length = m.length := by omega
   refine AWp.seq ?_
   refine AWp.region ?_
   refine AOps.dec rfl rfl (q_lss) (fun h4_0 => ?_) (fun h4_0 => ?_)
   ·
    refine AOps.nil ?_
    refine AWp.seq ?_
    refine AWp.cond_t rfl ?_
    refine AWp.skip ?_
    refine AWp.seq ?_
    refine AWp.block ?_
    refine AWp.seq ?_
    refine AWp.region ?_
    refine aC_ rfl rfl (q_move) ?_
    refine aC_ rfl rfl (q_ix) ?_
    refine aC_ rfl rfl (q_load) ?_
    refine aC_ rfl rfl (q_alloc 603) ?_
    refine aC_ rfl rfl (q_assign) ?_
    refine aC_ rfl rfl (q_store) ?_
    refine AOps.nil ?_
    refine AWp.seq ?_
    refine AWp.region ?_
    refine aC_ rfl rfl (q_move) ?_
    refine aC_ rfl rfl (q_move) ?_
    refine aC_ rfl rfl (q_ix) ?_
    refine aC_ rfl rfl (q_load) ?_
    refine aC_ rfl rfl (q_alloc 704) ?_
    refine aC_ rfl rfl (q_store) ?_
    refine AOps.nil ?_
    refine AWp.seq ?_
    refine AWp.region ?_
    refine aC_ rfl rfl (q_move) ?_
    refine aC_ rfl rfl (q_load) ?_
    refine aC_ rfl rfl (q_load) ?_
    refine AOps.bool rfl rfl (q_call (0) (hc := (hg (l.getD i default) (m.getD i default)))) (fun h7_3 => ?_) (fun h7_3 => ?_)
    ·
     refine aC_ rfl rfl (q_not) ?_
     refine AOps.nil ?_
     refine AWp.cond_f rfl ?_
     refine AWp.skip ?_
     refine AWp.region ?_
     refine aC_ rfl rfl (q_add) ?_
     refine aC_ rfl rfl (q_move) ?_
     refine AOps.nil ?_
     refine ⟨i + 1, ?_, Back.mk' (HasT.cons HasT.nil) HasH.nil, ?_⟩
     ·
      exact ⟨by omega, eq_step' (by omega) (by omega) hI (of_decide_eq_true h7_3)⟩
     ·
      first | omega | (simp; omega)
    ·
     refine aC_ rfl rfl (q_not) ?_
     refine AOps.nil ?_
     refine AWp.cond_t rfl ?_
     refine AWp.seq ?_
     refine AWp.region ?_
     refine aC_ rfl rfl (q_assign) ?_
     refine AOps.nil ?_
     refine AWp.ret ?_
     show Fin te Try.f43 _ _
     refine q_ret (0) [_] [_] ?_
     rw [decide_eq_false (fun e => by rw [e] at h7_3; simp at h7_3)]; rfl
   ·
    refine AOps.nil ?_
    refine AWp.seq ?_
    refine AWp.cond_f rfl ?_
    refine AWp.exit ?_
    refine AWp.seq ?_
    refine AWp.region ?_
    refine aC_ rfl rfl (q_assign) ?_
    refine AOps.nil ?_
    refine AWp.ret ?_
    show Fin te Try.f43 _ _
    refine q_ret (0) [_] [_] ?_
    have e : l = m := by rw [List.take_of_length_le (by omega), List.take_of_length_le (by omega)] at hI; exact hI
    rw [decide_eq_true e]; rfl
set_option maxRecDepth 20000 in
set_option maxHeartbeats 2000000 in
theorem c_ciceroneplain_SameRRs (l m : List Rr) (lv lw : Nat) (hl : l.length ≤ 140737488351232) : AC Try.prog 12 [.fz lv l.length (cl rrc l), .fz lw m.length (cl rrc m)] emp (Ret (tf (decide (l = m)))) := by
 refine AC.intro te_ok (fn := Try.f12) ⟨Try.func12, rfl, rfl⟩ (Nat.le_of_ble_eq_true rfl) ?_
 refine AWp.seq ?_
 refine AWp.region ?_
 refine aC_ rfl rfl (q_assign) ?_
 refine AOps.nil ?_
 refine AWp.seq ?_
 refine AWp.region ?_
 refine aC_ rfl rfl (q_move) ?_
 refine aC_ rfl rfl (q_move) ?_
 refine aC_ rfl rfl (q_call (lv + lw) (hA := by exact ⟨fv_okb rfl (ble_of (by omega)), fv_okb rfl (ble_of (by omega)), fv_ok rfl, trivial⟩) (hc := (c_EqualFunc_rr l m lv lw hl c_ciceroneplain_sameRR))) ?_
 refine aC_ rfl rfl (q_assign) ?_
 refine AOps.nil ?_
 refine AWp.ret ?_
 show Fin te Try.f12 _ _
 refine q_ret (0) [_] [_] ?_
 rfl
set_option maxRecDepth 20000 in
set_option maxHeartbeats 2000000 in
theorem c_Clone_qu (l : List Qu) (lv : Nat) (h : l.length * 32 ≤ 140737488351232) : AC Try.prog 62 [.fz lv l.length (cl quc l)] emp (Ret (.fz 0 l.length (cl quc l))) := by
 refine AC.intro te_ok (fn := Try.f62) ⟨Try.func62, rfl, rfl⟩ (Nat.le_of_ble_eq_true rfl) ?_
 refine AWp.seq ?_
 refine AWp.region ?_
 refine aC_ rfl rfl (q_nilz (0) quc) ?_
 refine AOps.nil ?_
 refine AWp.seq ?_
 refine AWp.seq ?_
 refine AWp.region ?_
 refine aC_ rfl rfl (q_move) ?_
 refine AOps.snil (fun h1_1 => ?_) ?_
 ·
  refine AOps.nil ?_
  refine AWp.cond_t rfl ?_
  refine AWp.seq ?_
  refine AWp.region ?_
  refine aC_ rfl rfl (q_nilz (0) quc) ?_
  refine AOps.nil ?_
  refine AWp.ret ?_
  show Fin te Try.f62 _ _
  refine q_ret (0) [_] [_] ?_
  obtain rfl := List.eq_nil_of_length_eq_zero h1_1
  rfl
 ·
  refine AOps.nil ?_
  refine AWp.cond_f rfl ?_
  refine AWp.skip ?_
  refine AWp.seq ?_
  refine AWp.region ?_
  refine aC_ rfl rfl (q_bs 400 quc [] []) ?_
  refine aC_ rfl rfl (q_move) ?_
  refine aC_ rfl rfl (q_app) ?_
  refine aC_ rfl rfl (q_assign) ?_
  refine AOps.nil ?_
  refine AWp.ret ?_
  show Fin te Try.f62 _ _
  refine q_ret (0) [_] [_] ?_
  rfl
set_option maxRecDepth 20000 in
set_option maxHeartbeats 2000000 in
theorem c_ciceroneplain_RRs (l : List Rr) (lv : Nat) (h : RrsOk l) : AC Try.prog 63 [.fz lv l.length (cl rrc l)] emp (Ret (.fz 0 l.length (cl rrc l))) := by
 obtain ⟨hb, hd⟩ := id h
 refine AC.intro te_ok (fn := Try.f63) ⟨Try.func63, rfl, rfl⟩ (Nat.le_of_ble_eq_true rfl) ?_
 refine AWp.seq ?_
 refine AWp.region ?_
 refine aC_ rfl rfl (q_nilz (0) rrc) ?_
 refine AOps.nil ?_
 refine AWp.seq ?_
 refine AWp.region ?_
 refine aC_ rfl rfl (q_nilrow 200 5 rrc) ?_
 refine AOps.nil ?_
 refine AWp.seq ?_
 refine AWp.seq ?_
 refine AWp.region ?_
 refine aC_ rfl rfl (q_move) ?_
 refine aC_ rfl rfl (q_len) ?_
 refine aC_ rfl rfl (q_move) ?_
 refine AOps.nil ?_
 refine AWp.block ?_
 refine AWp.loopR (α := Nat × List Rr × Nat) [3, 5, 8, 9, 10, 11, 12, 13, 14, 15, 16, 17, 18, 19, 20] (fun x_ => [(8, i64 (x_.1)), (3, .sl 200 (x_.2.2) 0 (x_.2.1).length 5)]) (fun x_ => [(200, .row (cl rrc (x_.2.1)) 5 (x_.2.2))]) (fun x_ => (x_.1) ≤ l.length ∧ (x_.2.1) = l.take (x_.1)) (fun x_ => l.length - (x_.1)) (0, [], 0) ?_ (Back.mk' (HasT.cons (HasT.cons HasT.nil)) (HasH.cons HasH.nil)) ?_
 ·
  exact ⟨Nat.zero_le _, rfl⟩
 ·
  rintro ⟨i, acc, v⟩ hI3
  change i ≤ l.length ∧ acc = l.take i at hI3
  obtain ⟨hi, hacc⟩ := hI3
  refine AWp.as (s' := AS.over _ [3, 5, 8, 9, 10, 11, 12, 13, 14, 15, 16, 17, 18, 19, 20] [(8, i64 i), (3, .sl 200 v 0 acc.length 5)] [(200, .row (cl rrc acc) 5 v)]) rfl ?_
  have hal : acc.length = i := by rw [hacc, List.length_take]; omega
  refine AWp.seq ?_
  refine AWp.region ?_
  refine AOps.dec rfl rfl (q_lss) (fun h3_0 => ?_) (fun h3_0 => ?_)
  ·
   refine AOps.nil ?_
   refine AWp.seq ?_
   refine AWp.cond_t rfl ?_
   refine AWp.skip ?_
   refine AWp.seq ?_
   refine AWp.block ?_
   refine AWp.seq ?_
   refine AWp.region ?_
   have hdi : (l.getD i default).da.length ≤ 140737488351232 := hd _ (getD_mem' (by omega))
   refine aC_ rfl rfl (q_ix) ?_
   refine aC_ rfl rfl (q_load) ?_
   refine aC_ rfl rfl (q_alloc 502) ?_
   refine aC_ rfl rfl (q_store) ?_
   refine AOps.nil ?_
   refine AWp.seq ?_
   refine AWp.region ?_
   refine aC_ rfl rfl (q_fa) ?_
   refine aC_ rfl rfl (q_load) ?_
   refine aC_ rfl rfl (q_call (0) (hc := c_bytes_Clone _ _ (by first | assumption | omega | decide | (simp; omega) | (simp [*]; done)))) ?_
   refine aC_ rfl rfl (q_fa) ?_
   refine aC_ rfl rfl (q_store) ?_
   refine AOps.nil ?_
   refine AWp.region ?_
   refine aC_ rfl rfl (q_move) ?_
   refine aC_ rfl rfl (q_load) ?_
   refine aC_ rfl rfl (q_bs 702 rrc [_] [(_, _)]) ?_
   refine aC_ rfl rfl (q_app) ?_
   refine aC_ rfl rfl (q_assign) ?_
   refine AOps.nil ?_
   refine AWp.region ?_
   refine aC_ rfl rfl (q_add) ?_
   refine aC_ rfl rfl (q_move) ?_
   refine AOps.nil ?_
   refine ⟨(i + 1, _, _), ?_, Back.mk' (HasT.cons (HasT.cons HasT.nil)) (HasH.cons HasH.nil), ?_⟩
   ·
    try dsimp only
    exact ⟨by omega, by rw [take_step' (by omega), ← hacc]; rfl⟩
   ·
    try dsimp only
    first | omega | (simp; omega)
  ·
   refine AOps.nil ?_
   refine AWp.seq ?_
   refine AWp.cond_f rfl ?_
   refine AWp.exit ?_
   refine AWp.seq ?_
   refine AWp.region ?_
   refine aC_ rfl rfl (q_move) ?_
   refine aC_ rfl rfl (q_assign) ?_
   refine AOps.nil ?_
   refine AWp.ret ?_
   show Fin te Try.f63 _ _
   obtain rfl : acc = l := by rw [hacc, List.take_of_length_le (by omega)]
   refine q_ret (0) [_] [_] ?_
   rfl
end Go.Proofs.Ytokccoloholgaaa.Fw


set_option linter.unusedVariables false
set_option linter.unusedSimpArgs false
namespace Go.Proofs.Ytokccoloholgaaa.Fw
open Go.RowKit
namespace J
def AllSF : List (Nat × AV) → Prop
  | [] => True
  | p :: r => SF p.2 ∧ AllSF r
def AllSFO : List (Nat × AObj) → Prop
  | [] => True
  | p :: r => SFO p.2 ∧ AllSFO r
theorem sf_all {t : List (Nat × AV)} (h : AllSF t) : ∀ i, SF (look t i) := sf_look (by
  induction t with
  | nil => intro p hp; cases hp
  | cons a r ih =>
    intro p hp
    rcases List.mem_cons.1 hp with rfl | hp
    · exact h.1
    · exact ih h.2 p hp)
theorem sfo_all {l : List (Nat × AObj)} (h : AllSFO l) : ∀ id ob, hlook l id = some ob → SFO ob := sfo_look (by
  induction l with
  | nil => intro p hp; cases hp
  | cons a r ih =>
    intro p hp
    rcases List.mem_cons.1 hp with rfl | hp
    · exact h.1
    · exact ih h.2 p hp)
theorem msg_len3 {m : Msg} (h : MsgOk m) (i : Nat) : ([m.an, m.au, m.ad].getD i default).length ≤ 140737488351232 := by
  have h1 := h.2.1.1
  have h2 := h.2.2.1.1
  have h3 := h.2.2.2.1
  match i with
  | 0 => show m.an.length ≤ _; omega
  | 1 => show m.au.length ≤ _; omega
  | 2 => show m.ad.length ≤ _; omega
  | i + 3 => show ([] : List Rr).length ≤ _; simp
section
variable [hJ : HasJ]
def fD : Unit → List AV := fun _ => [.p DD .any]
def rrJ (x : Rr) : List AV := [str x.nm, i64 x.ty, i64 x.cs, i64 x.ttl, .p DD .any]
def msgJ (m : Msg) : List AV := [i64 m.h.id, tf m.h.resp, i64 m.h.op, tf m.h.aa, tf m.h.tc, tf m.h.rd, tf m.h.ra, i64 m.h.code, .fz 0 m.qs.length (cl quc m.qs), .fz 0 m.an.length (cl rrJ m.an), .fz 0 m.au.length (cl rrJ m.au), .fz 0 m.ad.length (cl rrJ m.ad)]
theorem sf_rrJ {lv n : Nat} {l : List Rr} : SF (.fz lv n (cl rrJ l)) := by
  refine .fz (cl_mem (p := NU) fun x _ c hc => ?_) (cl_mem (p := SF) fun x _ c hc => ?_)
  · simp only [rrJ, List.mem_cons, List.not_mem_nil, or_false] at hc
    rcases hc with rfl | rfl | rfl | rfl | rfl
    · exact nu_str
    · exact nu_int (by decide)
    · exact nu_int (by decide)
    · exact nu_int (by decide)
    · exact nu_DD
  · simp only [rrJ, List.mem_cons, List.not_mem_nil, or_false] at hc
    rcases hc with rfl | rfl | rfl | rfl | rfl
    · exact .v
    · exact .v
    · exact .v
    · exact .v
    · exact .p .any
theorem sf_fD {lv n : Nat} {l : List Unit} : SF (.fz lv n (cl fD l)) := by
  refine .fz (cl_mem (p := NU) fun x _ c hc => ?_) (cl_mem (p := SF) fun x _ c hc => ?_)
  · simp only [fD, List.mem_singleton] at hc; subst hc; exact nu_DD
  · simp only [fD, List.mem_singleton] at hc; subst hc; exact .p .any
theorem sfo_rows {e v : Nat} {l : List (List Rr)} : SFO (.row (cl (lc 0 rrJ) l) e v) := cl_mem (p := SF) fun x _ c hc => by
  simp only [lc, List.mem_singleton] at hc; subst hc; exact sf_rrJ
theorem sfo_fD {e v : Nat} {l : List Unit} : SFO (.row (cl fD l) e v) := cl_mem (p := SF) fun x _ c hc => by
  simp only [fD, List.mem_singleton] at hc; subst hc; exact .p .any
set_option maxRecDepth 20000 in
set_option maxHeartbeats 2000000 in
theorem cj_Spoil  : AC Try.prog 66 [.fz 1 ([()] : List Unit).length (cl fD [()])] emp (Ret (.tup [])) := by
 refine AC.intro te_ok (fn := Try.f66) ⟨Try.func66, rfl, rfl⟩ (Nat.le_of_ble_eq_true rfl) ?_
 refine AWp.seq ?_
 refine AWp.region ?_
 refine AOps.cons rfl rfl (q_move) ?_
 refine AOps.cons rfl rfl (q_len) ?_
 refine AOps.cons rfl rfl (q_move) ?_
 refine AOps.nil ?_
 refine AWp.block ?_
 refine AWp.loopI (α := Nat) (fun i => mkS [(5, .fz 1 ([()] : List Unit).length (cl fD [()])), (6, i64 ([()] : List Unit).length), (7, i64 i)] []) (fun i => i ≤ 1) (fun i => 1 - i) 0 ?_ (Weak.full (1) []) ?_
 ·
  exact Nat.zero_le _
 ·
  rintro i hI1
  refine AWp.seq ?_
  refine AWp.region ?_
  refine AOps.dec rfl rfl (q_lss) (fun h1_0 => ?_) (fun h1_0 => ?_)
  ·
   refine AOps.nil ?_
   refine AWp.seq ?_
   refine AWp.cond_t rfl ?_
   refine AWp.skip ?_
   refine AWp.seq ?_
   refine AWp.block ?_
   refine AWp.seq ?_
   refine AWp.region ?_
   refine AOps.cons rfl rfl (q_ix) ?_
   refine AOps.cons rfl rfl (q_load) ?_
   refine AOps.cons rfl rfl (q_assign) ?_
   refine AOps.nil ?_
   refine AWp.seq ?_
   refine AWp.region ?_
   refine AOps.open_ 3 rfl (fun m hm => ?_)
   refine AOps.cons rfl rfl (q_move) ?_
   refine AOps.cons rfl rfl (q_lenp) ?_
   refine AOps.cons rfl rfl (q_move) ?_
   refine AOps.nil ?_
   refine AWp.block ?_
   refine AWp.loopI (α := Nat) (fun j => mkS [(5, .fz 1 ([()] : List Unit).length (cl fD [()])), (6, i64 ([()] : List Unit).length), (7, i64 i), (3, .p (DDn m) .any), (12, i64 m), (13, i64 j)] []) (fun j => j ≤ m) (fun j => m - j) 0 ?_ (Weak.full (1) []) ?_
   ·
    exact Nat.zero_le _
   ·
    rintro j hI4
    refine AWp.seq ?_
    refine AWp.region ?_
    refine AOps.dec rfl rfl (q_lss) (fun h4_0 => ?_) (fun h4_0 => ?_)
    ·
     refine AOps.nil ?_
     refine AWp.seq ?_
     refine AWp.cond_t rfl ?_
     refine AWp.skip ?_
     refine AWp.seq ?_
     refine AWp.block ?_
     refine AWp.seq ?_
     refine AWp.region ?_
     refine AOps.cons rfl rfl (q_move) ?_
     refine AOps.cons rfl rfl (q_assign) ?_
     refine AOps.nil ?_
     refine AWp.region ?_
     refine AOps.cons rfl rfl (q_move) ?_
     refine AOps.cons rfl rfl (q_move) ?_
     refine AOps.cons rfl rfl (q_ixp) ?_
     refine AOps.loadj (fun c => ?_)
     refine AOps.cons rfl rfl (q_xor8 _ 255) ?_
     refine AOps.cons rfl rfl (q_ixp) ?_
     refine AOps.weak (Weak.full 1 [] (t := [(5, .fz 1 ([()] : List Unit).length (cl fD [()])), (6, i64 ([()] : List Unit).length), (7, i64 i), (3, .p (DDn m) .any), (12, i64 m), (13, i64 j), (20, u8 (c ^^^ 255).toNat), (21, .p PJ .any)]) (hl := [])) ?_
     refine AOps.storej (sf_all (by repeat' (first | exact trivial | refine ⟨?_, ?_⟩ | exact .v | exact .sl | exact .ptr | exact .p .any | exact sf_rrJ | exact sf_fD))) (sfo_all (by repeat' (first | exact trivial | refine ⟨?_, ?_⟩ | exact sfo_rows | exact sfo_fD))) ?_
     refine AOps.nil ?_
     refine AWp.region ?_
     refine AOps.cons rfl rfl (q_add) ?_
     refine AOps.cons rfl rfl (q_move) ?_
     refine AOps.nil ?_
     refine ⟨j + 1, ?_, Weak.full (1) [], ?_⟩
     ·
      omega
     ·
      omega
    ·
     refine AOps.nil ?_
     refine AWp.seq ?_
     refine AWp.cond_f rfl ?_
     refine AWp.exit ?_
     refine AWp.region ?_
     refine AOps.cons rfl rfl (q_add) ?_
     refine AOps.cons rfl rfl (q_move) ?_
     refine AOps.nil ?_
     refine ⟨i + 1, ?_, Weak.full (1) [], ?_⟩
     ·
      have h := h1_0
      simp at h
      omega
     ·
      have h := h1_0
      simp at h
      omega
  ·
   refine AOps.nil ?_
   refine AWp.seq ?_
   refine AWp.cond_f rfl ?_
   refine AWp.exit ?_
   show Fin te Try.f66 _ _
   refine q_ret (0) [] [] ?_
   rfl
set_option maxRecDepth 20000 in
set_option maxHeartbeats 2000000 in
theorem cj_SpoilMessage (m : Msg) (hm : MsgOk m) : AC Try.prog 27 [.agg (msgJ m)] emp (Ret (.tup [])) := by
 refine AC.intro te_ok (fn := Try.f27) ⟨Try.func27, rfl, rfl⟩ (Nat.le_of_ble_eq_true rfl) ?_
 refine AWp.seq ?_
 refine AWp.region ?_
 refine AOps.cons rfl rfl (q_box 100) ?_
 refine AOps.nil ?_
 refine AWp.seq ?_
 refine AWp.region ?_
 refine AOps.cons rfl rfl (q_fa) ?_
 refine AOps.cons rfl rfl (q_load) ?_
 refine AOps.cons rfl rfl (q_fa) ?_
 refine AOps.cons rfl rfl (q_load) ?_
 refine AOps.cons rfl rfl (q_fa) ?_
 refine AOps.cons rfl rfl (q_load) ?_
 refine AOps.cons rfl rfl (q_bs 206 (lc 0 rrJ) [m.an, m.au, m.ad] [(_, _), (_, _), (_, _)]) ?_
 refine AOps.cons rfl rfl (q_len) ?_
 refine AOps.cons rfl rfl (q_move) ?_
 refine AOps.nil ?_
 refine AWp.block ?_
 refine AWp.loopI (α := Nat) (fun i => mkS [(12, .sl 206 0 0 3 1), (13, i64 3), (14, i64 i)] [(206, .row (cl (lc 0 rrJ) [m.an, m.au, m.ad]) 1 0)]) (fun i => i ≤ 3) (fun i => 3 - i) 0 ?_ (Weak.full (0) []) ?_
 ·
  exact Nat.zero_le _
 ·
  rintro i hI2
  refine AWp.seq ?_
  refine AWp.region ?_
  refine AOps.dec rfl rfl (q_lss) (fun h2_0 => ?_) (fun h2_0 => ?_)
  ·
   refine AOps.nil ?_
   refine AWp.seq ?_
   refine AWp.cond_t rfl ?_
   refine AWp.skip ?_
   refine AWp.seq ?_
   refine AWp.block ?_
   refine AWp.seq ?_
   refine AWp.region ?_
   refine AOps.cons rfl rfl (q_ix) ?_
   refine AOps.cons rfl rfl (q_load) ?_
   refine AOps.cons rfl rfl (q_assign) ?_
   refine AOps.nil ?_
   refine AWp.seq ?_
   refine AWp.region ?_
   refine AOps.cons rfl rfl (q_move) ?_
   refine AOps.cons rfl rfl (q_len) ?_
   refine AOps.cons rfl rfl (q_move) ?_
   refine AOps.nil ?_
   refine AWp.block ?_
   refine AWp.loopI (α := Nat) (fun j => mkS [(12, .sl 206 0 0 3 1), (13, i64 3), (14, i64 i), (18, .fz 0 ([m.an, m.au, m.ad].getD i default).length (cl rrJ ([m.an, m.au, m.ad].getD i default))), (19, i64 ([m.an, m.au, m.ad].getD i default).length), (20, i64 j)] [(206, .row (cl (lc 0 rrJ) [m.an, m.au, m.ad]) 1 0)]) (fun j => j ≤ ([m.an, m.au, m.ad].getD i default).length) (fun j => ([m.an, m.au, m.ad].getD i default).length - j) 0 ?_ (Weak.full (0) []) ?_
   ·
    exact Nat.zero_le _
   ·
    rintro j hI5
    have hX := msg_len3 hm i
    refine AWp.seq ?_
    refine AWp.region ?_
    refine AOps.dec rfl rfl (q_lss) (fun h5_0 => ?_) (fun h5_0 => ?_)
    ·
     refine AOps.nil ?_
     refine AWp.seq ?_
     refine AWp.cond_t rfl ?_
     refine AWp.skip ?_
     refine AWp.seq ?_
     refine AWp.block ?_
     refine AWp.seq ?_
     refine AWp.region ?_
     refine AOps.cons rfl rfl (q_ix) ?_
     refine AOps.cons rfl rfl (q_load) ?_
     refine AOps.cons rfl rfl (q_alloc 702) ?_
     refine AOps.cons rfl rfl (q_store) ?_
     refine AOps.nil ?_
     refine AWp.region ?_
     refine AOps.cons rfl rfl (q_fa) ?_
     refine AOps.cons rfl rfl (q_load) ?_
     refine AOps.cons rfl rfl (q_bs 902 fD [()] [(_, _)]) ?_
     refine AOps.weak (Weak.full 0 [] (t := [(12, .sl 206 0 0 3 1), (13, i64 3), (14, i64 i), (18, .fz 0 ([m.an, m.au, m.ad].getD i default).length (cl rrJ ([m.an, m.au, m.ad].getD i default))), (19, i64 ([m.an, m.au, m.ad].getD i default).length), (20, i64 j), (26, .sl 902 0 0 ([()] : List Unit).length 1)]) (hl := [(206, .row (cl (lc 0 rrJ) [m.an, m.au, m.ad]) 1 0), (902, .row (cl fD [()]) 1 0)])) ?_
     refine AOps.callj 0 (sf_all (by repeat' (first | exact trivial | refine ⟨?_, ?_⟩ | exact .v | exact .sl | exact .ptr | exact .p .any | exact sf_rrJ | exact sf_fD))) (sfo_all (by repeat' (first | exact trivial | refine ⟨?_, ?_⟩ | exact sfo_rows | exact sfo_fD))) cj_Spoil ?_
     refine AOps.nil ?_
     refine AWp.region ?_
     refine AOps.cons rfl rfl (q_add) ?_
     refine AOps.cons rfl rfl (q_move) ?_
     refine AOps.nil ?_
     refine ⟨j + 1, ?_, Weak.full (0) [], ?_⟩
     ·
      omega
     ·
      omega
    ·
     refine AOps.nil ?_
     refine AWp.seq ?_
     refine AWp.cond_f rfl ?_
     refine AWp.exit ?_
     refine AWp.region ?_
     refine AOps.cons rfl rfl (q_add) ?_
     refine AOps.cons rfl rfl (q_move) ?_
     refine AOps.nil ?_
     refine ⟨i + 1, ?_, Weak.full (0) [], ?_⟩
     ·
      omega
     ·
      omega
  ·
   refine AOps.nil ?_
   refine AWp.seq ?_
   refine AWp.cond_f rfl ?_
   refine AWp.exit ?_
   show Fin te Try.f27 _ _
   refine q_ret (0) [] [] ?_
   rfl
end
end J
end Go.Proofs.Ytokccoloholgaaa.Fw


set_option linter.unusedVariables false
set_option linter.unusedSimpArgs false
namespace Go.Proofs.Ytokccoloholgaaa.Fw
open Go.RowKit
set_option maxRecDepth 20000 in
set_option maxHeartbeats 2000000 in
theorem c_ciceroneplain_SameMessage (a b : Msg) (ha : MsgOk a) (hb : MsgOk b) : AC Try.prog 26 [.agg (msgC a), .agg (msgC b)] emp (Ret (tf (decide (a = b)))) := by
 obtain ⟨a1, ⟨a2, _⟩, ⟨a3, _⟩, ⟨a4, _⟩⟩ := id ha
 obtain ⟨b1, ⟨b2, _⟩, ⟨b3, _⟩, ⟨b4, _⟩⟩ := id hb
 refine AC.intro te_ok (fn := Try.f26) ⟨Try.func26, rfl, rfl⟩ (Nat.le_of_ble_eq_true rfl) ?_
 refine AWp.seq ?_
 refine AWp.region ?_
 refine aC_ rfl rfl (q_box 100) ?_
 refine aC_ rfl rfl (q_box 101) ?_
 refine aC_ rfl rfl (q_assign) ?_
 refine AOps.nil ?_
 refine AWp.seq ?_
 refine AWp.region ?_
 refine aC_ rfl rfl (q_fa) ?_
 refine aC_ rfl rfl (q_load) ?_
 refine aC_ rfl rfl (q_fa) ?_
 refine aC_ rfl rfl (q_load) ?_
 refine AOps.bool rfl rfl (q_eqp) (fun h1_4 => ?_) (fun h1_4 => ?_)
 ·
  refine aC_ rfl rfl (q_move) ?_
  refine AOps.gcons rfl rfl rfl rfl rfl (q_fa) ?_
  refine AOps.gcons rfl rfl rfl rfl rfl (q_load) ?_
  refine AOps.gcons rfl rfl rfl rfl rfl (q_fa) ?_
  refine AOps.gcons rfl rfl rfl rfl rfl (q_load) ?_
  refine AOps.gbool rfl rfl rfl rfl rfl (q_call (0) (hc := (c_Equal_qu a.qs b.qs 0 0 (by omega)))) (fun h1_10 => ?_) (fun h1_10 => ?_)
  ·
   refine aC_ rfl rfl (q_pick) ?_
   refine aC_ rfl rfl (q_move) ?_
   refine AOps.gcons rfl rfl rfl rfl rfl (q_fa) ?_
   refine AOps.gcons rfl rfl rfl rfl rfl (q_load) ?_
   refine AOps.gcons rfl rfl rfl rfl rfl (q_fa) ?_
   refine AOps.gcons rfl rfl rfl rfl rfl (q_load) ?_
   refine AOps.gbool rfl rfl rfl rfl rfl (q_call (0) (hc := (c_ciceroneplain_SameRRs a.an b.an 0 0 (by omega)))) (fun h1_17 => ?_) (fun h1_17 => ?_)
   ·
    refine aC_ rfl rfl (q_pick) ?_
    refine aC_ rfl rfl (q_move) ?_
    refine AOps.gcons rfl rfl rfl rfl rfl (q_fa) ?_
    refine AOps.gcons rfl rfl rfl rfl rfl (q_load) ?_
    refine AOps.gcons rfl rfl rfl rfl rfl (q_fa) ?_
    refine AOps.gcons rfl rfl rfl rfl rfl (q_load) ?_
    refine AOps.gbool rfl rfl rfl rfl rfl (q_call (0) (hc := (c_ciceroneplain_SameRRs a.au b.au 0 0 (by omega)))) (fun h1_24 => ?_) (fun h1_24 => ?_)
    ·
     refine aC_ rfl rfl (q_pick) ?_
     refine aC_ rfl rfl (q_move) ?_
     refine AOps.gcons rfl rfl rfl rfl rfl (q_fa) ?_
     refine AOps.gcons rfl rfl rfl rfl rfl (q_load) ?_
     refine AOps.gcons rfl rfl rfl rfl rfl (q_fa) ?_
     refine AOps.gcons rfl rfl rfl rfl rfl (q_load) ?_
     refine AOps.gcons rfl rfl rfl rfl rfl (q_call (0) (hc := (c_ciceroneplain_SameRRs a.ad b.ad 0 0 (by omega)))) ?_
     refine aC_ rfl rfl (q_pick) ?_
     refine aC_ rfl rfl (q_assign) ?_
     refine AOps.nil ?_
     refine AWp.ret ?_
     show Fin te Try.f26 _ _
     refine q_ret (0) [_] [_] ?_
     have e : a.h = b.h := of_decide_eq_true ((hdV a.h b.h).symm.trans h1_4)
     have e1 := of_decide_eq_true h1_10
     have e2 := of_decide_eq_true h1_17
     have e3 := of_decide_eq_true h1_24
     exact congrArg tf (decide_eq_decide.2 (by rw [msg_eq]; exact ⟨fun q => ⟨e, e1, e2, e3, q⟩, fun q => q.2.2.2.2⟩))
    ·
     refine aC_ rfl rfl (q_pick) ?_
     refine aC_ rfl rfl (q_move) ?_
     refine aG_ rfl rfl rfl rfl rfl rfl rfl rfl ?_
     refine aG_ rfl rfl rfl rfl rfl rfl rfl rfl ?_
     refine aG_ rfl rfl rfl rfl rfl rfl rfl rfl ?_
     refine aG_ rfl rfl rfl rfl rfl rfl rfl rfl ?_
     refine aG_ rfl rfl rfl rfl rfl rfl rfl rfl ?_
     refine aC_ rfl rfl (q_pick) ?_
     refine aC_ rfl rfl (q_assign) ?_
     refine AOps.nil ?_
     refine AWp.ret ?_
     show Fin te Try.f26 _ _
     refine q_ret (0) [_] [_] ?_
     rw [decide_eq_false (fun q => (of_decide_eq_false h1_24) (by rw [q]))]; rfl
   ·
    refine aC_ rfl rfl (q_pick) ?_
    refine aC_ rfl rfl (q_move) ?_
    refine aG_ rfl rfl rfl rfl rfl rfl rfl rfl ?_
    refine aG_ rfl rfl rfl rfl rfl rfl rfl rfl ?_
    refine aG_ rfl rfl rfl rfl rfl rfl rfl rfl ?_
    refine aG_ rfl rfl rfl rfl rfl rfl rfl rfl ?_
    refine aG_ rfl rfl rfl rfl rfl rfl rfl rfl ?_
    refine aC_ rfl rfl (q_pick) ?_
    refine aC_ rfl rfl (q_move) ?_
    refine aG_ rfl rfl rfl rfl rfl rfl rfl rfl ?_
    refine aG_ rfl rfl rfl rfl rfl rfl rfl rfl ?_
    refine aG_ rfl rfl rfl rfl rfl rfl rfl rfl ?_
    refine aG_ rfl rfl rfl rfl rfl rfl rfl rfl ?_
    refine aG_ rfl rfl rfl rfl rfl rfl rfl rfl ?_
    refine aC_ rfl rfl (q_pick) ?_
    refine aC_ rfl rfl (q_assign) ?_
    refine AOps.nil ?_
    refine AWp.ret ?_
    show Fin te Try.f26 _ _
    refine q_ret (0) [_] [_] ?_
    rw [decide_eq_false (fun q => (of_decide_eq_false h1_17) (by rw [q]))]; rfl
  ·
   refine aC_ rfl rfl (q_pick) ?_
   refine aC_ rfl rfl (q_move) ?_
   refine aG_ rfl rfl rfl rfl rfl rfl rfl rfl ?_
   refine aG_ rfl rfl rfl rfl rfl rfl rfl rfl ?_
   refine aG_ rfl rfl rfl rfl rfl rfl rfl rfl ?_
   refine aG_ rfl rfl rfl rfl rfl rfl rfl rfl ?_
   refine aG_ rfl rfl rfl rfl rfl rfl rfl rfl ?_
   refine aC_ rfl rfl (q_pick) ?_
   refine aC_ rfl rfl (q_move) ?_
   refine aG_ rfl rfl rfl rfl rfl rfl rfl rfl ?_
   refine aG_ rfl rfl rfl rfl rfl rfl rfl rfl ?_
   refine aG_ rfl rfl rfl rfl rfl rfl rfl rfl ?_
   refine aG_ rfl rfl rfl rfl rfl rfl rfl rfl ?_
   refine aG_ rfl rfl rfl rfl rfl rfl rfl rfl ?_
   refine aC_ rfl rfl (q_pick) ?_
   refine aC_ rfl rfl (q_move) ?_
   refine aG_ rfl rfl rfl rfl rfl rfl rfl rfl ?_
   refine aG_ rfl rfl rfl rfl rfl rfl rfl rfl ?_
   refine aG_ rfl rfl rfl rfl rfl rfl rfl rfl ?_
   refine aG_ rfl rfl rfl rfl rfl rfl rfl rfl ?_
   refine aG_ rfl rfl rfl rfl rfl rfl rfl rfl ?_
   refine aC_ rfl rfl (q_pick) ?_
   refine aC_ rfl rfl (q_assign) ?_
   refine AOps.nil ?_
   refine AWp.ret ?_
   show Fin te Try.f26 _ _
   refine q_ret (0) [_] [_] ?_
   rw [decide_eq_false (fun q => (of_decide_eq_false h1_10) (by rw [q]))]; rfl
 ·
  refine aC_ rfl rfl (q_move) ?_
  refine aG_ rfl rfl rfl rfl rfl rfl rfl rfl ?_
  refine aG_ rfl rfl rfl rfl rfl rfl rfl rfl ?_
  refine aG_ rfl rfl rfl rfl rfl rfl rfl rfl ?_
  refine aG_ rfl rfl rfl rfl rfl rfl rfl rfl ?_
  refine aG_ rfl rfl rfl rfl rfl rfl rfl rfl ?_
  refine aC_ rfl rfl (q_pick) ?_
  refine aC_ rfl rfl (q_move) ?_
  refine aG_ rfl rfl rfl rfl rfl rfl rfl rfl ?_
  refine aG_ rfl rfl rfl rfl rfl rfl rfl rfl ?_
  refine aG_ rfl rfl rfl rfl rfl rfl rfl rfl ?_
  refine aG_ rfl rfl rfl rfl rfl rfl rfl rfl ?_
  refine aG_ rfl rfl rfl rfl rfl rfl rfl rfl ?_
  refine aC_ rfl rfl (q_pick) ?_
  refine aC_ rfl rfl (q_move) ?_
  refine aG_ rfl rfl rfl rfl rfl rfl rfl rfl ?_
  refine aG_ rfl rfl rfl rfl rfl rfl rfl rfl ?_
  refine aG_ rfl rfl rfl rfl rfl rfl rfl rfl ?_
  refine aG_ rfl rfl rfl rfl rfl rfl rfl rfl ?_
  refine aG_ rfl rfl rfl rfl rfl rfl rfl rfl ?_
  refine aC_ rfl rfl (q_pick) ?_
  refine aC_ rfl rfl (q_move) ?_
  refine aG_ rfl rfl rfl rfl rfl rfl rfl rfl ?_
  refine aG_ rfl rfl rfl rfl rfl rfl rfl rfl ?_
  refine aG_ rfl rfl rfl rfl rfl rfl rfl rfl ?_
  refine aG_ rfl rfl rfl rfl rfl rfl rfl rfl ?_
  refine aG_ rfl rfl rfl rfl rfl rfl rfl rfl ?_
  refine aC_ rfl rfl (q_pick) ?_
  refine aC_ rfl rfl (q_assign) ?_
  refine AOps.nil ?_
  refine AWp.ret ?_
  show Fin te Try.f26 _ _
  refine q_ret (0) [_] [_] ?_
  have e : decide (a.h = b.h) = false := (hdV a.h b.h).symm.trans h1_4
  rw [decide_eq_false (fun q => (of_decide_eq_false e) (by rw [q]))]; rfl
set_option maxRecDepth 20000 in
set_option maxHeartbeats 2000000 in
theorem c_ciceroneplain_Message (m : Msg) (h : MsgOk m) : AC Try.prog 24 [.agg (msgC m)] emp (Ret (.agg (msgC m))) := by
 obtain ⟨q1, q2, q3, q4⟩ := id h
 refine AC.intro te_ok (fn := Try.f24) ⟨Try.func24, rfl, rfl⟩ (Nat.le_of_ble_eq_true rfl) ?_
 refine AWp.seq ?_
 refine AWp.region ?_
 refine aC_ rfl rfl (q_box 100) ?_
 refine aC_ rfl rfl (q_alloc 101) ?_
 refine AOps.nil ?_
 refine AWp.seq ?_
 refine AWp.region ?_
 refine aC_ rfl rfl (q_fa) ?_
 refine aC_ rfl rfl (q_load) ?_
 refine aC_ rfl rfl (q_call (0) (hc := (c_Clone_qu m.qs 0 q1))) ?_
 refine aC_ rfl rfl (q_fa) ?_
 refine aC_ rfl rfl (q_store) ?_
 refine AOps.nil ?_
 refine AWp.seq ?_
 refine AWp.draws [⟨0, [1], [100], some 7, _, []⟩,
 ⟨1, [7], [100], some 8, _, []⟩,
 ⟨2, [8], [], some 9, _, []⟩,
 ⟨3, [1], [100], some 10, _, []⟩,
 ⟨4, [10], [100], some 11, _, []⟩,
 ⟨5, [11], [], some 12, _, []⟩,
 ⟨6, [1], [100], some 13, _, []⟩,
 ⟨7, [13], [100], some 14, _, []⟩,
 ⟨8, [14], [], some 15, _, []⟩,
 ⟨9, [1], [100], some 16, _, []⟩,
 ⟨10, [9, 16], [100], none, _, [(100, _)]⟩,
 ⟨11, [1], [100], some 17, _, []⟩,
 ⟨12, [12, 17], [100], none, _, [(100, _)]⟩,
 ⟨13, [1], [100], some 18, _, []⟩,
 ⟨14, [15, 18], [100], none, _, [(100, _)]⟩]
  [kN_ 0 [1] [100] 7,
 kN_ 1 [7] [100] 8,
 kN_ 2 [8] [] 9,
 kN_ 3 [1] [100] 10,
 kN_ 4 [10] [100] 11,
 kN_ 5 [11] [] 12,
 kN_ 6 [1] [100] 13,
 kN_ 7 [13] [100] 14,
 kN_ 8 [14] [] 15,
 kN_ 9 [1] [100] 16,
 ⟨10, [9, 16], [100], none, .any, [(100, .box [])]⟩,
 kN_ 11 [1] [100] 17,
 ⟨12, [12, 17], [100], none, .any, [(100, .box [])]⟩,
 kN_ 13 [1] [100] 18,
 ⟨14, [15, 18], [100], none, .any, [(100, .box [])]⟩]
  mixed_ok rfl (by kernel_rfl) ⟨dK_ fun s0 => oG_ rfl rfl (q_fa),
 dK_ fun s0 => oG_ rfl rfl (q_load),
 dK_ fun s0 => oG_ rfl rfl (q_call (0) (hc := (c_ciceroneplain_RRs m.an 0 q2))),
 dK_ fun s0 => oG_ rfl rfl (q_fa),
 dK_ fun s0 => oG_ rfl rfl (q_load),
 dK_ fun s0 => oG_ rfl rfl (q_call (0) (hc := (c_ciceroneplain_RRs m.au 0 q3))),
 dK_ fun s0 => oG_ rfl rfl (q_fa),
 dK_ fun s0 => oG_ rfl rfl (q_load),
 dK_ fun s0 => oG_ rfl rfl (q_call (0) (hc := (c_ciceroneplain_RRs m.ad 0 q4))),
 dK_ fun s0 => oG_ rfl rfl (q_fa),
 dK_ fun s0 => oG_ rfl rfl (q_store),
 dK_ fun s0 => oG_ rfl rfl (q_fa),
 dK_ fun s0 => oG_ rfl rfl (q_store),
 dK_ fun s0 => oG_ rfl rfl (q_fa),
 dK_ fun s0 => oG_ rfl rfl (q_store), trivial⟩ ?_
 dsimp only [final, DS.upd, AS.seto]
 refine AWp.seq ?_
 refine AWp.region ?_
 refine aC_ rfl rfl (q_load) ?_
 refine aC_ rfl rfl (q_store) ?_
 refine AOps.nil ?_
 refine AWp.ret ?_
 show Fin te Try.f24 _ _
 refine q_ret (0) [_] [_] ?_
 rfl
end Go.Proofs.Ytokccoloholgaaa.Fw


set_option linter.unusedVariables false
set_option linter.unusedSimpArgs false
namespace Go.Proofs.Ytokccoloholgaaa.Fw
open Go.RowKit
section
variable {d : Nat} {s n b u : TypeId} {is in' ib iu : TI}
theorem has_hdr {t : TypeId} {it : TI} {cs : List AV} (h : Has te (d + 1) t cs) (ht : te.get t = some it) (kt : it.k = .struct [(0, n), (1, b), (2, n), (3, b), (4, b), (5, b), (6, b), (7, n)]) (hn : te.get n = some in') (kn : in'.k = .int .i64) (hb : te.get b = some ib) (kb : ib.k = .bool) :
    ∃ x : Hdr, cs = [i64 x.id, tf x.resp, i64 x.op, tf x.aa, tf x.tc, tf x.rd, tf x.ra, i64 x.code] ∧ (-9223372036854775808 ≤ x.id ∧ x.id ≤ 9223372036854775807) ∧ (-9223372036854775808 ≤ x.op ∧ x.op ≤ 9223372036854775807) ∧ (-9223372036854775808 ≤ x.code ∧ x.code ≤ 9223372036854775807) := by
  obtain ⟨_, w, rfl, q, hh⟩ := has_struct h ht kt
  obtain ⟨a1, rfl, b1⟩ := has_int q hn kn
  obtain ⟨_, w, rfl, q, hh⟩ := hh
  obtain ⟨a2, rfl⟩ := has_bool q hb kb
  obtain ⟨_, w, rfl, q, hh⟩ := hh
  obtain ⟨a3, rfl, b3⟩ := has_int q hn kn
  obtain ⟨_, w, rfl, q, hh⟩ := hh
  obtain ⟨a4, rfl⟩ := has_bool q hb kb
  obtain ⟨_, w, rfl, q, hh⟩ := hh
  obtain ⟨a5, rfl⟩ := has_bool q hb kb
  obtain ⟨_, w, rfl, q, hh⟩ := hh
  obtain ⟨a6, rfl⟩ := has_bool q hb kb
  obtain ⟨_, w, rfl, q, hh⟩ := hh
  obtain ⟨a7, rfl⟩ := has_bool q hb kb
  obtain ⟨_, w, rfl, q, hh⟩ := hh
  obtain ⟨a8, rfl, b8⟩ := has_int q hn kn
  cases hh
  exact ⟨⟨a1, a2, a3, a4, a5, a6, a7, a8⟩, rfl, b1, b3, b8⟩
end
end Go.Proofs.Ytokccoloholgaaa.Fw


set_option linter.unusedVariables false
set_option linter.unusedSimpArgs false
namespace Go.Proofs.Ytokccoloholgaaa.Fw
open Go.RowKit
theorem Rep.lent {w : World} {φ : PMap} {Λ Λ' : Lent} (h : ∀ l b, may φ Λ l b → may φ Λ' l b) {x : AV} {v : Value} (hr : Rep w φ Λ x v) : Rep w φ Λ' x v := by
  induction hr with
  | v => exact .v
  | any => exact .any
  | bl => exact .bl
  | fz0 => exact .fz0
  | fz vf hm hn hok hc hr hp ih => exact .fz vf (h _ _ hm) hn hok hc ih hp
  | fp vf hm hok hc hr hp ih => exact .fp vf (h _ _ hm) hok hc ih hp
  | agg vf h1 h2 h3 ih => exact .agg vf h1 h2 ih
  | tup vf h1 h2 h3 ih => exact .tup vf h1 h2 ih
  | fn vf wf h1 h2 h3 h4 h5 h6 ih1 ih2 => exact .fn vf wf h1 h2 ih1 h4 h5 ih2
  | ifc h ih => exact .ifc ih
  | p a b h ih => exact .p a b ih
  | ptr h1 h2 h3 => exact .ptr h1 h2 h3
  | ptrx h1 h2 => exact .ptrx h1 h2
  | sl h1 h2 h3 h4 h5 h6 => exact .sl h1 h2 h3 h4 h5 h6
  | sl0 h1 h2 => exact .sl0 h1 h2
  | slx h1 h2 h3 => exact .slx h1 h2 h3
  | mp h1 h2 h3 => exact .mp h1 h2 h3
  | mpx h1 h2 => exact .mpx h1 h2
  | dp h1 h2 h3 h4 h5 => exact .dp h1 h2 h3 h4 h5
  | dp0 h1 => exact .dp0 h1
  | dpx h1 h2 => exact .dpx h1 h2
theorem rep_v {w w' : World} {φ φ' : PMap} {Λ Λ' : Lent} {x : Value} {u : Value} (h : Rep w φ Λ (.v x) u) : Rep w' φ' Λ' (.v x) u := by cases h; exact .v
theorem cl_get5 {α : Type} {f g : α → List AV} (hf : ∀ x, (f x).length = 5) (hg : ∀ x, (g x).length = 5) : ∀ (l : List α) (j : Nat) (c : AV), (cl g l)[j]? = some c → ∃ x ∈ l, ∃ r : Nat, (g x)[r]? = some c ∧ (cl f l)[j]? = (f x)[r]?
  | [], j, c, h => by simp [cl] at h
  | a :: l, j, c, h => by
    rw [cl_cons] at h
    by_cases hj : j < 5
    · rw [List.getElem?_append_left (by rw [hg]; exact hj)] at h
      exact ⟨a, List.mem_cons_self, j, h, by rw [cl_cons, List.getElem?_append_left (by rw [hf]; exact hj)]⟩
    · rw [List.getElem?_append_right (by rw [hg]; omega), hg] at h
      obtain ⟨x, hx, r, h1, h2⟩ := cl_get5 hf hg l (j - 5) c h
      exact ⟨x, List.mem_cons_of_mem _ hx, r, h1, by rw [cl_cons, List.getElem?_append_right (by rw [hf]; omega), hf, h2]⟩
theorem rep_cl5 {α : Type} {f g : α → List AV} {l : List α} {w : World} {φ φ' : PMap} {Λ Λ' : Lent} {lv n : Nat} {v : Value} (hf : ∀ x, (f x).length = 5) (hg : ∀ x, (g x).length = 5) (hmay : ∀ b, may φ Λ lv b → may φ' Λ' lv b) (hok : ∀ x, ∀ c ∈ g x, c.ok lv = true)
    (h : ∀ x ∈ l, ∀ (r : Nat) (c' c : AV), (g x)[r]? = some c' → (f x)[r]? = some c → ∀ u, Rep w φ Λ c u → Rep w φ' Λ' c' u) (hr : Rep w φ Λ (.fz lv n (cl f l)) v) : Rep w φ' Λ' (.fz lv n (cl g l)) v := by
  have hlf := cl_length hf l
  have hlg := cl_length hg l
  generalize hcs : cl f l = cs at hr
  cases hr with
  | fz0 =>
    have : l = [] := List.eq_nil_of_length_eq_zero (by rw [hcs] at hlf; simp only [List.length_nil] at hlf; omega)
    subst this
    exact .fz0
  | fz vf hm hn hok0 hc hr0 hp =>
    rw [hcs] at hlf
    refine .fz vf (hmay _ hm) hn (fun c hc2 => cl_mem (p := fun c => c.ok lv = true) (fun x _ => hok x) c hc2) (fun j hj => hc j (by omega)) (fun j c' hj => ?_) (by omega)
    obtain ⟨x, hx, r, h1, h2⟩ := cl_get5 hf hg l j c' hj
    have hjl := (List.getElem?_eq_some_iff.1 hj).1
    rw [hcs, List.getElem?_eq_getElem (by omega)] at h2
    exact h x hx r c' _ h1 h2.symm _ (hr0 j _ (List.getElem?_eq_getElem (by omega)))
theorem rep_bytes {w : World} {φ φ' : PMap} {Λ Λ' : Lent} {lv lv' : Nat} {l : List UInt8} {v : Value} (h : ∀ b, b < w.heap.size → may φ Λ lv b → may φ' Λ' lv' b) (hr : Rep w φ Λ (.fz lv l.length (cl bc l)) v) : Rep w φ' Λ' (.fz lv' l.length (cl bc l)) v := by
  generalize hn : l.length = n at hr ⊢
  generalize hcs : cl bc l = cs at hr ⊢
  cases hr with
  | fz0 => exact .fz0
  | fz vf hm hn' hok hc hr hp =>
    refine .fz vf (h _ (cell?_lt (hc 0 hp)) hm) hn' (fun c hc2 => ?_) hc (fun j c hj => ?_) hp
    · rw [← hcs] at hc2
      exact AV.ok_mono (Nat.zero_le _) (bs_ok l c hc2)
    · have h2 := hr j c hj
      rw [← hcs, bs_map, List.getElem?_map, Option.map_eq_some_iff] at hj
      obtain ⟨x, _, rfl⟩ := hj
      exact rep_v h2
theorem bytes_at {w : World} {φ : PMap} {Λ : Lent} {lv : Nat} {l : List UInt8} {v : Value} (hr : Rep w φ Λ (.fz lv l.length (cl bc l)) v) :
    ∃ ad cap, v = .slice ad l.length cap ∧ (0 < l.length → ∃ b o, ad = some ⟨b, o, none⟩ ∧ may φ Λ lv b ∧ ∀ j, j < l.length → w.cell? ⟨b, o + j, none⟩ = some (.int .u8 (l.getD j default).toNat)) := by
  have hll := bs_length l
  generalize hn : l.length = n at hr hll ⊢
  generalize hcs : cl bc l = cs at hr hll
  cases hr with
  | fz0 => exact ⟨_, _, rfl, fun h => absurd h (Nat.lt_irrefl 0)⟩
  | fz vf hm hn' hok hc hr hp =>
    refine ⟨_, _, rfl, fun _ => ⟨_, _, rfl, hm, fun j hj => ?_⟩⟩
    have hj2 : j < l.length := by omega
    have hcj : cs[j]? = some (u8 (l.getD j default).toNat) := by
      rw [← hcs, bs_map, List.getElem?_map, List.getElem?_eq_getElem hj2, List.getD_eq_getElem?_getD, List.getElem?_eq_getElem hj2]; rfl
    have h2 := hr j _ hcj
    have h3 := hc j (by omega)
    generalize hvj : vf j = u at h2 h3
    cases h2
    exact h3
def rrF (D : Value → Prop) (x : Rr) : List AV := [str x.nm, i64 x.ty, i64 x.cs, i64 x.ttl, .p D (.fz 0 x.da.length (cl bc x.da))]
def msgF (D : Value → Prop) (m : Msg) : List AV := [i64 m.h.id, tf m.h.resp, i64 m.h.op, tf m.h.aa, tf m.h.tc, tf m.h.rd, tf m.h.ra, i64 m.h.code, .fz 0 m.qs.length (cl quc m.qs), .fz 0 m.an.length (cl (rrF D) m.an), .fz 0 m.au.length (cl (rrF D) m.au), .fz 0 m.ad.length (cl (rrF D) m.ad)]
section
variable {w : World} {φ φ' : PMap} {Λ Λ' : Lent} {D : Value → Prop}
theorem rrc5 (x : Rr) : (rrc x).length = 5 := rfl
theorem rrF5 (x : Rr) : (rrF D x).length = 5 := rfl
theorem rrc_ok (x : Rr) : ∀ c ∈ rrc x, c.ok 0 = true := AV.oks_iff.1 rfl
theorem rrF_ok (x : Rr) : ∀ c ∈ rrF D x, c.ok 0 = true := AV.oks_iff.1 rfl
theorem rep_unF {n : Nat} {l : List Rr} {v : Value} (h : Rep w φ Λ (.fz 0 n (cl (rrF D) l)) v) : Rep w φ Λ (.fz 0 n (cl rrc l)) v :=
  rep_cl5 rrF5 rrc5 (fun _ h => h) rrc_ok (fun x _ r c' c h1 h2 u hu => by
    match r, h1, h2 with
    | 0, h1, h2 => cases h1; cases h2; exact hu
    | 1, h1, h2 => cases h1; cases h2; exact hu
    | 2, h1, h2 => cases h1; cases h2; exact hu
    | 3, h1, h2 => cases h1; cases h2; exact hu
    | 4, h1, h2 => cases h1; cases h2; cases hu with | p _ _ h => exact h
    | r + 5, h1, _ => cases h1) h
theorem agg_of {cs cs' : List AV} {v : Value} (hl : cs.length = cs'.length) (h : ∀ (j : Nat) c c', cs[j]? = some c → cs'[j]? = some c' → ∀ u, Rep w φ Λ c u → Rep w φ' Λ' c' u) (hr : Rep w φ Λ (.agg cs) v) : Rep w φ' Λ' (.agg cs') v := by
  cases hr with
  | agg vf h1 h2 h3 =>
    refine .agg vf (by omega) (fun j hj => h2 j (by omega)) (fun j c' hj => ?_)
    have hjl := (List.getElem?_eq_some_iff.1 hj).1
    exact h j _ c' (List.getElem?_eq_getElem (by omega)) hj _ (h3 j _ (List.getElem?_eq_getElem (by omega)))
theorem msg_cases {P : AV → AV → Prop} (m : Msg) (g g' : Rr → List AV) (h0 : ∀ x, P (.v x) (.v x)) (hq : P (.fz 0 m.qs.length (cl quc m.qs)) (.fz 0 m.qs.length (cl quc m.qs)))
    (hr : ∀ l : List Rr, (∀ x ∈ l, x ∈ m.an ∨ x ∈ m.au ∨ x ∈ m.ad) → P (.fz 0 l.length (cl g l)) (.fz 0 l.length (cl g' l))) (a b : List AV)
    (ha : a = [i64 m.h.id, tf m.h.resp, i64 m.h.op, tf m.h.aa, tf m.h.tc, tf m.h.rd, tf m.h.ra, i64 m.h.code, .fz 0 m.qs.length (cl quc m.qs), .fz 0 m.an.length (cl g m.an), .fz 0 m.au.length (cl g m.au), .fz 0 m.ad.length (cl g m.ad)])
    (hb : b = [i64 m.h.id, tf m.h.resp, i64 m.h.op, tf m.h.aa, tf m.h.tc, tf m.h.rd, tf m.h.ra, i64 m.h.code, .fz 0 m.qs.length (cl quc m.qs), .fz 0 m.an.length (cl g' m.an), .fz 0 m.au.length (cl g' m.au), .fz 0 m.ad.length (cl g' m.ad)]) :
    ∀ (j : Nat) c c', a[j]? = some c → b[j]? = some c' → P c c' := by
  subst ha
  subst hb
  intro j c c' h1 h2
  match j, h1, h2 with
  | 0, h1, h2 => cases h1; cases h2; exact h0 _
  | 1, h1, h2 => cases h1; cases h2; exact h0 _
  | 2, h1, h2 => cases h1; cases h2; exact h0 _
  | 3, h1, h2 => cases h1; cases h2; exact h0 _
  | 4, h1, h2 => cases h1; cases h2; exact h0 _
  | 5, h1, h2 => cases h1; cases h2; exact h0 _
  | 6, h1, h2 => cases h1; cases h2; exact h0 _
  | 7, h1, h2 => cases h1; cases h2; exact h0 _
  | 8, h1, h2 => cases h1; cases h2; exact hq
  | 9, h1, h2 => cases h1; cases h2; exact hr _ fun x hx => .inl hx
  | 10, h1, h2 => cases h1; cases h2; exact hr _ fun x hx => .inr (.inl hx)
  | 11, h1, h2 => cases h1; cases h2; exact hr _ fun x hx => .inr (.inr hx)
  | j + 12, h1, _ => cases h1
theorem msg_unF {m : Msg} {v : Value} (h : Rep w φ Λ (.agg (msgF D m)) v) : Rep w φ Λ (.agg (msgC m)) v :=
  agg_of (cs := msgF D m) (cs' := msgC m) rfl (msg_cases (P := fun c c' => ∀ u, Rep w φ Λ c u → Rep w φ Λ c' u) m (rrF D) rrc (fun _ _ h => h) (fun _ h => h) (fun l _ u h => rep_unF h) (msgF D m) (msgC m) rfl rfl) h
end
theorem fv_unF {h : Heap} {lo hi : Nat} {D : Value → Prop} {m : Msg} : FVal h lo hi (.agg (msgF D m)) (.agg (msgC m)) := fun hle w φ Λ Λ' v hs hm hown hr => fv_ok (lo := lo) (hi := hi) (a := .agg (msgC m)) rfl hle w φ Λ Λ' v hs hm hown (msg_unF hr)
theorem wpOps_ok {P : Program} {n : Nat} {ops : Array Oper} {i : Nat} {rest : List Nat} {o : Oper} {s s' : AS} (hi : ops[i]? = some o) (hg : o.guard = none) (h : OpOk P n o s s') {Λ : Lent} {w : World} {φ : PMap} {a : Act} (hs : Sim n w φ Λ s a) {QQ : Exit → Act → World → Prop}
    (hk : ∀ w' φ' a', Sim n w' φ' Λ s' a' → Goes w φ w' φ' → wpOps P ops QQ rest a' w') : wpOps P ops QQ (i :: rest) a w := by
  simp only [wpOps, hi, Region.wanted, hg, if_true]
  exact .inl (h Λ w φ a hs _ _ hk)
end Go.Proofs.Ytokccoloholgaaa.Fw


set_option linter.unusedVariables false
set_option linter.unusedSimpArgs false
namespace Go.Proofs.Ytokccoloholgaaa.Fw
open Go.RowKit
mutual
def AV.mf : AV → Bool
  | .v _ => true
  | .agg cs | .tup cs => AV.mfs cs
  | _ => false
def AV.mfs : List AV → Bool
  | [] => true
  | c :: cs => c.mf && AV.mfs cs
end
theorem AV.mfs_iff : ∀ {l : List AV}, AV.mfs l = true ↔ ∀ c ∈ l, c.mf = true
  | [] => by simp [AV.mfs]
  | c :: cs => by simp [AV.mfs, AV.mfs_iff (l := cs)]
theorem rep_mf {w w' : World} {φ φ' : PMap} {Λ Λ' : Lent} {x : AV} {v : Value} (h : Rep w φ Λ x v) : x.mf = true → Rep w' φ' Λ' x v := by
  induction h with
  | v => exact fun _ => .v
  | agg vf h1 h2 h3 ih => exact fun hm => .agg vf h1 h2 fun j c hj => ih j c hj (AV.mfs_iff.1 (by simpa [AV.mf] using hm) c (List.mem_of_getElem? hj))
  | tup vf h1 h2 h3 ih => exact fun hm => .tup vf h1 h2 fun j c hj => ih j c hj (AV.mfs_iff.1 (by simpa [AV.mf] using hm) c (List.mem_of_getElem? hj))
  | _ => intro hm; simp [AV.mf] at hm
def EVal (h : Heap) (a b : AV) : Prop := ∀ (w : World) (φ : PMap) (Λ : Lent) (v : Value), HSim w φ Λ h → Rep w φ Λ a v → Rep w (fun _ => none) NoL b v
def EVals (h : Heap) : List AV → List AV → Prop
  | [], [] => True
  | a :: xs, b :: ys => EVal h a b ∧ EVals h xs ys
  | _, _ => False
theorem EVals.length {h : Heap} : ∀ {xs ys : List AV}, EVals h xs ys → xs.length = ys.length
  | [], [], _ => rfl
  | _ :: _, _ :: _, e => congrArg (· + 1) e.2.length
  | [], _ :: _, e => e.elim
  | _ :: _, [], e => e.elim
theorem EVals.get {h : Heap} : ∀ {xs ys : List AV}, EVals h xs ys → ∀ (j : Nat) b, ys[j]? = some b → ∃ a, xs[j]? = some a ∧ EVal h a b
  | [], [], _, j, b, hj => by simp at hj
  | a :: xs, b :: ys, e, 0, b', hj => by cases hj; exact ⟨a, rfl, e.1⟩
  | a :: xs, b :: ys, e, j + 1, b', hj => EVals.get (xs := xs) (ys := ys) e.2 j b' hj
  | [], _ :: _, e, _, _, _ => e.elim
  | _ :: _, [], e, _, _, _ => e.elim
theorem ev_fv {h : Heap} {lo hi : Nat} {a b : AV} (hle : lo ≤ hi) (e : FVal h lo hi a b) : EVal h a b := fun w φ Λ v hs hr =>
  e hle w φ Λ NoL v hs (fun _ _ _ _ _ => ⟨fun h => owned_none h, fun _ _ h => h.elim⟩) (fun _ _ => ⟨fun h => owned_none h, fun _ _ h => h.elim⟩) hr
section
variable {n : Nat} {s : AS} {o : Oper} {d : Option Tmp}
theorem q_call0 {f : FuncId} {A : List AV} {r : AV} {fop : Operand} {argops : Array Operand} {tys : Array TypeId} {first caps : List AV}
    (ho : o.op = .call { callee := .value fop, args := argops, argTypes := tys } := by exact rfl) (hf : s.ev fop = .fn (.func f) first caps := by exact rfl) (hA : EVals s.h (first ++ argops.toList.map s.ev ++ caps) A) (hr : r.mf = true := by exact rfl)
    (hdd : o.dst = d := by conv => lhs; whnf) (hd : d.all (Nat.blt · n) = true := by exact rfl) (hc : AC Try.prog f A emp (Ret r)) : OpOk Try.prog n o s (s.put d r) := by
  intro Λ w φ a hs next QQ hN
  subst hdd
  obtain ⟨⟨fn, c, hb⟩, hcall⟩ := hc
  have hs0 : HSim w (fun _ => none) NoL emp := ⟨(fun id ob h => by cases h), fun _ _ => rfl, (fun id l b o h => by cases h), (fun id id' l l' b o o' h => by cases h), fun k b h => h.elim⟩
  obtain ⟨fv, cv, hfv, hsz, hargs0⟩ := callVals hs hf
  have hargs : ArgsRep w (fun _ => none) NoL A (fv ++ argops.map a.eval ++ cv) := by
    refine ⟨by rw [hsz, hA.length], fun j b hj => ?_⟩
    obtain ⟨x, h1, h2⟩ := hA.get j b hj
    obtain ⟨v, h3, h4⟩ := hargs0 j x h1
    exact ⟨v, h3, h2 w φ Λ v hs.hs h4⟩
  unfold Oper.wp
  rw [run_callOp hb ho hfv]
  refine Calls.mono (hcall NoL w (fun _ => none) _ hs0 hargs (fun e w' => match e with
      | .returned v => next (a.put o.dst v) w'
      | .panicked chain => QQ (.panic chain) a w'
      | .outgrown => False) ?_ ?_) ?_
  · intro r' h' w' φ' v hR hs' g hr'
    obtain ⟨e, _⟩ := hR
    cases e
    have hkeep : ∀ b, b < w.heap.size → w'.heap[b]? = w.heap[b]? := fun b hb => g.keep b hb fun h1 => owned_none h1
    have st : Stays w φ w' φ := ⟨fun id l h => ⟨l, h, .inl rfl⟩, fun id l h1 _ b oo arr T m h2 h3 => ⟨arr, T, m, by rw [hkeep b (hs.hs.lt _ _ _ _ h1 h2).1]; exact h3, Nat.le_refl _⟩⟩
    have g2 : Goes w φ w' φ := ⟨fun b hb _ => hkeep b hb, g.size, fun _ h => .inl h, g.os, g.tape, g.output, st.pin, g.fro⟩
    have hs2 : HSim w' φ Λ s.h := ⟨fun id ob h => by
      obtain ⟨l, h1, h2⟩ := hs.hs.heap id ob h
      exact ⟨l, h1, h2.goes g2 st fun b oo h3 => hkeep b (hs.hs.lt _ _ _ _ h1 h3).1⟩, hs.hs.dom, fun id l b oo h1 h2 => by
      obtain ⟨h3, h4⟩ := hs.hs.lt id l b oo h1 h2
      exact ⟨Nat.lt_of_lt_of_le h3 g.size, h4⟩, hs.hs.inj, fun k b h => Nat.lt_of_lt_of_le (hs.hs.lent k b h) g.size⟩
    have hsa : Sim n w' φ Λ s a := ⟨hs.defs, hs.size, fun i => (hs.tmps i).goes g2 st, hs2⟩
    exact hN w' φ _ (hsa.put o.dst hd (rep_mf hr' hr)) g2
  · intro x h' w' φ' hR
    exact absurd hR.1 (by simp)
  · intro e w' h
    cases e with
    | returned v => exact h
    | panicked chain => exact h
    | outgrown => exact h.elim
end
end Go.Proofs.Ytokccoloholgaaa.Fw


set_option linter.unusedVariables false
set_option linter.unusedSimpArgs false
namespace Go.Proofs.Ytokccoloholgaaa.Fw
open Go.RowKit
def idx {α : Type} (g : α → Bool) : List α → Int
  | [] => -1
  | a :: l => if g a then 0 else if idx g l = -1 then -1 else idx g l + 1
theorem idx_ge {α : Type} (g : α → Bool) : ∀ l, -1 ≤ idx g l
  | [] => by simp [idx]
  | a :: l => by
    have := idx_ge g l
    simp only [idx]
    split
    · omega
    · split <;> omega
theorem idx_none {α : Type} {g : α → Bool} : ∀ {l : List α}, (∀ x ∈ l, g x = false) → idx g l = -1
  | [], _ => rfl
  | a :: l, h => by
    simp [idx, h a (by simp), idx_none (l := l) fun x hx => h x (by simp [hx])]
theorem idx_at {α : Type} [Inhabited α] {g : α → Bool} : ∀ {l : List α} {i : Nat}, i < l.length → (∀ x ∈ l.take i, g x = false) → g (l.getD i default) = true → idx g l = i
  | [], i, h, _, _ => by simp at h
  | a :: l, 0, _, _, h => by
    have : g a = true := by simpa using h
    simp [idx, this]
  | a :: l, i + 1, h, h1, h2 => by
    have h3 : g a = false := h1 a (by simp)
    have h4 := idx_at (l := l) (i := i) (g := g) (by simpa using h) (fun x hx => h1 x (by simp [hx])) (by simpa using h2)
    simp only [idx, h3, Bool.false_eq_true, if_false, h4]
    rw [if_neg (by omega)]
    omega
theorem idx_step {α : Type} [Inhabited α] {g : α → Bool} {l : List α} {i : Nat} (h : i < l.length) (h1 : ∀ x ∈ l.take i, g x = false) (h2 : g (l.getD i default) = false) : ∀ x ∈ l.take (i + 1), g x = false := by
  intro x hx
  rw [List.take_succ_eq_append_getElem h] at hx
  rcases List.mem_append.1 hx with hx | hx
  · exact h1 x hx
  · simp only [List.mem_singleton] at hx
    subst hx
    simpa [List.getD_eq_getElem?_getD, List.getElem?_eq_getElem h] using h2
theorem idx_any_iff {α : Type} {g : α → Bool} : ∀ {l : List α}, 0 ≤ idx g l ↔ l.any g = true
  | [] => by simp [idx]
  | a :: l => by
    have h1 := idx_ge g l
    have h2 := idx_any_iff (g := g) (l := l)
    unfold idx
    rw [List.any_cons]
    by_cases ha : g a = true
    · simp [ha]
    · rw [if_neg ha]
      simp only [Bool.not_eq_true] at ha
      rw [ha, Bool.false_or, ← h2]
      split <;> omega
theorem idx_any {α : Type} {g : α → Bool} {l : List α} : decide (0 ≤ idx g l) = l.any g := by
  rw [Bool.eq_iff_iff, decide_eq_true_iff]
  exact idx_any_iff
theorem fvs_caps {h : Heap} {lo hi l : Nat} {a b : AV} {caps : List AV} (e : FVal h lo hi a b) (hl : l ≤ lo) (hc : AV.oks l caps = true) : FVals h lo hi (a :: caps) (b :: caps) := ⟨e, fvs_ok (AV.oks_mono hl hc)⟩
set_option maxRecDepth 20000 in
set_option maxHeartbeats 2000000 in
theorem c_IndexFunc_int (l : List (Int)) (lv lv' lw : Nat) (caps : List AV) (g : Int → Bool) {fid : Nat} (hl : l.length ≤ 140737488351232) (hcaps : AV.oks lw caps = true) (hg : ∀ x ∈ l, AC Try.prog fid (i64 x :: caps) emp (Ret (tf (g x)))) : AC Try.prog 103 [.fz lv l.length (cl (ic) l), .fn (.func fid) [] caps] emp (Ret (i64 (idx g l))) := by
 refine AC.intro te_ok (fn := Try.f103) ⟨Try.func103, rfl, rfl⟩ (Nat.le_of_ble_eq_true rfl) ?_
 refine AWp.seq ?_
 refine AWp.region ?_
 refine aC_ rfl rfl (q_assign) ?_
 refine AOps.nil ?_
 refine AWp.seq ?_
 refine AWp.seq ?_
 refine AWp.region ?_
 refine aC_ rfl rfl (q_move) ?_
 refine aC_ rfl rfl (q_len) ?_
 refine aC_ rfl rfl (q_move) ?_
 refine AOps.nil ?_
 refine AWp.block ?_
 refine AWp.loopR (α := Nat) [4, 5, 8, 9, 10, 11, 12, 13, 14, 15, 16, 17, 18] (fun i => [(8, i64 i)]) (fun i => []) (fun i => i ≤ l.length ∧ ∀ x ∈ l.take i, g x = false) (fun i => l.length - i) 0 ?_ (Back.mk' (HasT.cons HasT.nil) HasH.nil) ?_
 ·
  exact ⟨Nat.zero_le _, by simp⟩
 ·
  rintro i ⟨hi, hI⟩
  refine AWp.seq ?_
  refine AWp.region ?_
  refine AOps.dec rfl rfl (q_lss) (fun h2_0 => ?_) (fun h2_0 => ?_)
  ·
   refine AOps.nil ?_
   refine AWp.seq ?_
   refine AWp.cond_t rfl ?_
   refine AWp.skip ?_
   refine AWp.seq ?_
   refine AWp.block ?_
   refine AWp.seq ?_
   refine AWp.region ?_
   refine aC_ rfl rfl (q_move) ?_
   refine aC_ rfl rfl (q_assign) ?_
   refine AOps.nil ?_
   refine AWp.seq ?_
   refine AWp.region ?_
   refine aC_ rfl rfl (q_move) ?_
   refine aC_ rfl rfl (q_move) ?_
   refine aC_ rfl rfl (q_move) ?_
   refine aC_ rfl rfl (q_ix) ?_
   refine aC_ rfl rfl (q_load) ?_
   refine AOps.bool rfl rfl (q_call (lv + lv' + lw) (hA := by exact fvs_caps (l := lw) (fv_okb rfl (by first | rfl | exact ble_of (by omega) | (simp [AV.ok, AV.oks]; done))) (by omega) hcaps) (hc := (hg _ (getD_mem (i := i) (by omega))))) (fun h4_5 => ?_) (fun h4_5 => ?_)
   ·
    refine AOps.nil ?_
    refine AWp.cond_t rfl ?_
    refine AWp.seq ?_
    refine AWp.region ?_
    refine aC_ rfl rfl (q_move) ?_
    refine aC_ rfl rfl (q_assign) ?_
    refine AOps.nil ?_
    refine AWp.ret ?_
    show Fin te Try.f103 _ _
    refine q_ret (0) [_] [_] ?_
    exact i64_eq (idx_at (by omega) hI h4_5).symm
   ·
    refine AOps.nil ?_
    refine AWp.cond_f rfl ?_
    refine AWp.skip ?_
    refine AWp.region ?_
    refine aC_ rfl rfl (q_add) ?_
    refine aC_ rfl rfl (q_move) ?_
    refine AOps.nil ?_
    refine ⟨i + 1, ?_, Back.mk' (HasT.cons HasT.nil) HasH.nil, ?_⟩
    ·
     exact ⟨by omega, idx_step (by omega) hI h4_5⟩
    ·
     first | omega | (simp; omega)
  ·
   refine AOps.nil ?_
   refine AWp.seq ?_
   refine AWp.cond_f rfl ?_
   refine AWp.exit ?_
   refine AWp.seq ?_
   refine AWp.region ?_
   refine aC_ rfl rfl (q_assign) ?_
   refine AOps.nil ?_
   refine AWp.ret ?_
   show Fin te Try.f103 _ _
   refine q_ret (0) [_] [_] ?_
   exact i64_eq (idx_none (by rwa [List.take_of_length_le (by omega)] at hI)).symm
set_option maxRecDepth 20000 in
set_option maxHeartbeats 2000000 in
theorem c_ContainsFunc_int (l : List (Int)) (lv lv' lw : Nat) (caps : List AV) (g : Int → Bool) {fid : Nat} (hl : l.length ≤ 140737488351232) (hcaps : AV.oks lw caps = true) (hg : ∀ x ∈ l, AC Try.prog fid (i64 x :: caps) emp (Ret (tf (g x)))) : AC Try.prog 74 [.fz lv l.length (cl (ic) l), .fn (.func fid) [] caps] emp (Ret (tf (l.any g))) := by
 refine AC.intro te_ok (fn := Try.f74) ⟨Try.func74, rfl, rfl⟩ (Nat.le_of_ble_eq_true rfl) ?_
 refine AWp.seq ?_
 refine AWp.region ?_
 refine aC_ rfl rfl (q_assign) ?_
 refine AOps.nil ?_
 refine AWp.seq ?_
 refine AWp.region ?_
 refine aC_ rfl rfl (q_move) ?_
 refine aC_ rfl rfl (q_move) ?_
 refine aC_ rfl rfl (q_call (lv + lv' + lw) (hA := by exact ⟨fv_okb rfl (ble_of (by omega)), fv_okb (b := .fn (.func fid) [] caps) rfl (by simp [AV.ok, AV.oks, AV.oks_mono (show lw ≤ lv + lv' + lw by omega) hcaps]), trivial⟩) (hc := (c_IndexFunc_int l lv lv' lw caps g hl hcaps hg))) ?_
 refine aC_ rfl rfl (q_geq) ?_
 refine aC_ rfl rfl (q_assign) ?_
 refine AOps.nil ?_
 refine AWp.ret ?_
 show Fin te Try.f74 _ _
 refine q_ret (0) [_] [_] ?_
 exact congrArg tf idx_any
end Go.Proofs.Ytokccoloholgaaa.Fw


