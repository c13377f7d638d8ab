/- Walks of functions of Go's package slices; their conditions stand ahead. -/
import Derived.Test.YtahkngplohnliaaQ6
set_option linter.unusedVariables false
set_option linter.unusedSimpArgs false
namespace Go.Proofs.Ytahkngplohnliaa.Fw
open Go.RowKit


/-- Where the first that g holds of stands, or -1. -/
def idx {α : Type} (g : α → Bool) : List α → Int
  | [] => -1
  | a :: l => if g a then 0 else if idx g l = -1 then -1 else idx g l + 1
theorem idx_ge {α : Type} (g : α → Bool) : ∀ l, -1 ≤ idx g l
  | [] => by simp [idx]
  | a :: l => by
    have := idx_ge g l
    simp only [idx]
    split
    · omega
    · split <;> omega
theorem idx_none {α : Type} {g : α → Bool} : ∀ {l : List α}, (∀ x ∈ l, g x = false) → idx g l = -1
  | [], _ => rfl
  | a :: l, h => by
    simp [idx, h a (by simp), idx_none (l := l) fun x hx => h x (by simp [hx])]
theorem idx_at {α : Type} [Inhabited α] {g : α → Bool} : ∀ {l : List α} {i : Nat}, i < l.length → (∀ x ∈ l.take i, g x = false) → g (l.getD i default) = true → idx g l = i
  | [], i, h, _, _ => by simp at h
  | a :: l, 0, _, _, h => by
    have : g a = true := by simpa using h
    simp [idx, this]
  | a :: l, i + 1, h, h1, h2 => by
    have h3 : g a = false := h1 a (by simp)
    have h4 := idx_at (l := l) (i := i) (g := g) (by simpa using h) (fun x hx => h1 x (by simp [hx])) (by simpa using h2)
    simp only [idx, h3, Bool.false_eq_true, if_false, h4]
    rw [if_neg (by omega)]
    omega
theorem idx_step {α : Type} [Inhabited α] {g : α → Bool} {l : List α} {i : Nat} (h : i < l.length) (h1 : ∀ x ∈ l.take i, g x = false) (h2 : g (l.getD i default) = false) : ∀ x ∈ l.take (i + 1), g x = false := by
  intro x hx
  rw [List.take_succ_eq_append_getElem h] at hx
  rcases List.mem_append.1 hx with hx | hx
  · exact h1 x hx
  · simp only [List.mem_singleton] at hx
    subst hx
    simpa [List.getD_eq_getElem?_getD, List.getElem?_eq_getElem h] using h2
theorem idx_any_iff {α : Type} {g : α → Bool} : ∀ {l : List α}, 0 ≤ idx g l ↔ l.any g = true
  | [] => by simp [idx]
  | a :: l => by
    have h1 := idx_ge g l
    have h2 := idx_any_iff (g := g) (l := l)
    unfold idx
    rw [List.any_cons]
    by_cases ha : g a = true
    · simp [ha]
    · rw [if_neg ha]
      simp only [Bool.not_eq_true] at ha
      rw [ha, Bool.false_or, ← h2]
      split <;> omega
theorem idx_any {α : Type} {g : α → Bool} {l : List α} : decide (0 ≤ idx g l) = l.any g := by
  rw [Bool.eq_iff_iff, decide_eq_true_iff]
  exact idx_any_iff
theorem fvs_caps {h : Heap} {lo hi l : Nat} {a b : AV} {caps : List AV} (e : FVal h lo hi a b) (hl : l ≤ lo) (hc : AV.oks l caps = true) : FVals h lo hi (a :: caps) (b :: caps) := ⟨e, fvs_ok (AV.oks_mono hl hc)⟩

set_option maxRecDepth 20000 in
theorem c_IndexFunc_int (l : List (Int)) (lv lv' lw : Nat) (caps : List AV) (g : Int → Bool) {fid : Nat} (hl : l.length ≤ 140737488351232) (hcaps : AV.oks lw caps = true) (hg : ∀ x ∈ l, AC Try.prog fid (i64 x :: caps) emp (Ret (tf (g x)))) : AC Try.prog 36 [.fz lv l.length (cl (ic) l), .fn (.func fid) [] caps] emp (Ret (i64 (idx g l))) := by
  refine AC.intro te_ok (fn := Try.f36) ⟨Try.func36, rfl, rfl⟩ (Nat.le_of_ble_eq_true rfl) ?_
  refine AWp.seq ?_
  refine AWp.region ?_
  refine AOps.cons rfl rfl (q_assign) ?_
  refine AOps.nil ?_
  refine AWp.seq ?_
  refine AWp.seq ?_
  refine AWp.region ?_
  refine AOps.cons rfl rfl (q_move) ?_
  refine AOps.cons rfl rfl (q_len) ?_
  refine AOps.cons rfl rfl (q_move) ?_
  refine AOps.nil ?_
  refine AWp.block ?_
  refine AWp.loopR (α := Nat) [4, 5, 8, 9, 10, 11, 12, 13, 14, 15, 16, 17, 18] (fun i => [(8, i64 i)]) (fun i => []) (fun i => i ≤ l.length ∧ ∀ x ∈ l.take i, g x = false) (fun i => l.length - i) 0 ?_ (Back.mk' (HasT.cons HasT.nil) HasH.nil) ?_
  · exact ⟨Nat.zero_le _, by simp⟩
  · rintro i ⟨hi, hI⟩
    refine AWp.seq ?_
    refine AWp.region ?_
    refine AOps.dec rfl rfl (q_lss) (fun h2_0 => ?_) (fun h2_0 => ?_)
    · skip
      refine AOps.nil ?_
      refine AWp.seq ?_
      refine AWp.cond_t rfl ?_
      refine AWp.skip ?_
      refine AWp.seq ?_
      refine AWp.block ?_
      refine AWp.seq ?_
      refine AWp.region ?_
      refine AOps.cons rfl rfl (q_move) ?_
      refine AOps.cons rfl rfl (q_assign) ?_
      refine AOps.nil ?_
      refine AWp.seq ?_
      refine AWp.region ?_
      refine AOps.cons rfl rfl (q_move) ?_
      refine AOps.cons rfl rfl (q_move) ?_
      refine AOps.cons rfl rfl (q_move) ?_
      refine AOps.cons rfl rfl (q_ix) ?_
      refine AOps.cons rfl rfl (q_load) ?_
      refine AOps.bool rfl rfl (q_call (lv + lv' + lw) (hA := by exact fvs_caps (l := lw) (fv_okb rfl (by first | rfl | exact ble_of (by omega) | (simp [AV.ok, AV.oks]; done))) (by omega) hcaps) (hc := (hg _ (getD_mem (i := i) (by omega))))) (fun h4_5 => ?_) (fun h4_5 => ?_)
      · skip
        refine AOps.nil ?_
        refine AWp.cond_t rfl ?_
        refine AWp.seq ?_
        refine AWp.region ?_
        refine AOps.cons rfl rfl (q_move) ?_
        refine AOps.cons rfl rfl (q_assign) ?_
        refine AOps.nil ?_
        refine AWp.ret ?_
        show Fin te Try.f36 _ _
        refine q_ret (0) [_] [_] ?_
        exact i64_eq (idx_at (by omega) hI h4_5).symm
      · skip
        refine AOps.nil ?_
        refine AWp.cond_f rfl ?_
        refine AWp.skip ?_
        refine AWp.region ?_
        refine AOps.cons rfl rfl (q_add) ?_
        refine AOps.cons rfl rfl (q_move) ?_
        refine AOps.nil ?_
        refine ⟨i + 1, ?_, Back.mk' (HasT.cons HasT.nil) HasH.nil, ?_⟩
        · exact ⟨by omega, idx_step (by omega) hI h4_5⟩
        · first | omega | (simp; omega)
    · skip
      refine AOps.nil ?_
      refine AWp.seq ?_
      refine AWp.cond_f rfl ?_
      refine AWp.exit ?_
      refine AWp.seq ?_
      refine AWp.region ?_
      refine AOps.cons rfl rfl (q_assign) ?_
      refine AOps.nil ?_
      refine AWp.ret ?_
      show Fin te Try.f36 _ _
      refine q_ret (0) [_] [_] ?_
      exact i64_eq (idx_none (by rwa [List.take_of_length_le (by omega)] at hI)).symm

set_option maxRecDepth 20000 in
theorem c_ContainsFunc_int (l : List (Int)) (lv lv' lw : Nat) (caps : List AV) (g : Int → Bool) {fid : Nat} (hl : l.length ≤ 140737488351232) (hcaps : AV.oks lw caps = true) (hg : ∀ x ∈ l, AC Try.prog fid (i64 x :: caps) emp (Ret (tf (g x)))) : AC Try.prog 34 [.fz lv l.length (cl (ic) l), .fn (.func fid) [] caps] emp (Ret (tf (l.any g))) := by
  refine AC.intro te_ok (fn := Try.f34) ⟨Try.func34, rfl, rfl⟩ (Nat.le_of_ble_eq_true rfl) ?_
  refine AWp.seq ?_
  refine AWp.region ?_
  refine AOps.cons rfl rfl (q_assign) ?_
  refine AOps.nil ?_
  refine AWp.seq ?_
  refine AWp.region ?_
  refine AOps.cons rfl rfl (q_move) ?_
  refine AOps.cons rfl rfl (q_move) ?_
  refine AOps.cons rfl rfl (q_call (lv + lv' + lw) (hA := by exact ⟨fv_okb rfl (ble_of (by omega)), fv_okb (b := .fn (.func fid) [] caps) rfl (by simp [AV.ok, AV.oks, AV.oks_mono (show lw ≤ lv + lv' + lw by omega) hcaps]), trivial⟩) (hc := (c_IndexFunc_int l lv lv' lw caps g hl hcaps hg))) ?_
  refine AOps.cons rfl rfl (q_geq) ?_
  refine AOps.cons rfl rfl (q_assign) ?_
  refine AOps.nil ?_
  refine AWp.ret ?_
  show Fin te Try.f34 _ _
  refine q_ret (0) [_] [_] ?_
  exact congrArg tf idx_any

end Go.Proofs.Ytahkngplohnliaa.Fw
