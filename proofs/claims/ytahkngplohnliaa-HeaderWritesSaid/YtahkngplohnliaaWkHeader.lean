/- Walks of layer 2: what each comes to; its conditions stand ahead of it. -/
import Derived.Test.YtahkngplohnliaaTe
import Derived.Test.YtahkngplohnliaaFwU
set_option linter.unusedVariables false
set_option linter.unusedSimpArgs false
namespace Go.Proofs.Ytahkngplohnliaa.Fw
open Go.RowKit


/-- Where the first that g holds of stands, or -1. -/
def idx {α : Type} (g : α → Bool) : List α → Int
  | [] => -1
  | a :: l => if g a then 0 else if idx g l = -1 then -1 else idx g l + 1
theorem idx_ge {α : Type} (g : α → Bool) : ∀ l, -1 ≤ idx g l
  | [] => by simp [idx]
  | a :: l => by
    have := idx_ge g l
    simp only [idx]
    split
    · omega
    · split <;> omega
theorem idx_none {α : Type} {g : α → Bool} : ∀ {l : List α}, (∀ x ∈ l, g x = false) → idx g l = -1
  | [], _ => rfl
  | a :: l, h => by
    simp [idx, h a (by simp), idx_none (l := l) fun x hx => h x (by simp [hx])]
theorem idx_at {α : Type} [Inhabited α] {g : α → Bool} : ∀ {l : List α} {i : Nat}, i < l.length → (∀ x ∈ l.take i, g x = false) → g (l.getD (i : Int).toNat default) = true → idx g l = i
  | [], i, h, _, _ => by simp at h
  | a :: l, 0, _, _, h => by
    have : g a = true := by simpa using h
    simp [idx, this]
  | a :: l, i + 1, h, h1, h2 => by
    have h3 : g a = false := h1 a (by simp)
    have h4 := idx_at (l := l) (i := i) (g := g) (by simpa using h) (fun x hx => h1 x (by simp [hx])) (by simpa using h2)
    simp only [idx, h3, Bool.false_eq_true, if_false, h4]
    rw [if_neg (by omega)]
    omega
theorem idx_step {α : Type} [Inhabited α] {g : α → Bool} {l : List α} {i : Nat} (h : i < l.length) (h1 : ∀ x ∈ l.take i, g x = false) (h2 : g (l.getD (i : Int).toNat default) = false) : ∀ x ∈ l.take (i + 1), g x = false := by
  intro x hx
  rw [List.take_succ_eq_append_getElem h] at hx
  rcases List.mem_append.1 hx with hx | hx
  · exact h1 x hx
  · simp only [List.mem_singleton] at hx
    subst hx
    simpa [List.getD_eq_getElem?_getD, List.getElem?_eq_getElem h] using h2
theorem getD_mem {α : Type} {l : List α} {i : Int} {x : α} (h : i.toNat < l.length) : l.getD i.toNat x ∈ l := by
  rw [List.getD_eq_getElem?_getD, List.getElem?_eq_getElem h]
  exact List.getElem_mem h
theorem idx_any_iff {α : Type} {g : α → Bool} : ∀ {l : List α}, 0 ≤ idx g l ↔ l.any g = true
  | [] => by simp [idx]
  | a :: l => by
    have h1 := idx_ge g l
    have h2 := idx_any_iff (g := g) (l := l)
    unfold idx
    rw [List.any_cons]
    by_cases ha : g a = true
    · simp [ha]
    · rw [if_neg ha]
      simp only [Bool.not_eq_true] at ha
      rw [ha, Bool.false_or, ← h2]
      split <;> omega
theorem idx_any {α : Type} {g : α → Bool} {l : List α} : decide (idx g l ≥ 0) = l.any g := by
  rw [Bool.eq_iff_iff, decide_eq_true_iff]
  exact idx_any_iff

set_option maxRecDepth 20000 in
theorem c_IndexFunc {fid : Nat} (l : List Int) (caps : List AV) (lv : Nat) (g : Int → Bool) (hl : l.length ≤ 9223372036854775806) (hcaps : AV.oks lv caps = true) (hf : ∀ x ∈ l, (fun x => (fun n : Int => i64 n) x) x |>.ok lv) (hg : ∀ x ∈ l, AC Try.prog fid ((fun n : Int => i64 n) x :: caps) emp (Ret (tf (g x)))) : AC Try.prog 36 [.fz lv l.length (l.map (fun n : Int => i64 n)), .fn (.func fid) [] caps] emp (Ret (i64 (idx g l))) := by
  refine AC.intro te_ok (fn := Try.f36) ⟨Try.func36, rfl, rfl⟩ (Nat.le_of_ble_eq_true rfl) ?_
  refine AWp.seq ?_
  refine AWp.region ?_
  refine AOps.cons rfl rfl (ok_assign rfl (by conv => lhs; whnf) rfl rfl) ?_
  refine AOps.nil ?_
  refine AWp.seq ?_
  refine AWp.seq ?_
  refine AWp.region ?_
  refine AOps.cons rfl rfl (ok_move rfl (by conv => lhs; whnf) rfl rfl) ?_
  refine AOps.cons rfl rfl (ok_len_sl te_ok rfl rfl rfl rfl rfl rfl rfl) ?_
  refine AOps.cons rfl rfl (ok_move rfl (by conv => lhs; whnf) rfl rfl) ?_
  refine AOps.nil ?_
  refine AWp.block ?_
  refine AWp.loopI (α := Nat) (fun i => mkS [(0, .fz lv l.length (l.map (fun n : Int => i64 n))), (1, .fn (.func fid) [] caps), (7, i64 l.length), (8, i64 i)] []) (fun i => i ≤ l.length ∧ ∀ x ∈ l.take i, g x = false) (fun i => l.length - i) (0) ⟨Nat.zero_le _, by simp⟩ ?_ ?_
  · exact Weak.mk ⟨⟨by first | rfl | exact i64_eq (by omega) | exact str_eq (by simp) | (simp; done), by first | rfl | (refine AV.refs_ok (lv := lv) ?_; simp [AV.ok, AV.oks, *]; done)⟩, ⟨by first | rfl | exact i64_eq (by omega) | exact str_eq (by simp) | (simp; done), by first | rfl | (refine AV.refs_ok (lv := lv) ?_; simp [AV.ok, AV.oks, *]; done)⟩, ⟨by first | rfl | exact i64_eq (by omega) | exact str_eq (by simp) | (simp; done), by first | rfl | (refine AV.refs_ok (lv := lv) ?_; simp [AV.ok, AV.oks, *]; done)⟩, ⟨by first | rfl | exact i64_eq (by omega) | exact str_eq (by simp) | (simp; done), by first | rfl | (refine AV.refs_ok (lv := lv) ?_; simp [AV.ok, AV.oks, *]; done)⟩, trivial⟩ trivial
  · rintro i ⟨hi, hI⟩
    refine AWp.seq ?_
    refine AWp.region ?_
    refine AOps.dec rfl rfl (ok_bin rfl rfl rfl br_lss rfl rfl) (fun h2_0 => ?_) (fun h2_0 => ?_)
    · skip
      refine AOps.nil ?_
      refine AWp.seq ?_
      refine AWp.cond_t rfl ?_
      refine AWp.skip ?_
      refine AWp.seq ?_
      refine AWp.block ?_
      refine AWp.seq ?_
      refine AWp.region ?_
      refine AOps.cons rfl rfl (ok_move rfl (by conv => lhs; whnf) rfl rfl) ?_
      refine AOps.cons rfl rfl (ok_assign rfl (by conv => lhs; whnf) rfl rfl) ?_
      refine AOps.nil ?_
      refine AWp.seq ?_
      refine AWp.region ?_
      refine AOps.cons rfl rfl (ok_move rfl (by conv => lhs; whnf) rfl rfl) ?_
      refine AOps.cons rfl rfl (ok_move rfl (by conv => lhs; whnf) rfl rfl) ?_
      refine AOps.cons rfl rfl (ok_move rfl (by conv => lhs; whnf) rfl rfl) ?_
      refine AOps.cons rfl rfl (by first | exact ok_indexAddr_map te_ok rfl rfl rfl rfl rfl rfl rfl (by first | omega | exact Nat.le_of_ble_eq_true rfl | (simp; omega) | decide | (simp [*]; done)) (by first | omega | exact Nat.le_of_ble_eq_true rfl | (simp; omega) | decide | (simp [*]; done)) rfl rfl | exact ok_indexAddr_ptr te_ok rfl rfl rfl rfl rfl rfl (by first | omega | exact Nat.le_of_ble_eq_true rfl | (simp; omega) | decide | (simp [*]; done)) (by first | omega | exact Nat.le_of_ble_eq_true rfl | (simp; omega) | decide | (simp [*]; done)) rfl rfl rfl rfl | exact ok_indexAddr_sl te_ok rfl rfl rfl rfl rfl rfl (by first | omega | exact Nat.le_of_ble_eq_true rfl | (simp; omega) | decide | (simp [*]; done)) (by first | omega | exact Nat.le_of_ble_eq_true rfl | (simp; omega) | decide | (simp [*]; done)) rfl rfl rfl rfl | exact ok_indexAddr_fz te_ok rfl rfl rfl rfl rfl rfl (by first | omega | exact Nat.le_of_ble_eq_true rfl | (simp; omega) | decide | (simp [*]; done)) (by first | omega | exact Nat.le_of_ble_eq_true rfl | (simp; omega) | decide | (simp [*]; done)) rfl rfl (by decide) rfl rfl) ?_
      refine AOps.cons rfl rfl (by first | exact ok_load_ptr te_ok rfl rfl rfl rfl rfl rfl rfl (by decide) (by conv => lhs; whnf) rfl rfl | exact ok_load_fp te_ok rfl rfl rfl rfl (by decide) (by conv => lhs; whnf) rfl rfl) ?_
      refine AOps.bool rfl rfl (ok_call lv rfl rfl (hg _ (getD_mem (by omega))) ⟨fv_ok (hf _ (getD_mem (by omega))), fvs_ok hcaps⟩ (by first | rfl | (simp [AV.ok, AV.oks]; done)) rfl rfl) (fun h4_5 => ?_) (fun h4_5 => ?_)
      · skip
        refine AOps.nil ?_
        refine AWp.cond_t rfl ?_
        refine AWp.seq ?_
        refine AWp.region ?_
        refine AOps.cons rfl rfl (ok_move rfl (by conv => lhs; whnf) rfl rfl) ?_
        refine AOps.cons rfl rfl (ok_assign rfl (by conv => lhs; whnf) rfl rfl) ?_
        refine AOps.nil ?_
        refine AWp.ret ?_
        show Fin te Try.f36 _ _
        refine Fin.ret2 (xs := [_]) (ys := [_]) lv ⟨res_tmp (by conv => lhs; whnf), trivial⟩ ⟨(by first | exact fv_ok rfl | (refine fv_ok ?_; simp [AV.ok, AV.oks]; done) | exact fv_row rfl rfl (by first | rfl | (simp [AV.oks_append, AV.oks_cons, AV.oks_nil, AV.ok_v, AV.ok_fz, AV.ok_fp, bs_oks]; done)) (by first | omega | exact Nat.le_of_ble_eq_true rfl | (simp; omega) | decide | (simp [*]; done)) (by decide) rfl), trivial⟩ ?_
        exact i64_eq (idx_at (by omega) hI h4_5).symm
      · skip
        refine AOps.nil ?_
        refine AWp.cond_f rfl ?_
        refine AWp.skip ?_
        refine AWp.region ?_
        refine AOps.cons rfl rfl (ok_bin rfl rfl rfl (bi_add (by first | omega | exact Nat.le_of_ble_eq_true rfl | (simp; omega) | decide | (simp [*]; done)) (by first | omega | exact Nat.le_of_ble_eq_true rfl | (simp; omega) | decide | (simp [*]; done))) rfl rfl) ?_
        refine AOps.cons rfl rfl (ok_move rfl (by conv => lhs; whnf) rfl rfl) ?_
        refine AOps.nil ?_
        refine ⟨i + 1, ⟨by omega, idx_step (by omega) hI h4_5⟩, ?_, (by first | omega | exact Nat.le_of_ble_eq_true rfl | (simp; omega) | decide | (simp [*]; done))⟩
        exact Weak.mk ⟨⟨by first | rfl | exact i64_eq (by omega) | exact str_eq (by simp) | (simp; done), by first | rfl | (refine AV.refs_ok (lv := lv) ?_; simp [AV.ok, AV.oks, *]; done)⟩, ⟨by first | rfl | exact i64_eq (by omega) | exact str_eq (by simp) | (simp; done), by first | rfl | (refine AV.refs_ok (lv := lv) ?_; simp [AV.ok, AV.oks, *]; done)⟩, ⟨by first | rfl | exact i64_eq (by omega) | exact str_eq (by simp) | (simp; done), by first | rfl | (refine AV.refs_ok (lv := lv) ?_; simp [AV.ok, AV.oks, *]; done)⟩, ⟨by first | rfl | exact i64_eq (by omega) | exact str_eq (by simp) | (simp; done), by first | rfl | (refine AV.refs_ok (lv := lv) ?_; simp [AV.ok, AV.oks, *]; done)⟩, trivial⟩ trivial
    · skip
      refine AOps.nil ?_
      refine AWp.seq ?_
      refine AWp.cond_f rfl ?_
      refine AWp.exit ?_
      refine AWp.seq ?_
      refine AWp.region ?_
      refine AOps.cons rfl rfl (ok_assign rfl (by conv => lhs; whnf) rfl rfl) ?_
      refine AOps.nil ?_
      refine AWp.ret ?_
      show Fin te Try.f36 _ _
      refine Fin.ret2 (xs := [_]) (ys := [_]) lv ⟨res_tmp (by conv => lhs; whnf), trivial⟩ ⟨(by first | exact fv_ok rfl | (refine fv_ok ?_; simp [AV.ok, AV.oks]; done) | exact fv_row rfl rfl (by first | rfl | (simp [AV.oks_append, AV.oks_cons, AV.oks_nil, AV.ok_v, AV.ok_fz, AV.ok_fp, bs_oks]; done)) (by first | omega | exact Nat.le_of_ble_eq_true rfl | (simp; omega) | decide | (simp [*]; done)) (by decide) rfl), trivial⟩ ?_
      exact i64_eq (idx_none (by rwa [List.take_of_length_le (by omega)] at hI)).symm

set_option maxRecDepth 20000 in
theorem c_ContainsFunc {fid : Nat} (l : List Int) (caps : List AV) (lv : Nat) (g : Int → Bool) (hl : l.length ≤ 9223372036854775806) (hcaps : AV.oks lv caps = true) (hf : ∀ x ∈ l, (fun x => (fun n : Int => i64 n) x) x |>.ok lv) (hg : ∀ x ∈ l, AC Try.prog fid ((fun n : Int => i64 n) x :: caps) emp (Ret (tf (g x)))) : AC Try.prog 34 [.fz lv l.length (l.map (fun n : Int => i64 n)), .fn (.func fid) [] caps] emp (Ret (tf (l.any g))) := by
  refine AC.intro te_ok (fn := Try.f34) ⟨Try.func34, rfl, rfl⟩ (Nat.le_of_ble_eq_true rfl) ?_
  refine AWp.seq ?_
  refine AWp.region ?_
  refine AOps.cons rfl rfl (ok_assign rfl (by conv => lhs; whnf) rfl rfl) ?_
  refine AOps.nil ?_
  refine AWp.seq ?_
  refine AWp.region ?_
  refine AOps.cons rfl rfl (ok_move rfl (by conv => lhs; whnf) rfl rfl) ?_
  refine AOps.cons rfl rfl (ok_move rfl (by conv => lhs; whnf) rfl rfl) ?_
  refine AOps.cons rfl rfl (ok_call lv rfl rfl (c_IndexFunc l caps lv g hl hcaps hf hg) ⟨(by first | exact fv_ok rfl | (refine fv_ok ?_; simp [AV.ok, AV.oks]; done) | exact fv_nil | (refine fv_up ?_ ?_ <;> omega) | exact fv_row rfl rfl (by first | rfl | (simp [AV.oks_append, AV.oks_cons, AV.oks_nil, AV.ok_v, AV.ok_fz, AV.ok_fp, bs_oks]; done)) (by first | omega | exact Nat.le_of_ble_eq_true rfl | (simp; omega) | decide | (simp [*]; done)) (by decide) (by first | rfl | (simp; done) | (simp; rfl) | (simp [bs]; done)) | exact fv_ptr rfl rfl (by first | rfl | (simp [AV.oks_append, AV.oks_cons, AV.oks_nil, AV.ok_v, AV.ok_fz, AV.ok_fp, bs_oks]; done)) (by first | omega | exact Nat.le_of_ble_eq_true rfl | (simp; omega) | decide | (simp [*]; done)) rfl | (refine fv_fn trivial ⟨?_, trivial⟩ <;> (first | exact fv_ok rfl | (refine fv_ok ?_; simp [AV.ok, AV.oks]; done) | exact fv_nil | (refine fv_up ?_ ?_ <;> omega) | exact fv_row rfl rfl (by first | rfl | (simp [AV.oks_append, AV.oks_cons, AV.oks_nil, AV.ok_v, AV.ok_fz, AV.ok_fp, bs_oks]; done)) (by first | omega | exact Nat.le_of_ble_eq_true rfl | (simp; omega) | decide | (simp [*]; done)) (by decide) (by first | rfl | (simp; done) | (simp; rfl) | (simp [bs]; done)) | exact fv_ptr rfl rfl (by first | rfl | (simp [AV.oks_append, AV.oks_cons, AV.oks_nil, AV.ok_v, AV.ok_fz, AV.ok_fp, bs_oks]; done)) (by first | omega | exact Nat.le_of_ble_eq_true rfl | (simp; omega) | decide | (simp [*]; done)) rfl)) | (refine fv_fn trivial ⟨?_, ?_, trivial⟩ <;> (first | exact fv_ok rfl | (refine fv_ok ?_; simp [AV.ok, AV.oks]; done) | exact fv_nil | (refine fv_up ?_ ?_ <;> omega) | exact fv_row rfl rfl (by first | rfl | (simp [AV.oks_append, AV.oks_cons, AV.oks_nil, AV.ok_v, AV.ok_fz, AV.ok_fp, bs_oks]; done)) (by first | omega | exact Nat.le_of_ble_eq_true rfl | (simp; omega) | decide | (simp [*]; done)) (by decide) (by first | rfl | (simp; done) | (simp; rfl) | (simp [bs]; done)) | exact fv_ptr rfl rfl (by first | rfl | (simp [AV.oks_append, AV.oks_cons, AV.oks_nil, AV.ok_v, AV.ok_fz, AV.ok_fp, bs_oks]; done)) (by first | omega | exact Nat.le_of_ble_eq_true rfl | (simp; omega) | decide | (simp [*]; done)) rfl)) | (refine fv_fn trivial ⟨?_, ?_, ?_, trivial⟩ <;> (first | exact fv_ok rfl | (refine fv_ok ?_; simp [AV.ok, AV.oks]; done) | exact fv_nil | (refine fv_up ?_ ?_ <;> omega) | exact fv_row rfl rfl (by first | rfl | (simp [AV.oks_append, AV.oks_cons, AV.oks_nil, AV.ok_v, AV.ok_fz, AV.ok_fp, bs_oks]; done)) (by first | omega | exact Nat.le_of_ble_eq_true rfl | (simp; omega) | decide | (simp [*]; done)) (by decide) (by first | rfl | (simp; done) | (simp; rfl) | (simp [bs]; done)) | exact fv_ptr rfl rfl (by first | rfl | (simp [AV.oks_append, AV.oks_cons, AV.oks_nil, AV.ok_v, AV.ok_fz, AV.ok_fp, bs_oks]; done)) (by first | omega | exact Nat.le_of_ble_eq_true rfl | (simp; omega) | decide | (simp [*]; done)) rfl))), fv_ok (a := .fn (.func fid) [] caps) (by simp [AV.ok, AV.oks, hcaps]), trivial⟩ (by first | rfl | (simp [AV.ok, AV.oks]; done)) rfl rfl) ?_
  refine AOps.cons rfl rfl (ok_bin rfl rfl rfl br_geq rfl rfl) ?_
  refine AOps.cons rfl rfl (ok_assign rfl (by conv => lhs; whnf) rfl rfl) ?_
  refine AOps.nil ?_
  refine AWp.ret ?_
  show Fin te Try.f34 _ _
  refine Fin.ret2 (xs := [_]) (ys := [_]) lv ⟨res_tmp (by conv => lhs; whnf), trivial⟩ ⟨(by first | exact fv_ok rfl | (refine fv_ok ?_; simp [AV.ok, AV.oks]; done) | exact fv_row rfl rfl (by first | rfl | (simp [AV.oks_append, AV.oks_cons, AV.oks_nil, AV.ok_v, AV.ok_fz, AV.ok_fp, bs_oks]; done)) (by first | omega | exact Nat.le_of_ble_eq_true rfl | (simp; omega) | decide | (simp [*]; done)) (by decide) rfl), trivial⟩ ?_
  exact congrArg tf idx_any


def wideB (b : Nat) (n : Int) : Bool := decide (n < 0) || decide (n ≥ 1 * 2 ^ b)
theorem wideB4 {n : Int} : wideB 4 n = false ↔ 0 ≤ n ∧ n ≤ 15 := by simp [wideB]; omega
theorem wideB16 {n : Int} : wideB 16 n = false ↔ 0 ≤ n ∧ n ≤ 65535 := by simp [wideB]; omega
theorem pow_le {b : Nat} (hb : b ≤ 16) : 0 ≤ (2 : Int) ^ b ∧ (2 : Int) ^ b ≤ 65536 := by
  have h : ∀ b : _root_.Fin 17, 0 ≤ (2 : Int) ^ b.val ∧ (2 : Int) ^ b.val ≤ 65536 := by decide
  exact h ⟨b, by omega⟩
structure Hd where
  id : Int
  resp : Bool
  op : Int
  aa : Bool
  tc : Bool
  rd : Bool
  ra : Bool
  code : Int
abbrev Hd.cells (h : Hd) : List AV := [i64 h.id, tf h.resp, i64 h.op, tf h.aa, tf h.tc, tf h.rd, tf h.ra, i64 h.code]
def Hd.can (h : Hd) (c0 c1 c2 c3 : Int) : Prop := (0 ≤ h.id ∧ h.id ≤ 65535) ∧ (0 ≤ h.op ∧ h.op ≤ 15) ∧ (0 ≤ h.code ∧ h.code ≤ 15) ∧ (0 ≤ c0 ∧ c0 ≤ 65535) ∧ (0 ≤ c1 ∧ c1 ≤ 65535) ∧ (0 ≤ c2 ∧ c2 ≤ 65535) ∧ (0 ≤ c3 ∧ c3 ≤ 65535)
instance (h : Hd) (c0 c1 c2 c3 : Int) : Decidable (h.can c0 c1 c2 c3) := by unfold Hd.can; infer_instance
def Hd.flN (h : Hd) (i : Nat) : Int := h.op * 2048 + h.code + (if 0 < i ∧ h.resp = true then 32768 else 0) + (if 1 < i ∧ h.aa = true then 1024 else 0) + (if 2 < i ∧ h.tc = true then 512 else 0) + (if 3 < i ∧ h.rd = true then 256 else 0) + (if 4 < i ∧ h.ra = true then 128 else 0)
def two (n : Int) : List UInt8 := [byte (n / 2 ^ 8), byte n]
def Hd.nums (h : Hd) (c0 c1 c2 c3 : Int) : List Int := [h.id, h.flN 5, c0, c1, c2, c3]
def Hd.bytes (h : Hd) (c0 c1 c2 c3 : Int) : List UInt8 := (h.nums c0 c1 c2 c3).flatMap two
theorem Hd.bytes_length (h : Hd) (c0 c1 c2 c3 : Int) : (h.bytes c0 c1 c2 c3).length = 12 := rfl
def hEnc (h : Hd) (c0 c1 c2 c3 : Int) : AV := if h.can c0 c1 c2 c3 then .tup [.fz 0 12 (bs (h.bytes c0 c1 c2 c3)), i64 0] else .tup [.fz 0 0 [], i64 1]
theorem can_iff {h : Hd} {c0 c1 c2 c3 : Int} : h.can c0 c1 c2 c3 ↔ wideB 16 h.id = false ∧ (wideB 4 h.op = false ∧ wideB 4 h.code = false) ∧ wideB 16 c0 = false ∧ wideB 16 c1 = false ∧ wideB 16 c2 = false ∧ wideB 16 c3 = false := by
  simp only [wideB16, wideB4, Hd.can, and_assoc]
theorem or_pow (x k : Nat) (h : x / 2 ^ k % 2 = 0) : x ||| 2 ^ k = x + 2 ^ k := by
  have h1 : x = 2 ^ (k + 1) * (x / 2 ^ (k + 1)) + x % 2 ^ k := by
    have e1 := Nat.div_add_mod x (2 ^ k)
    have e2 := Nat.div_add_mod (x / 2 ^ k) 2
    rw [h, Nat.add_zero, Nat.div_div_eq_div_mul, ← Nat.pow_succ] at e2
    rw [Nat.pow_succ, Nat.mul_assoc, ← Nat.pow_succ, e2]
    exact e1.symm
  have hlt : x % 2 ^ k < 2 ^ k := Nat.mod_lt _ (Nat.two_pow_pos k)
  generalize hq : x / 2 ^ (k + 1) = q at h1
  generalize hr : x % 2 ^ k = r at h1 hlt
  subst h1
  have e3 : 2 ^ (k + 1) = 2 ^ k * 2 := Nat.pow_succ ..
  rw [Nat.two_pow_add_eq_or_of_lt (by omega : r < 2 ^ (k + 1)) q, Nat.or_assoc]
  have e4 : r ||| 2 ^ k = 2 ^ k * 1 + r := by
    rw [Nat.two_pow_add_eq_or_of_lt hlt 1, Nat.mul_one, Nat.or_comm]
  rw [e4, ← Nat.two_pow_add_eq_or_of_lt (by omega : 2 ^ k * 1 + r < 2 ^ (k + 1)) q, ← Nat.two_pow_add_eq_or_of_lt (by omega : r < 2 ^ (k + 1)) q]
  omega
theorem or_int {x : Int} {k : Nat} {m : Int} (h0 : 0 ≤ x) (hm : m = 2 ^ k) (h : x.toNat / 2 ^ k % 2 = 0) : ((x.toNat ||| m.toNat : Nat) : Int) = x + m := by
  subst hm
  have : ((2 : Int) ^ k).toNat = 2 ^ k := by
    have : (2 : Int) ^ k = ((2 ^ k : Nat) : Int) := by simp
    rw [this, Int.toNat_natCast]
  rw [this, or_pow _ _ h]
  simp
  omega
theorem fl_start {h : Hd} (hop : 0 ≤ h.op ∧ h.op ≤ 15) (hco : 0 ≤ h.code ∧ h.code ≤ 15) : (((h.op * 2 ^ 11).toNat ||| h.code.toNat : Nat) : Int) = h.op * 2048 + h.code := by
  have e : (h.op * 2 ^ 11).toNat = 2 ^ 11 * h.op.toNat := by omega
  rw [e, ← Nat.two_pow_add_eq_or_of_lt (by omega : h.code.toNat < 2 ^ 11) h.op.toNat]
  omega
theorem fl_start' {h : Hd} (hop : 0 ≤ h.op ∧ h.op ≤ 15) (hco : 0 ≤ h.code ∧ h.code ≤ 15) : (((h.op * 2 ^ 11).toNat ||| h.code.toNat : Nat) : Int) = h.flN 0 := by
  rw [fl_start hop hco]
  simp [Hd.flN]
theorem Hd.fl_pos {h : Hd} (hop : 0 ≤ h.op ∧ h.op ≤ 15) (hco : 0 ≤ h.code ∧ h.code ≤ 15) (i : Nat) : 0 ≤ h.flN i ∧ h.flN i ≤ 65535 := by
  unfold Hd.flN
  repeat' split
  all_goals omega
theorem Hd.fl0 {h : Hd} (hop : 0 ≤ h.op ∧ h.op ≤ 15) (hco : 0 ≤ h.code ∧ h.code ≤ 15) (hb : h.resp = true) : (((h.flN 0).toNat ||| (32768 : Int).toNat : Nat) : Int) = h.flN 1 := by
  rw [or_int (k := 15) (hop.1 |> fun _ => (Hd.fl_pos hop hco 0).1) (by decide) (by simp [Hd.flN]; omega)]
  simp [Hd.flN, hb]
theorem Hd.fl1 {h : Hd} (hop : 0 ≤ h.op ∧ h.op ≤ 15) (hco : 0 ≤ h.code ∧ h.code ≤ 15) (hb : h.aa = true) : (((h.flN 1).toNat ||| (1024 : Int).toNat : Nat) : Int) = h.flN 2 := by
  rw [or_int (k := 10) (Hd.fl_pos hop hco 1).1 (by decide) (by cases hr : h.resp <;> simp [Hd.flN, hr] <;> omega)]
  simp [Hd.flN, hb]
theorem Hd.fl2 {h : Hd} (hop : 0 ≤ h.op ∧ h.op ≤ 15) (hco : 0 ≤ h.code ∧ h.code ≤ 15) (hb : h.tc = true) : (((h.flN 2).toNat ||| (512 : Int).toNat : Nat) : Int) = h.flN 3 := by
  rw [or_int (k := 9) (Hd.fl_pos hop hco 2).1 (by decide) (by cases hr : h.resp <;> cases ha : h.aa <;> simp [Hd.flN, hr, ha] <;> omega)]
  simp [Hd.flN, hb]
theorem Hd.fl3 {h : Hd} (hop : 0 ≤ h.op ∧ h.op ≤ 15) (hco : 0 ≤ h.code ∧ h.code ≤ 15) (hb : h.rd = true) : (((h.flN 3).toNat ||| (256 : Int).toNat : Nat) : Int) = h.flN 4 := by
  rw [or_int (k := 8) (Hd.fl_pos hop hco 3).1 (by decide) (by cases hr : h.resp <;> cases ha : h.aa <;> cases ht : h.tc <;> simp [Hd.flN, hr, ha, ht] <;> omega)]
  simp [Hd.flN, hb]
theorem Hd.fl4 {h : Hd} (hop : 0 ≤ h.op ∧ h.op ≤ 15) (hco : 0 ≤ h.code ∧ h.code ≤ 15) (hb : h.ra = true) : (((h.flN 4).toNat ||| (128 : Int).toNat : Nat) : Int) = h.flN 5 := by
  rw [or_int (k := 7) (Hd.fl_pos hop hco 4).1 (by decide) (by cases hr : h.resp <;> cases ha : h.aa <;> cases ht : h.tc <;> cases hd : h.rd <;> simp [Hd.flN, hr, ha, ht, hd] <;> omega)]
  simp [Hd.flN, hb]
theorem Hd.fl_skip {h : Hd} (i : Nat) (hb : (i = 0 → h.resp = false) ∧ (i = 1 → h.aa = false) ∧ (i = 2 → h.tc = false) ∧ (i = 3 → h.rd = false) ∧ (i = 4 → h.ra = false)) : h.flN i = h.flN (i + 1) := by
  obtain ⟨h0, h1, h2, h3, h4⟩ := hb
  rcases i with _ | _ | _ | _ | _ | i
  · simp [Hd.flN, h0 rfl]
  · simp [Hd.flN, h1 rfl]
  · simp [Hd.flN, h2 rfl]
  · simp [Hd.flN, h3 rfl]
  · simp [Hd.flN, h4 rfl]
  · simp [Hd.flN]

set_option maxRecDepth 20000 in
theorem c_header_wide_1 (n : Int) (b lv : Nat) (hb : b ≤ 16) : AC Try.prog 35 [i64 n, .fp lv [i64 b]] emp (Ret (tf (wideB b n))) := by
  have hp := pow_le hb
  refine AC.intro te_ok (fn := Try.f35) ⟨Try.func35, rfl, rfl⟩ (Nat.le_of_ble_eq_true rfl) ?_
  refine AWp.seq ?_
  refine AWp.region ?_
  refine AOps.cons rfl rfl (ok_assign rfl (by conv => lhs; whnf) rfl rfl) ?_
  refine AOps.nil ?_
  refine AWp.seq ?_
  refine AWp.region ?_
  refine AOps.cons rfl rfl (ok_move rfl (by conv => lhs; whnf) rfl rfl) ?_
  refine AOps.dec rfl rfl (ok_bin rfl rfl rfl br_lss rfl rfl) (fun h1_1 => ?_) (fun h1_1 => ?_)
  · skip
    refine AOps.cons rfl rfl (ok_move rfl (by conv => lhs; whnf) rfl rfl) ?_
    refine AOps.gskip rfl rfl rfl rfl rfl rfl rfl rfl ?_
    refine AOps.gskip rfl rfl rfl rfl rfl rfl rfl rfl ?_
    refine AOps.gskip rfl rfl rfl rfl rfl rfl rfl rfl ?_
    refine AOps.gskip rfl rfl rfl rfl rfl rfl rfl rfl ?_
    refine AOps.cons rfl rfl (ok_pick rfl rfl (by conv => lhs; whnf) rfl rfl) ?_
    refine AOps.cons rfl rfl (ok_assign rfl (by conv => lhs; whnf) rfl rfl) ?_
    refine AOps.nil ?_
    refine AWp.ret ?_
    show Fin te Try.f35 _ _
    refine Fin.ret2 (xs := [_]) (ys := [_]) 0 ⟨res_tmp (by conv => lhs; whnf), trivial⟩ ⟨(by first | exact fv_ok rfl | (refine fv_ok ?_; simp [AV.ok, AV.oks]; done) | exact fv_row rfl rfl (by first | rfl | (simp [AV.oks_append, AV.oks_cons, AV.oks_nil, AV.ok_v, AV.ok_fz, AV.ok_fp, bs_oks]; done)) (by first | omega | exact Nat.le_of_ble_eq_true rfl | (simp; omega) | decide | (simp [*]; done)) (by decide) rfl), trivial⟩ ?_
    simp [wideB, h1_1, resVal]
  · skip
    refine AOps.cons rfl rfl (ok_move rfl (by conv => lhs; whnf) rfl rfl) ?_
    refine AOps.gcons rfl rfl rfl rfl rfl (ok_move rfl (by conv => lhs; whnf) rfl rfl) ?_
    refine AOps.gcons rfl rfl rfl rfl rfl (by first | exact ok_load_ptr te_ok rfl rfl rfl rfl rfl rfl rfl (by decide) (by conv => lhs; whnf) rfl rfl | exact ok_load_fp te_ok rfl rfl rfl rfl (by decide) (by conv => lhs; whnf) rfl rfl) ?_
    refine AOps.gcons rfl rfl rfl rfl rfl (ok_bin rfl rfl rfl (bi_shl (m := b) rfl (by omega) (by omega) (by omega)) rfl rfl) ?_
    refine AOps.gcons rfl rfl rfl rfl rfl (ok_bin rfl rfl rfl br_geq rfl rfl) ?_
    refine AOps.cons rfl rfl (ok_pick rfl rfl (by conv => lhs; whnf) rfl rfl) ?_
    refine AOps.cons rfl rfl (ok_assign rfl (by conv => lhs; whnf) rfl rfl) ?_
    refine AOps.nil ?_
    refine AWp.ret ?_
    show Fin te Try.f35 _ _
    refine Fin.ret2 (xs := [_]) (ys := [_]) 0 ⟨res_tmp (by conv => lhs; whnf), trivial⟩ ⟨(by first | exact fv_ok rfl | (refine fv_ok ?_; simp [AV.ok, AV.oks]; done) | exact fv_row rfl rfl (by first | rfl | (simp [AV.oks_append, AV.oks_cons, AV.oks_nil, AV.ok_v, AV.ok_fz, AV.ok_fp, bs_oks]; done)) (by first | omega | exact Nat.le_of_ble_eq_true rfl | (simp; omega) | decide | (simp [*]; done)) (by decide) rfl), trivial⟩ ?_
    simp [wideB, h1_1, resVal]

set_option maxRecDepth 20000 in
theorem c_header_wide (b : Nat) (l : List Int) (lv : Nat) (hb : b ≤ 16) (hl : l.length ≤ 9223372036854775806) : AC Try.prog 29 [i64 b, .fz lv l.length (l.map fun n => i64 n)] emp (Ret (tf (l.any (wideB b)))) := by
  refine AC.intro te_ok (fn := Try.f29) ⟨Try.func29, rfl, rfl⟩ (Nat.le_of_ble_eq_true rfl) ?_
  refine AWp.seq ?_
  refine AWp.region ?_
  refine AOps.cons rfl rfl (ok_box (id := 100) te_ok rfl (by conv => lhs; whnf) rfl rfl rfl rfl) ?_
  refine AOps.cons rfl rfl (ok_assign rfl (by conv => lhs; whnf) rfl rfl) ?_
  refine AOps.nil ?_
  refine AWp.seq ?_
  refine AWp.region ?_
  refine AOps.cons rfl rfl (ok_move rfl (by conv => lhs; whnf) rfl rfl) ?_
  refine AOps.cons rfl rfl (ok_makeFunc (fv := []) (cv := [_]) rfl trivial ⟨(by conv => lhs; whnf), trivial⟩ rfl rfl) ?_
  refine AOps.cons rfl rfl (ok_call lv rfl rfl (c_ContainsFunc l [.fp (lv + 1) [i64 b]] (lv + 1) (wideB b) hl (by simp [AV.ok, AV.oks]) (fun _ _ => rfl) (fun n _ => c_header_wide_1 n b (lv + 1) hb)) ⟨fv_up (by omega) (by omega), (by first | exact fv_ok rfl | (refine fv_ok ?_; simp [AV.ok, AV.oks]; done) | exact fv_nil | (refine fv_up ?_ ?_ <;> omega) | exact fv_row rfl rfl (by first | rfl | (simp [AV.oks_append, AV.oks_cons, AV.oks_nil, AV.ok_v, AV.ok_fz, AV.ok_fp, bs_oks]; done)) (by first | omega | exact Nat.le_of_ble_eq_true rfl | (simp; omega) | decide | (simp [*]; done)) (by decide) (by first | rfl | (simp; done) | (simp; rfl) | (simp [bs]; done)) | exact fv_ptr rfl rfl (by first | rfl | (simp [AV.oks_append, AV.oks_cons, AV.oks_nil, AV.ok_v, AV.ok_fz, AV.ok_fp, bs_oks]; done)) (by first | omega | exact Nat.le_of_ble_eq_true rfl | (simp; omega) | decide | (simp [*]; done)) rfl | (refine fv_fn trivial ⟨?_, trivial⟩ <;> (first | exact fv_ok rfl | (refine fv_ok ?_; simp [AV.ok, AV.oks]; done) | exact fv_nil | (refine fv_up ?_ ?_ <;> omega) | exact fv_row rfl rfl (by first | rfl | (simp [AV.oks_append, AV.oks_cons, AV.oks_nil, AV.ok_v, AV.ok_fz, AV.ok_fp, bs_oks]; done)) (by first | omega | exact Nat.le_of_ble_eq_true rfl | (simp; omega) | decide | (simp [*]; done)) (by decide) (by first | rfl | (simp; done) | (simp; rfl) | (simp [bs]; done)) | exact fv_ptr rfl rfl (by first | rfl | (simp [AV.oks_append, AV.oks_cons, AV.oks_nil, AV.ok_v, AV.ok_fz, AV.ok_fp, bs_oks]; done)) (by first | omega | exact Nat.le_of_ble_eq_true rfl | (simp; omega) | decide | (simp [*]; done)) rfl)) | (refine fv_fn trivial ⟨?_, ?_, trivial⟩ <;> (first | exact fv_ok rfl | (refine fv_ok ?_; simp [AV.ok, AV.oks]; done) | exact fv_nil | (refine fv_up ?_ ?_ <;> omega) | exact fv_row rfl rfl (by first | rfl | (simp [AV.oks_append, AV.oks_cons, AV.oks_nil, AV.ok_v, AV.ok_fz, AV.ok_fp, bs_oks]; done)) (by first | omega | exact Nat.le_of_ble_eq_true rfl | (simp; omega) | decide | (simp [*]; done)) (by decide) (by first | rfl | (simp; done) | (simp; rfl) | (simp [bs]; done)) | exact fv_ptr rfl rfl (by first | rfl | (simp [AV.oks_append, AV.oks_cons, AV.oks_nil, AV.ok_v, AV.ok_fz, AV.ok_fp, bs_oks]; done)) (by first | omega | exact Nat.le_of_ble_eq_true rfl | (simp; omega) | decide | (simp [*]; done)) rfl)) | (refine fv_fn trivial ⟨?_, ?_, ?_, trivial⟩ <;> (first | exact fv_ok rfl | (refine fv_ok ?_; simp [AV.ok, AV.oks]; done) | exact fv_nil | (refine fv_up ?_ ?_ <;> omega) | exact fv_row rfl rfl (by first | rfl | (simp [AV.oks_append, AV.oks_cons, AV.oks_nil, AV.ok_v, AV.ok_fz, AV.ok_fp, bs_oks]; done)) (by first | omega | exact Nat.le_of_ble_eq_true rfl | (simp; omega) | decide | (simp [*]; done)) (by decide) (by first | rfl | (simp; done) | (simp; rfl) | (simp [bs]; done)) | exact fv_ptr rfl rfl (by first | rfl | (simp [AV.oks_append, AV.oks_cons, AV.oks_nil, AV.ok_v, AV.ok_fz, AV.ok_fp, bs_oks]; done)) (by first | omega | exact Nat.le_of_ble_eq_true rfl | (simp; omega) | decide | (simp [*]; done)) rfl))), trivial⟩ (by first | rfl | (simp [AV.ok, AV.oks]; done)) rfl rfl) ?_
  refine AOps.cons rfl rfl (ok_assign rfl (by conv => lhs; whnf) rfl rfl) ?_
  refine AOps.nil ?_
  refine AWp.ret ?_
  show Fin te Try.f29 _ _
  refine Fin.ret2 (xs := [_]) (ys := [_]) lv ⟨res_tmp (by conv => lhs; whnf), trivial⟩ ⟨(by first | exact fv_ok rfl | (refine fv_ok ?_; simp [AV.ok, AV.oks]; done) | exact fv_row rfl rfl (by first | rfl | (simp [AV.oks_append, AV.oks_cons, AV.oks_nil, AV.ok_v, AV.ok_fz, AV.ok_fp, bs_oks]; done)) (by first | omega | exact Nat.le_of_ble_eq_true rfl | (simp; omega) | decide | (simp [*]; done)) (by decide) rfl), trivial⟩ ?_
  rfl

set_option maxRecDepth 20000 in
theorem c_header_Encode (h : Hd) (c0 c1 c2 c3 : Int) : AC Try.prog 16 [.agg [i64 h.id, tf h.resp, i64 h.op, tf h.aa, tf h.tc, tf h.rd, tf h.ra, i64 h.code], .agg [i64 c0, i64 c1, i64 c2, i64 c3]] emp (Ret (hEnc h c0 c1 c2 c3)) := by
  refine AC.intro te_ok (fn := Try.f16) ⟨Try.func16, rfl, rfl⟩ (Nat.le_of_ble_eq_true rfl) ?_
  refine AWp.seq ?_
  refine AWp.region ?_
  refine AOps.cons rfl rfl (ok_box (id := 100) te_ok rfl (by conv => lhs; whnf) rfl rfl rfl rfl) ?_
  refine AOps.cons rfl rfl (ok_box (id := 101) te_ok rfl (by conv => lhs; whnf) rfl rfl rfl rfl) ?_
  refine AOps.cons rfl rfl (ok_nilfz 0 (.inl rfl) rfl rfl rfl) ?_
  refine AOps.cons rfl rfl (ok_assign rfl (by conv => lhs; whnf) rfl rfl) ?_
  refine AOps.nil ?_
  refine AWp.seq ?_
  refine AWp.seq ?_
  refine AWp.region ?_
  refine AOps.cons rfl rfl (by first | exact ok_fieldAddr_ptr te_ok rfl rfl rfl rfl rfl rfl (by decide) ⟨_, rfl, rfl⟩ rfl rfl | exact ok_fieldAddr_fp te_ok rfl rfl rfl rfl rfl rfl (by decide) rfl rfl rfl rfl) ?_
  refine AOps.cons rfl rfl (by first | exact ok_load_ptr te_ok rfl rfl rfl rfl rfl rfl rfl (by decide) (by conv => lhs; whnf) rfl rfl | exact ok_load_fp te_ok rfl rfl rfl rfl (by decide) (by conv => lhs; whnf) rfl rfl) ?_
  refine AOps.cons rfl rfl (ok_buildSlice2 (id := 202) (vals := [(_, _)]) te_ok rfl ⟨rfl, (by conv => lhs; whnf), trivial⟩ rfl rfl rfl rfl rfl (by first | (simp only [List.take_succ_cons, List.take_zero, List.drop_succ_cons, List.drop_zero, List.drop_nil, List.take_nil, List.nil_append, List.cons_append, List.append_nil, List.map_cons, List.map_nil, ZC.val, repZ]; rfl) | rfl) rfl rfl rfl rfl) ?_
  refine AOps.bool rfl rfl (ok_call 0 rfl rfl (c_header_wide 16 [h.id] 1 (by decide) (by simp)) ⟨(by first | exact fv_ok rfl | (refine fv_ok ?_; simp [AV.ok, AV.oks]; done) | exact fv_nil | (refine fv_up ?_ ?_ <;> omega) | exact fv_row rfl rfl (by first | rfl | (simp [AV.oks_append, AV.oks_cons, AV.oks_nil, AV.ok_v, AV.ok_fz, AV.ok_fp, bs_oks]; done)) (by first | omega | exact Nat.le_of_ble_eq_true rfl | (simp; omega) | decide | (simp [*]; done)) (by decide) (by first | rfl | (simp; done) | (simp; rfl) | (simp [bs]; done)) | exact fv_ptr rfl rfl (by first | rfl | (simp [AV.oks_append, AV.oks_cons, AV.oks_nil, AV.ok_v, AV.ok_fz, AV.ok_fp, bs_oks]; done)) (by first | omega | exact Nat.le_of_ble_eq_true rfl | (simp; omega) | decide | (simp [*]; done)) rfl | (refine fv_fn trivial ⟨?_, trivial⟩ <;> (first | exact fv_ok rfl | (refine fv_ok ?_; simp [AV.ok, AV.oks]; done) | exact fv_nil | (refine fv_up ?_ ?_ <;> omega) | exact fv_row rfl rfl (by first | rfl | (simp [AV.oks_append, AV.oks_cons, AV.oks_nil, AV.ok_v, AV.ok_fz, AV.ok_fp, bs_oks]; done)) (by first | omega | exact Nat.le_of_ble_eq_true rfl | (simp; omega) | decide | (simp [*]; done)) (by decide) (by first | rfl | (simp; done) | (simp; rfl) | (simp [bs]; done)) | exact fv_ptr rfl rfl (by first | rfl | (simp [AV.oks_append, AV.oks_cons, AV.oks_nil, AV.ok_v, AV.ok_fz, AV.ok_fp, bs_oks]; done)) (by first | omega | exact Nat.le_of_ble_eq_true rfl | (simp; omega) | decide | (simp [*]; done)) rfl)) | (refine fv_fn trivial ⟨?_, ?_, trivial⟩ <;> (first | exact fv_ok rfl | (refine fv_ok ?_; simp [AV.ok, AV.oks]; done) | exact fv_nil | (refine fv_up ?_ ?_ <;> omega) | exact fv_row rfl rfl (by first | rfl | (simp [AV.oks_append, AV.oks_cons, AV.oks_nil, AV.ok_v, AV.ok_fz, AV.ok_fp, bs_oks]; done)) (by first | omega | exact Nat.le_of_ble_eq_true rfl | (simp; omega) | decide | (simp [*]; done)) (by decide) (by first | rfl | (simp; done) | (simp; rfl) | (simp [bs]; done)) | exact fv_ptr rfl rfl (by first | rfl | (simp [AV.oks_append, AV.oks_cons, AV.oks_nil, AV.ok_v, AV.ok_fz, AV.ok_fp, bs_oks]; done)) (by first | omega | exact Nat.le_of_ble_eq_true rfl | (simp; omega) | decide | (simp [*]; done)) rfl)) | (refine fv_fn trivial ⟨?_, ?_, ?_, trivial⟩ <;> (first | exact fv_ok rfl | (refine fv_ok ?_; simp [AV.ok, AV.oks]; done) | exact fv_nil | (refine fv_up ?_ ?_ <;> omega) | exact fv_row rfl rfl (by first | rfl | (simp [AV.oks_append, AV.oks_cons, AV.oks_nil, AV.ok_v, AV.ok_fz, AV.ok_fp, bs_oks]; done)) (by first | omega | exact Nat.le_of_ble_eq_true rfl | (simp; omega) | decide | (simp [*]; done)) (by decide) (by first | rfl | (simp; done) | (simp; rfl) | (simp [bs]; done)) | exact fv_ptr rfl rfl (by first | rfl | (simp [AV.oks_append, AV.oks_cons, AV.oks_nil, AV.ok_v, AV.ok_fz, AV.ok_fp, bs_oks]; done)) (by first | omega | exact Nat.le_of_ble_eq_true rfl | (simp; omega) | decide | (simp [*]; done)) rfl))), (by first | exact fv_ok rfl | (refine fv_ok ?_; simp [AV.ok, AV.oks]; done) | exact fv_nil | (refine fv_up ?_ ?_ <;> omega) | exact fv_row rfl rfl (by first | rfl | (simp [AV.oks_append, AV.oks_cons, AV.oks_nil, AV.ok_v, AV.ok_fz, AV.ok_fp, bs_oks]; done)) (by first | omega | exact Nat.le_of_ble_eq_true rfl | (simp; omega) | decide | (simp [*]; done)) (by decide) (by first | rfl | (simp; done) | (simp; rfl) | (simp [bs]; done)) | exact fv_ptr rfl rfl (by first | rfl | (simp [AV.oks_append, AV.oks_cons, AV.oks_nil, AV.ok_v, AV.ok_fz, AV.ok_fp, bs_oks]; done)) (by first | omega | exact Nat.le_of_ble_eq_true rfl | (simp; omega) | decide | (simp [*]; done)) rfl | (refine fv_fn trivial ⟨?_, trivial⟩ <;> (first | exact fv_ok rfl | (refine fv_ok ?_; simp [AV.ok, AV.oks]; done) | exact fv_nil | (refine fv_up ?_ ?_ <;> omega) | exact fv_row rfl rfl (by first | rfl | (simp [AV.oks_append, AV.oks_cons, AV.oks_nil, AV.ok_v, AV.ok_fz, AV.ok_fp, bs_oks]; done)) (by first | omega | exact Nat.le_of_ble_eq_true rfl | (simp; omega) | decide | (simp [*]; done)) (by decide) (by first | rfl | (simp; done) | (simp; rfl) | (simp [bs]; done)) | exact fv_ptr rfl rfl (by first | rfl | (simp [AV.oks_append, AV.oks_cons, AV.oks_nil, AV.ok_v, AV.ok_fz, AV.ok_fp, bs_oks]; done)) (by first | omega | exact Nat.le_of_ble_eq_true rfl | (simp; omega) | decide | (simp [*]; done)) rfl)) | (refine fv_fn trivial ⟨?_, ?_, trivial⟩ <;> (first | exact fv_ok rfl | (refine fv_ok ?_; simp [AV.ok, AV.oks]; done) | exact fv_nil | (refine fv_up ?_ ?_ <;> omega) | exact fv_row rfl rfl (by first | rfl | (simp [AV.oks_append, AV.oks_cons, AV.oks_nil, AV.ok_v, AV.ok_fz, AV.ok_fp, bs_oks]; done)) (by first | omega | exact Nat.le_of_ble_eq_true rfl | (simp; omega) | decide | (simp [*]; done)) (by decide) (by first | rfl | (simp; done) | (simp; rfl) | (simp [bs]; done)) | exact fv_ptr rfl rfl (by first | rfl | (simp [AV.oks_append, AV.oks_cons, AV.oks_nil, AV.ok_v, AV.ok_fz, AV.ok_fp, bs_oks]; done)) (by first | omega | exact Nat.le_of_ble_eq_true rfl | (simp; omega) | decide | (simp [*]; done)) rfl)) | (refine fv_fn trivial ⟨?_, ?_, ?_, trivial⟩ <;> (first | exact fv_ok rfl | (refine fv_ok ?_; simp [AV.ok, AV.oks]; done) | exact fv_nil | (refine fv_up ?_ ?_ <;> omega) | exact fv_row rfl rfl (by first | rfl | (simp [AV.oks_append, AV.oks_cons, AV.oks_nil, AV.ok_v, AV.ok_fz, AV.ok_fp, bs_oks]; done)) (by first | omega | exact Nat.le_of_ble_eq_true rfl | (simp; omega) | decide | (simp [*]; done)) (by decide) (by first | rfl | (simp; done) | (simp; rfl) | (simp [bs]; done)) | exact fv_ptr rfl rfl (by first | rfl | (simp [AV.oks_append, AV.oks_cons, AV.oks_nil, AV.ok_v, AV.ok_fz, AV.ok_fp, bs_oks]; done)) (by first | omega | exact Nat.le_of_ble_eq_true rfl | (simp; omega) | decide | (simp [*]; done)) rfl))), trivial⟩ (by first | rfl | (simp [AV.ok, AV.oks]; done)) rfl rfl) (fun h1_3 => ?_) (fun h1_3 => ?_)
  · skip
    refine AOps.cons rfl rfl (ok_move rfl (by conv => lhs; whnf) rfl rfl) ?_
    refine AOps.gskip rfl rfl rfl rfl rfl rfl rfl rfl ?_
    refine AOps.gskip rfl rfl rfl rfl rfl rfl rfl rfl ?_
    refine AOps.gskip rfl rfl rfl rfl rfl rfl rfl rfl ?_
    refine AOps.gskip rfl rfl rfl rfl rfl rfl rfl rfl ?_
    refine AOps.gskip rfl rfl rfl rfl rfl rfl rfl rfl ?_
    refine AOps.gskip rfl rfl rfl rfl rfl rfl rfl rfl ?_
    refine AOps.cons rfl rfl (ok_pick rfl rfl (by conv => lhs; whnf) rfl rfl) ?_
    refine AOps.cons rfl rfl (ok_move rfl (by conv => lhs; whnf) rfl rfl) ?_
    refine AOps.gskip rfl rfl rfl rfl rfl rfl rfl rfl ?_
    refine AOps.gskip rfl rfl rfl rfl rfl rfl rfl rfl ?_
    refine AOps.cons rfl rfl (ok_pick rfl rfl (by conv => lhs; whnf) rfl rfl) ?_
    refine AOps.nil ?_
    refine AWp.cond_t rfl ?_
    refine AWp.seq ?_
    refine AWp.region ?_
    refine AOps.cons rfl rfl (ok_nilfz 0 (.inl rfl) rfl rfl rfl) ?_
    refine AOps.cons rfl rfl (ok_assign rfl (by conv => lhs; whnf) rfl rfl) ?_
    refine AOps.nil ?_
    refine AWp.ret ?_
    show Fin te Try.f16 _ _
    refine Fin.ret2 (xs := [_, _]) (ys := [_, _]) 0 ⟨res_tmp (by conv => lhs; whnf), res_tmp (by conv => lhs; whnf), trivial⟩ ⟨(by first | exact fv_ok rfl | (refine fv_ok ?_; simp [AV.ok, AV.oks]; done) | exact fv_row rfl rfl (by first | rfl | (simp [AV.oks_append, AV.oks_cons, AV.oks_nil, AV.ok_v, AV.ok_fz, AV.ok_fp, bs_oks]; done)) (by first | omega | exact Nat.le_of_ble_eq_true rfl | (simp; omega) | decide | (simp [*]; done)) (by decide) rfl), (by first | exact fv_ok rfl | (refine fv_ok ?_; simp [AV.ok, AV.oks]; done) | exact fv_row rfl rfl (by first | rfl | (simp [AV.oks_append, AV.oks_cons, AV.oks_nil, AV.ok_v, AV.ok_fz, AV.ok_fp, bs_oks]; done)) (by first | omega | exact Nat.le_of_ble_eq_true rfl | (simp; omega) | decide | (simp [*]; done)) (by decide) rfl), trivial⟩ ?_
    rw [hEnc, if_neg (fun hc => by obtain ⟨q1, ⟨q2, q3⟩, q4, q5, q6, q7⟩ := can_iff.1 hc; simp [q1, q2, q3, q4, q5, q6, q7] at h1_3)]; rfl
  · skip
    refine AOps.cons rfl rfl (ok_move rfl (by conv => lhs; whnf) rfl rfl) ?_
    refine AOps.gcons rfl rfl rfl rfl rfl (by first | exact ok_fieldAddr_ptr te_ok rfl rfl rfl rfl rfl rfl (by decide) ⟨_, rfl, rfl⟩ rfl rfl | exact ok_fieldAddr_fp te_ok rfl rfl rfl rfl rfl rfl (by decide) rfl rfl rfl rfl) ?_
    refine AOps.gcons rfl rfl rfl rfl rfl (by first | exact ok_load_ptr te_ok rfl rfl rfl rfl rfl rfl rfl (by decide) (by conv => lhs; whnf) rfl rfl | exact ok_load_fp te_ok rfl rfl rfl rfl (by decide) (by conv => lhs; whnf) rfl rfl) ?_
    refine AOps.gcons rfl rfl rfl rfl rfl (by first | exact ok_fieldAddr_ptr te_ok rfl rfl rfl rfl rfl rfl (by decide) ⟨_, rfl, rfl⟩ rfl rfl | exact ok_fieldAddr_fp te_ok rfl rfl rfl rfl rfl rfl (by decide) rfl rfl rfl rfl) ?_
    refine AOps.gcons rfl rfl rfl rfl rfl (by first | exact ok_load_ptr te_ok rfl rfl rfl rfl rfl rfl rfl (by decide) (by conv => lhs; whnf) rfl rfl | exact ok_load_fp te_ok rfl rfl rfl rfl (by decide) (by conv => lhs; whnf) rfl rfl) ?_
    refine AOps.gcons rfl rfl rfl rfl rfl (ok_buildSlice2 (id := 209) (vals := [(_, _), (_, _)]) te_ok rfl ⟨rfl, (by conv => lhs; whnf), rfl, (by conv => lhs; whnf), trivial⟩ rfl rfl rfl rfl rfl (by first | (simp only [List.take_succ_cons, List.take_zero, List.drop_succ_cons, List.drop_zero, List.drop_nil, List.take_nil, List.nil_append, List.cons_append, List.append_nil, List.map_cons, List.map_nil, ZC.val, repZ]; rfl) | rfl) rfl rfl rfl rfl) ?_
    refine AOps.gbool rfl rfl rfl rfl rfl (ok_call 0 rfl rfl (c_header_wide 4 [h.op, h.code] 1 (by decide) (by simp)) ⟨(by first | exact fv_ok rfl | (refine fv_ok ?_; simp [AV.ok, AV.oks]; done) | exact fv_nil | (refine fv_up ?_ ?_ <;> omega) | exact fv_row rfl rfl (by first | rfl | (simp [AV.oks_append, AV.oks_cons, AV.oks_nil, AV.ok_v, AV.ok_fz, AV.ok_fp, bs_oks]; done)) (by first | omega | exact Nat.le_of_ble_eq_true rfl | (simp; omega) | decide | (simp [*]; done)) (by decide) (by first | rfl | (simp; done) | (simp; rfl) | (simp [bs]; done)) | exact fv_ptr rfl rfl (by first | rfl | (simp [AV.oks_append, AV.oks_cons, AV.oks_nil, AV.ok_v, AV.ok_fz, AV.ok_fp, bs_oks]; done)) (by first | omega | exact Nat.le_of_ble_eq_true rfl | (simp; omega) | decide | (simp [*]; done)) rfl | (refine fv_fn trivial ⟨?_, trivial⟩ <;> (first | exact fv_ok rfl | (refine fv_ok ?_; simp [AV.ok, AV.oks]; done) | exact fv_nil | (refine fv_up ?_ ?_ <;> omega) | exact fv_row rfl rfl (by first | rfl | (simp [AV.oks_append, AV.oks_cons, AV.oks_nil, AV.ok_v, AV.ok_fz, AV.ok_fp, bs_oks]; done)) (by first | omega | exact Nat.le_of_ble_eq_true rfl | (simp; omega) | decide | (simp [*]; done)) (by decide) (by first | rfl | (simp; done) | (simp; rfl) | (simp [bs]; done)) | exact fv_ptr rfl rfl (by first | rfl | (simp [AV.oks_append, AV.oks_cons, AV.oks_nil, AV.ok_v, AV.ok_fz, AV.ok_fp, bs_oks]; done)) (by first | omega | exact Nat.le_of_ble_eq_true rfl | (simp; omega) | decide | (simp [*]; done)) rfl)) | (refine fv_fn trivial ⟨?_, ?_, trivial⟩ <;> (first | exact fv_ok rfl | (refine fv_ok ?_; simp [AV.ok, AV.oks]; done) | exact fv_nil | (refine fv_up ?_ ?_ <;> omega) | exact fv_row rfl rfl (by first | rfl | (simp [AV.oks_append, AV.oks_cons, AV.oks_nil, AV.ok_v, AV.ok_fz, AV.ok_fp, bs_oks]; done)) (by first | omega | exact Nat.le_of_ble_eq_true rfl | (simp; omega) | decide | (simp [*]; done)) (by decide) (by first | rfl | (simp; done) | (simp; rfl) | (simp [bs]; done)) | exact fv_ptr rfl rfl (by first | rfl | (simp [AV.oks_append, AV.oks_cons, AV.oks_nil, AV.ok_v, AV.ok_fz, AV.ok_fp, bs_oks]; done)) (by first | omega | exact Nat.le_of_ble_eq_true rfl | (simp; omega) | decide | (simp [*]; done)) rfl)) | (refine fv_fn trivial ⟨?_, ?_, ?_, trivial⟩ <;> (first | exact fv_ok rfl | (refine fv_ok ?_; simp [AV.ok, AV.oks]; done) | exact fv_nil | (refine fv_up ?_ ?_ <;> omega) | exact fv_row rfl rfl (by first | rfl | (simp [AV.oks_append, AV.oks_cons, AV.oks_nil, AV.ok_v, AV.ok_fz, AV.ok_fp, bs_oks]; done)) (by first | omega | exact Nat.le_of_ble_eq_true rfl | (simp; omega) | decide | (simp [*]; done)) (by decide) (by first | rfl | (simp; done) | (simp; rfl) | (simp [bs]; done)) | exact fv_ptr rfl rfl (by first | rfl | (simp [AV.oks_append, AV.oks_cons, AV.oks_nil, AV.ok_v, AV.ok_fz, AV.ok_fp, bs_oks]; done)) (by first | omega | exact Nat.le_of_ble_eq_true rfl | (simp; omega) | decide | (simp [*]; done)) rfl))), (by first | exact fv_ok rfl | (refine fv_ok ?_; simp [AV.ok, AV.oks]; done) | exact fv_nil | (refine fv_up ?_ ?_ <;> omega) | exact fv_row rfl rfl (by first | rfl | (simp [AV.oks_append, AV.oks_cons, AV.oks_nil, AV.ok_v, AV.ok_fz, AV.ok_fp, bs_oks]; done)) (by first | omega | exact Nat.le_of_ble_eq_true rfl | (simp; omega) | decide | (simp [*]; done)) (by decide) (by first | rfl | (simp; done) | (simp; rfl) | (simp [bs]; done)) | exact fv_ptr rfl rfl (by first | rfl | (simp [AV.oks_append, AV.oks_cons, AV.oks_nil, AV.ok_v, AV.ok_fz, AV.ok_fp, bs_oks]; done)) (by first | omega | exact Nat.le_of_ble_eq_true rfl | (simp; omega) | decide | (simp [*]; done)) rfl | (refine fv_fn trivial ⟨?_, trivial⟩ <;> (first | exact fv_ok rfl | (refine fv_ok ?_; simp [AV.ok, AV.oks]; done) | exact fv_nil | (refine fv_up ?_ ?_ <;> omega) | exact fv_row rfl rfl (by first | rfl | (simp [AV.oks_append, AV.oks_cons, AV.oks_nil, AV.ok_v, AV.ok_fz, AV.ok_fp, bs_oks]; done)) (by first | omega | exact Nat.le_of_ble_eq_true rfl | (simp; omega) | decide | (simp [*]; done)) (by decide) (by first | rfl | (simp; done) | (simp; rfl) | (simp [bs]; done)) | exact fv_ptr rfl rfl (by first | rfl | (simp [AV.oks_append, AV.oks_cons, AV.oks_nil, AV.ok_v, AV.ok_fz, AV.ok_fp, bs_oks]; done)) (by first | omega | exact Nat.le_of_ble_eq_true rfl | (simp; omega) | decide | (simp [*]; done)) rfl)) | (refine fv_fn trivial ⟨?_, ?_, trivial⟩ <;> (first | exact fv_ok rfl | (refine fv_ok ?_; simp [AV.ok, AV.oks]; done) | exact fv_nil | (refine fv_up ?_ ?_ <;> omega) | exact fv_row rfl rfl (by first | rfl | (simp [AV.oks_append, AV.oks_cons, AV.oks_nil, AV.ok_v, AV.ok_fz, AV.ok_fp, bs_oks]; done)) (by first | omega | exact Nat.le_of_ble_eq_true rfl | (simp; omega) | decide | (simp [*]; done)) (by decide) (by first | rfl | (simp; done) | (simp; rfl) | (simp [bs]; done)) | exact fv_ptr rfl rfl (by first | rfl | (simp [AV.oks_append, AV.oks_cons, AV.oks_nil, AV.ok_v, AV.ok_fz, AV.ok_fp, bs_oks]; done)) (by first | omega | exact Nat.le_of_ble_eq_true rfl | (simp; omega) | decide | (simp [*]; done)) rfl)) | (refine fv_fn trivial ⟨?_, ?_, ?_, trivial⟩ <;> (first | exact fv_ok rfl | (refine fv_ok ?_; simp [AV.ok, AV.oks]; done) | exact fv_nil | (refine fv_up ?_ ?_ <;> omega) | exact fv_row rfl rfl (by first | rfl | (simp [AV.oks_append, AV.oks_cons, AV.oks_nil, AV.ok_v, AV.ok_fz, AV.ok_fp, bs_oks]; done)) (by first | omega | exact Nat.le_of_ble_eq_true rfl | (simp; omega) | decide | (simp [*]; done)) (by decide) (by first | rfl | (simp; done) | (simp; rfl) | (simp [bs]; done)) | exact fv_ptr rfl rfl (by first | rfl | (simp [AV.oks_append, AV.oks_cons, AV.oks_nil, AV.ok_v, AV.ok_fz, AV.ok_fp, bs_oks]; done)) (by first | omega | exact Nat.le_of_ble_eq_true rfl | (simp; omega) | decide | (simp [*]; done)) rfl))), trivial⟩ (by first | rfl | (simp [AV.ok, AV.oks]; done)) rfl rfl) (fun h1_10 => ?_) (fun h1_10 => ?_)
    · skip
      refine AOps.cons rfl rfl (ok_pick rfl rfl (by conv => lhs; whnf) rfl rfl) ?_
      refine AOps.cons rfl rfl (ok_move rfl (by conv => lhs; whnf) rfl rfl) ?_
      refine AOps.gskip rfl rfl rfl rfl rfl rfl rfl rfl ?_
      refine AOps.gskip rfl rfl rfl rfl rfl rfl rfl rfl ?_
      refine AOps.cons rfl rfl (ok_pick rfl rfl (by conv => lhs; whnf) rfl rfl) ?_
      refine AOps.nil ?_
      refine AWp.cond_t rfl ?_
      refine AWp.seq ?_
      refine AWp.region ?_
      refine AOps.cons rfl rfl (ok_nilfz 0 (.inl rfl) rfl rfl rfl) ?_
      refine AOps.cons rfl rfl (ok_assign rfl (by conv => lhs; whnf) rfl rfl) ?_
      refine AOps.nil ?_
      refine AWp.ret ?_
      show Fin te Try.f16 _ _
      refine Fin.ret2 (xs := [_, _]) (ys := [_, _]) 0 ⟨res_tmp (by conv => lhs; whnf), res_tmp (by conv => lhs; whnf), trivial⟩ ⟨(by first | exact fv_ok rfl | (refine fv_ok ?_; simp [AV.ok, AV.oks]; done) | exact fv_row rfl rfl (by first | rfl | (simp [AV.oks_append, AV.oks_cons, AV.oks_nil, AV.ok_v, AV.ok_fz, AV.ok_fp, bs_oks]; done)) (by first | omega | exact Nat.le_of_ble_eq_true rfl | (simp; omega) | decide | (simp [*]; done)) (by decide) rfl), (by first | exact fv_ok rfl | (refine fv_ok ?_; simp [AV.ok, AV.oks]; done) | exact fv_row rfl rfl (by first | rfl | (simp [AV.oks_append, AV.oks_cons, AV.oks_nil, AV.ok_v, AV.ok_fz, AV.ok_fp, bs_oks]; done)) (by first | omega | exact Nat.le_of_ble_eq_true rfl | (simp; omega) | decide | (simp [*]; done)) (by decide) rfl), trivial⟩ ?_
      rw [hEnc, if_neg (fun hc => by obtain ⟨q1, ⟨q2, q3⟩, q4, q5, q6, q7⟩ := can_iff.1 hc; simp [q1, q2, q3, q4, q5, q6, q7] at h1_10)]; rfl
    · skip
      refine AOps.cons rfl rfl (ok_pick rfl rfl (by conv => lhs; whnf) rfl rfl) ?_
      refine AOps.cons rfl rfl (ok_move rfl (by conv => lhs; whnf) rfl rfl) ?_
      refine AOps.gcons rfl rfl rfl rfl rfl (ok_slice_arr te_ok rfl rfl rfl rfl rfl bnd_none bnd_none (by first | omega | exact Nat.le_of_ble_eq_true rfl | (simp; omega) | decide | (simp [*]; done)) (by first | omega | exact Nat.le_of_ble_eq_true rfl | (simp; omega) | decide | (simp [*]; done)) (by first | omega | exact Nat.le_of_ble_eq_true rfl | (simp; omega) | decide | (simp [*]; done)) rfl rfl (by first | omega | exact Nat.le_of_ble_eq_true rfl | (simp; omega) | decide | (simp [*]; done)) (by first | omega | exact Nat.le_of_ble_eq_true rfl | (simp; omega) | decide | (simp [*]; done)) rfl rfl) ?_
      refine AOps.gbool rfl rfl rfl rfl rfl (ok_call 0 rfl rfl (c_header_wide 16 [c0, c1, c2, c3] 1 (by decide) (by simp)) ⟨(by first | exact fv_ok rfl | (refine fv_ok ?_; simp [AV.ok, AV.oks]; done) | exact fv_nil | (refine fv_up ?_ ?_ <;> omega) | exact fv_row rfl rfl (by first | rfl | (simp [AV.oks_append, AV.oks_cons, AV.oks_nil, AV.ok_v, AV.ok_fz, AV.ok_fp, bs_oks]; done)) (by first | omega | exact Nat.le_of_ble_eq_true rfl | (simp; omega) | decide | (simp [*]; done)) (by decide) (by first | rfl | (simp; done) | (simp; rfl) | (simp [bs]; done)) | exact fv_ptr rfl rfl (by first | rfl | (simp [AV.oks_append, AV.oks_cons, AV.oks_nil, AV.ok_v, AV.ok_fz, AV.ok_fp, bs_oks]; done)) (by first | omega | exact Nat.le_of_ble_eq_true rfl | (simp; omega) | decide | (simp [*]; done)) rfl | (refine fv_fn trivial ⟨?_, trivial⟩ <;> (first | exact fv_ok rfl | (refine fv_ok ?_; simp [AV.ok, AV.oks]; done) | exact fv_nil | (refine fv_up ?_ ?_ <;> omega) | exact fv_row rfl rfl (by first | rfl | (simp [AV.oks_append, AV.oks_cons, AV.oks_nil, AV.ok_v, AV.ok_fz, AV.ok_fp, bs_oks]; done)) (by first | omega | exact Nat.le_of_ble_eq_true rfl | (simp; omega) | decide | (simp [*]; done)) (by decide) (by first | rfl | (simp; done) | (simp; rfl) | (simp [bs]; done)) | exact fv_ptr rfl rfl (by first | rfl | (simp [AV.oks_append, AV.oks_cons, AV.oks_nil, AV.ok_v, AV.ok_fz, AV.ok_fp, bs_oks]; done)) (by first | omega | exact Nat.le_of_ble_eq_true rfl | (simp; omega) | decide | (simp [*]; done)) rfl)) | (refine fv_fn trivial ⟨?_, ?_, trivial⟩ <;> (first | exact fv_ok rfl | (refine fv_ok ?_; simp [AV.ok, AV.oks]; done) | exact fv_nil | (refine fv_up ?_ ?_ <;> omega) | exact fv_row rfl rfl (by first | rfl | (simp [AV.oks_append, AV.oks_cons, AV.oks_nil, AV.ok_v, AV.ok_fz, AV.ok_fp, bs_oks]; done)) (by first | omega | exact Nat.le_of_ble_eq_true rfl | (simp; omega) | decide | (simp [*]; done)) (by decide) (by first | rfl | (simp; done) | (simp; rfl) | (simp [bs]; done)) | exact fv_ptr rfl rfl (by first | rfl | (simp [AV.oks_append, AV.oks_cons, AV.oks_nil, AV.ok_v, AV.ok_fz, AV.ok_fp, bs_oks]; done)) (by first | omega | exact Nat.le_of_ble_eq_true rfl | (simp; omega) | decide | (simp [*]; done)) rfl)) | (refine fv_fn trivial ⟨?_, ?_, ?_, trivial⟩ <;> (first | exact fv_ok rfl | (refine fv_ok ?_; simp [AV.ok, AV.oks]; done) | exact fv_nil | (refine fv_up ?_ ?_ <;> omega) | exact fv_row rfl rfl (by first | rfl | (simp [AV.oks_append, AV.oks_cons, AV.oks_nil, AV.ok_v, AV.ok_fz, AV.ok_fp, bs_oks]; done)) (by first | omega | exact Nat.le_of_ble_eq_true rfl | (simp; omega) | decide | (simp [*]; done)) (by decide) (by first | rfl | (simp; done) | (simp; rfl) | (simp [bs]; done)) | exact fv_ptr rfl rfl (by first | rfl | (simp [AV.oks_append, AV.oks_cons, AV.oks_nil, AV.ok_v, AV.ok_fz, AV.ok_fp, bs_oks]; done)) (by first | omega | exact Nat.le_of_ble_eq_true rfl | (simp; omega) | decide | (simp [*]; done)) rfl))), (by first | exact fv_ok rfl | (refine fv_ok ?_; simp [AV.ok, AV.oks]; done) | exact fv_nil | (refine fv_up ?_ ?_ <;> omega) | exact fv_row rfl rfl (by first | rfl | (simp [AV.oks_append, AV.oks_cons, AV.oks_nil, AV.ok_v, AV.ok_fz, AV.ok_fp, bs_oks]; done)) (by first | omega | exact Nat.le_of_ble_eq_true rfl | (simp; omega) | decide | (simp [*]; done)) (by decide) (by first | rfl | (simp; done) | (simp; rfl) | (simp [bs]; done)) | exact fv_ptr rfl rfl (by first | rfl | (simp [AV.oks_append, AV.oks_cons, AV.oks_nil, AV.ok_v, AV.ok_fz, AV.ok_fp, bs_oks]; done)) (by first | omega | exact Nat.le_of_ble_eq_true rfl | (simp; omega) | decide | (simp [*]; done)) rfl | (refine fv_fn trivial ⟨?_, trivial⟩ <;> (first | exact fv_ok rfl | (refine fv_ok ?_; simp [AV.ok, AV.oks]; done) | exact fv_nil | (refine fv_up ?_ ?_ <;> omega) | exact fv_row rfl rfl (by first | rfl | (simp [AV.oks_append, AV.oks_cons, AV.oks_nil, AV.ok_v, AV.ok_fz, AV.ok_fp, bs_oks]; done)) (by first | omega | exact Nat.le_of_ble_eq_true rfl | (simp; omega) | decide | (simp [*]; done)) (by decide) (by first | rfl | (simp; done) | (simp; rfl) | (simp [bs]; done)) | exact fv_ptr rfl rfl (by first | rfl | (simp [AV.oks_append, AV.oks_cons, AV.oks_nil, AV.ok_v, AV.ok_fz, AV.ok_fp, bs_oks]; done)) (by first | omega | exact Nat.le_of_ble_eq_true rfl | (simp; omega) | decide | (simp [*]; done)) rfl)) | (refine fv_fn trivial ⟨?_, ?_, trivial⟩ <;> (first | exact fv_ok rfl | (refine fv_ok ?_; simp [AV.ok, AV.oks]; done) | exact fv_nil | (refine fv_up ?_ ?_ <;> omega) | exact fv_row rfl rfl (by first | rfl | (simp [AV.oks_append, AV.oks_cons, AV.oks_nil, AV.ok_v, AV.ok_fz, AV.ok_fp, bs_oks]; done)) (by first | omega | exact Nat.le_of_ble_eq_true rfl | (simp; omega) | decide | (simp [*]; done)) (by decide) (by first | rfl | (simp; done) | (simp; rfl) | (simp [bs]; done)) | exact fv_ptr rfl rfl (by first | rfl | (simp [AV.oks_append, AV.oks_cons, AV.oks_nil, AV.ok_v, AV.ok_fz, AV.ok_fp, bs_oks]; done)) (by first | omega | exact Nat.le_of_ble_eq_true rfl | (simp; omega) | decide | (simp [*]; done)) rfl)) | (refine fv_fn trivial ⟨?_, ?_, ?_, trivial⟩ <;> (first | exact fv_ok rfl | (refine fv_ok ?_; simp [AV.ok, AV.oks]; done) | exact fv_nil | (refine fv_up ?_ ?_ <;> omega) | exact fv_row rfl rfl (by first | rfl | (simp [AV.oks_append, AV.oks_cons, AV.oks_nil, AV.ok_v, AV.ok_fz, AV.ok_fp, bs_oks]; done)) (by first | omega | exact Nat.le_of_ble_eq_true rfl | (simp; omega) | decide | (simp [*]; done)) (by decide) (by first | rfl | (simp; done) | (simp; rfl) | (simp [bs]; done)) | exact fv_ptr rfl rfl (by first | rfl | (simp [AV.oks_append, AV.oks_cons, AV.oks_nil, AV.ok_v, AV.ok_fz, AV.ok_fp, bs_oks]; done)) (by first | omega | exact Nat.le_of_ble_eq_true rfl | (simp; omega) | decide | (simp [*]; done)) rfl))), trivial⟩ (by first | rfl | (simp [AV.ok, AV.oks]; done)) rfl rfl) (fun h1_14 => ?_) (fun h1_14 => ?_)
      · skip
        refine AOps.cons rfl rfl (ok_pick rfl rfl (by conv => lhs; whnf) rfl rfl) ?_
        refine AOps.nil ?_
        refine AWp.cond_t rfl ?_
        refine AWp.seq ?_
        refine AWp.region ?_
        refine AOps.cons rfl rfl (ok_nilfz 0 (.inl rfl) rfl rfl rfl) ?_
        refine AOps.cons rfl rfl (ok_assign rfl (by conv => lhs; whnf) rfl rfl) ?_
        refine AOps.nil ?_
        refine AWp.ret ?_
        show Fin te Try.f16 _ _
        refine Fin.ret2 (xs := [_, _]) (ys := [_, _]) 0 ⟨res_tmp (by conv => lhs; whnf), res_tmp (by conv => lhs; whnf), trivial⟩ ⟨(by first | exact fv_ok rfl | (refine fv_ok ?_; simp [AV.ok, AV.oks]; done) | exact fv_row rfl rfl (by first | rfl | (simp [AV.oks_append, AV.oks_cons, AV.oks_nil, AV.ok_v, AV.ok_fz, AV.ok_fp, bs_oks]; done)) (by first | omega | exact Nat.le_of_ble_eq_true rfl | (simp; omega) | decide | (simp [*]; done)) (by decide) rfl), (by first | exact fv_ok rfl | (refine fv_ok ?_; simp [AV.ok, AV.oks]; done) | exact fv_row rfl rfl (by first | rfl | (simp [AV.oks_append, AV.oks_cons, AV.oks_nil, AV.ok_v, AV.ok_fz, AV.ok_fp, bs_oks]; done)) (by first | omega | exact Nat.le_of_ble_eq_true rfl | (simp; omega) | decide | (simp [*]; done)) (by decide) rfl), trivial⟩ ?_
        rw [hEnc, if_neg (fun hc => by obtain ⟨q1, ⟨q2, q3⟩, q4, q5, q6, q7⟩ := can_iff.1 hc; simp [q1, q2, q3, q4, q5, q6, q7] at h1_14)]; rfl
      · skip
        refine AOps.cons rfl rfl (ok_pick rfl rfl (by conv => lhs; whnf) rfl rfl) ?_
        refine AOps.nil ?_
        refine AWp.cond_f rfl ?_
        refine AWp.skip ?_
        refine AWp.seq ?_
        refine AWp.region ?_
        have hcan : h.can c0 c1 c2 c3 := can_iff.2 (by simpa [and_assoc] using And.intro h1_3 (And.intro h1_10 h1_14))
        obtain ⟨hid, hop, hco, hc0, hc1, hc2, hc3⟩ := id hcan
        refine AOps.cons rfl rfl (by first | exact ok_fieldAddr_ptr te_ok rfl rfl rfl rfl rfl rfl (by decide) ⟨_, rfl, rfl⟩ rfl rfl | exact ok_fieldAddr_fp te_ok rfl rfl rfl rfl rfl rfl (by decide) rfl rfl rfl rfl) ?_
        refine AOps.cons rfl rfl (by first | exact ok_load_ptr te_ok rfl rfl rfl rfl rfl rfl rfl (by decide) (by conv => lhs; whnf) rfl rfl | exact ok_load_fp te_ok rfl rfl rfl rfl (by decide) (by conv => lhs; whnf) rfl rfl) ?_
        refine AOps.cons rfl rfl (ok_bin rfl rfl rfl (bi_shl (m := 11) rfl (by decide) (by first | omega | exact Nat.le_of_ble_eq_true rfl | (simp; omega) | decide | (simp [*]; done)) (by first | omega | exact Nat.le_of_ble_eq_true rfl | (simp; omega) | decide | (simp [*]; done))) rfl rfl) ?_
        refine AOps.cons rfl rfl (by first | exact ok_fieldAddr_ptr te_ok rfl rfl rfl rfl rfl rfl (by decide) ⟨_, rfl, rfl⟩ rfl rfl | exact ok_fieldAddr_fp te_ok rfl rfl rfl rfl rfl rfl (by decide) rfl rfl rfl rfl) ?_
        refine AOps.cons rfl rfl (by first | exact ok_load_ptr te_ok rfl rfl rfl rfl rfl rfl rfl (by decide) (by conv => lhs; whnf) rfl rfl | exact ok_load_fp te_ok rfl rfl rfl rfl (by decide) (by conv => lhs; whnf) rfl rfl) ?_
        refine AOps.cons rfl rfl (ok_bin rfl rfl rfl (bi_or (by first | omega | exact Nat.le_of_ble_eq_true rfl | (simp; omega) | decide | (simp [*]; done)) (by first | omega | exact Nat.le_of_ble_eq_true rfl | (simp; omega) | decide | (simp [*]; done))) rfl rfl) ?_
        refine AOps.cons rfl rfl (ok_assign rfl (by conv => lhs; whnf) rfl rfl) ?_
        refine AOps.nil ?_
        refine AWp.seq ?_
        refine AWp.region ?_
        refine AOps.cons rfl rfl (ok_build_arr2 (vals := [(_, _), (_, _), (_, _), (_, _), (_, _)]) te_ok rfl ⟨rfl, (by conv => lhs; whnf), rfl, (by conv => lhs; whnf), rfl, (by conv => lhs; whnf), rfl, (by conv => lhs; whnf), rfl, (by conv => lhs; whnf), trivial⟩ rfl rfl rfl rfl (by first | (simp only [List.take_succ_cons, List.take_zero, List.drop_succ_cons, List.drop_zero, List.drop_nil, List.take_nil, List.nil_append, List.cons_append, List.append_nil, List.map_cons, List.map_nil, ZC.val, repZ]; rfl) | rfl) rfl rfl) ?_
        refine AOps.cons rfl rfl (ok_alloc (id := 501) te_ok rfl rfl rfl rfl rfl rfl) ?_
        refine AOps.cons rfl rfl (ok_store_ptr te_ok rfl rfl (by conv => lhs; whnf) rfl rfl rfl rfl rfl rfl (by first | omega | exact Nat.le_of_ble_eq_true rfl | (simp; omega) | decide | (simp [*]; done)) (by first | omega | exact Nat.le_of_ble_eq_true rfl | (simp; omega) | decide | (simp [*]; done)) (by first | (simp only [List.take_succ_cons, List.take_zero, List.drop_succ_cons, List.drop_zero, List.drop_nil, List.take_nil, List.nil_append, List.cons_append, List.append_nil, List.map_cons, List.map_nil, ZC.val, repZ]; rfl) | rfl) rfl rfl) ?_
        refine AOps.nil ?_
        refine AWp.seq ?_
        refine AWp.seq ?_
        refine AWp.region ?_
        refine AOps.cons rfl rfl (by first | exact ok_fieldAddr_ptr te_ok rfl rfl rfl rfl rfl rfl (by decide) ⟨_, rfl, rfl⟩ rfl rfl | exact ok_fieldAddr_fp te_ok rfl rfl rfl rfl rfl rfl (by decide) rfl rfl rfl rfl) ?_
        refine AOps.cons rfl rfl (by first | exact ok_load_ptr te_ok rfl rfl rfl rfl rfl rfl rfl (by decide) (by conv => lhs; whnf) rfl rfl | exact ok_load_fp te_ok rfl rfl rfl rfl (by decide) (by conv => lhs; whnf) rfl rfl) ?_
        refine AOps.cons rfl rfl (by first | exact ok_fieldAddr_ptr te_ok rfl rfl rfl rfl rfl rfl (by decide) ⟨_, rfl, rfl⟩ rfl rfl | exact ok_fieldAddr_fp te_ok rfl rfl rfl rfl rfl rfl (by decide) rfl rfl rfl rfl) ?_
        refine AOps.cons rfl rfl (by first | exact ok_load_ptr te_ok rfl rfl rfl rfl rfl rfl rfl (by decide) (by conv => lhs; whnf) rfl rfl | exact ok_load_fp te_ok rfl rfl rfl rfl (by decide) (by conv => lhs; whnf) rfl rfl) ?_
        refine AOps.cons rfl rfl (by first | exact ok_fieldAddr_ptr te_ok rfl rfl rfl rfl rfl rfl (by decide) ⟨_, rfl, rfl⟩ rfl rfl | exact ok_fieldAddr_fp te_ok rfl rfl rfl rfl rfl rfl (by decide) rfl rfl rfl rfl) ?_
        refine AOps.cons rfl rfl (by first | exact ok_load_ptr te_ok rfl rfl rfl rfl rfl rfl rfl (by decide) (by conv => lhs; whnf) rfl rfl | exact ok_load_fp te_ok rfl rfl rfl rfl (by decide) (by conv => lhs; whnf) rfl rfl) ?_
        refine AOps.cons rfl rfl (by first | exact ok_fieldAddr_ptr te_ok rfl rfl rfl rfl rfl rfl (by decide) ⟨_, rfl, rfl⟩ rfl rfl | exact ok_fieldAddr_fp te_ok rfl rfl rfl rfl rfl rfl (by decide) rfl rfl rfl rfl) ?_
        refine AOps.cons rfl rfl (by first | exact ok_load_ptr te_ok rfl rfl rfl rfl rfl rfl rfl (by decide) (by conv => lhs; whnf) rfl rfl | exact ok_load_fp te_ok rfl rfl rfl rfl (by decide) (by conv => lhs; whnf) rfl rfl) ?_
        refine AOps.cons rfl rfl (by first | exact ok_fieldAddr_ptr te_ok rfl rfl rfl rfl rfl rfl (by decide) ⟨_, rfl, rfl⟩ rfl rfl | exact ok_fieldAddr_fp te_ok rfl rfl rfl rfl rfl rfl (by decide) rfl rfl rfl rfl) ?_
        refine AOps.cons rfl rfl (by first | exact ok_load_ptr te_ok rfl rfl rfl rfl rfl rfl rfl (by decide) (by conv => lhs; whnf) rfl rfl | exact ok_load_fp te_ok rfl rfl rfl rfl (by decide) (by conv => lhs; whnf) rfl rfl) ?_
        refine AOps.cons rfl rfl (ok_build_arr2 (vals := [(_, _), (_, _), (_, _), (_, _), (_, _)]) te_ok rfl ⟨rfl, (by conv => lhs; whnf), rfl, (by conv => lhs; whnf), rfl, (by conv => lhs; whnf), rfl, (by conv => lhs; whnf), rfl, (by conv => lhs; whnf), trivial⟩ rfl rfl rfl rfl (by first | (simp only [List.take_succ_cons, List.take_zero, List.drop_succ_cons, List.drop_zero, List.drop_nil, List.take_nil, List.nil_append, List.cons_append, List.append_nil, List.map_cons, List.map_nil, ZC.val, repZ]; rfl) | rfl) rfl rfl) ?_
        refine AOps.cons rfl rfl (ok_move rfl (by conv => lhs; whnf) rfl rfl) ?_
        refine AOps.nil ?_
        refine AWp.block ?_
        refine AWp.loopI (α := Nat) (fun i => mkS [(2, .ptr 100 0 0), (3, .ptr 101 0 0), (6, i64 (h.flN i)), (7, .ptr 501 0 0), (46, .agg [tf h.resp, tf h.aa, tf h.tc, tf h.rd, tf h.ra]), (47, i64 i)] [(100, .box [i64 h.id, tf h.resp, i64 h.op, tf h.aa, tf h.tc, tf h.rd, tf h.ra, i64 h.code]), (101, .box [i64 c0, i64 c1, i64 c2, i64 c3]), (501, .box [i64 32768, i64 1024, i64 512, i64 256, i64 128])]) (fun i => i ≤ 5) (fun i => 5 - i) (0) (by decide) ?_ ?_
        · exact Weak.mk ⟨⟨by first | rfl | exact i64_eq (by omega) | exact str_eq (by simp) | (simp; done), by first | rfl | (refine AV.refs_ok (lv := 0) ?_; simp [AV.ok, AV.oks, *]; done)⟩, ⟨by first | rfl | exact i64_eq (by omega) | exact str_eq (by simp) | (simp; done), by first | rfl | (refine AV.refs_ok (lv := 0) ?_; simp [AV.ok, AV.oks, *]; done)⟩, ⟨by exact i64_eq (fl_start' hop hco), by first | rfl | (refine AV.refs_ok (lv := 0) ?_; simp [AV.ok, AV.oks, *]; done)⟩, ⟨by first | rfl | exact i64_eq (by omega) | exact str_eq (by simp) | (simp; done), by first | rfl | (refine AV.refs_ok (lv := 0) ?_; simp [AV.ok, AV.oks, *]; done)⟩, ⟨by first | rfl | exact i64_eq (by omega) | exact str_eq (by simp) | (simp; done), by first | rfl | (refine AV.refs_ok (lv := 0) ?_; simp [AV.ok, AV.oks, *]; done)⟩, ⟨by first | rfl | exact i64_eq (by omega) | exact str_eq (by simp) | (simp; done), by first | rfl | (refine AV.refs_ok (lv := 0) ?_; simp [AV.ok, AV.oks, *]; done)⟩, trivial⟩ ⟨⟨by first | rfl | (simp; done), by first | rfl | (simp [ObjIn, AV.refss_append, bs_refs, AV.refss]; done)⟩, ⟨by first | rfl | (simp; done), by first | rfl | (simp [ObjIn, AV.refss_append, bs_refs, AV.refss]; done)⟩, ⟨by first | rfl | (simp; done), by first | rfl | (simp [ObjIn, AV.refss_append, bs_refs, AV.refss]; done)⟩, trivial⟩
        · rintro i hi
          refine AWp.seq ?_
          refine AWp.region ?_
          obtain rfl | rfl | rfl | rfl | rfl | rfl : i = 0 ∨ i = 1 ∨ i = 2 ∨ i = 3 ∨ i = 4 ∨ i = 5 := by omega
          · skip
            refine AOps.dec rfl rfl (ok_bin rfl rfl rfl br_lss rfl rfl) (fun h6_0 => ?_) (fun h6_0 => ?_)
            · skip
              refine AOps.nil ?_
              refine AWp.seq ?_
              refine AWp.cond_t rfl ?_
              refine AWp.skip ?_
              refine AWp.seq ?_
              refine AWp.block ?_
              refine AWp.seq ?_
              refine AWp.region ?_
              refine AOps.cons rfl rfl (ok_move rfl (by conv => lhs; whnf) rfl rfl) ?_
              refine AOps.bool rfl rfl (ok_index_agg te_ok rfl rfl rfl rfl rfl rfl rfl rfl rfl (by first | omega | exact Nat.le_of_ble_eq_true rfl | (simp; omega) | decide | (simp [*]; done)) (by first | omega | exact Nat.le_of_ble_eq_true rfl | (simp; omega) | decide | (simp [*]; done)) rfl rfl) (fun h7_1 => ?_) (fun h7_1 => ?_)
              · skip
                refine AOps.cons rfl rfl (ok_assign rfl (by conv => lhs; whnf) rfl rfl) ?_
                refine AOps.cons rfl rfl (ok_assign rfl (by conv => lhs; whnf) rfl rfl) ?_
                refine AOps.nil ?_
                refine AWp.seq ?_
                refine AWp.region ?_
                refine AOps.cons rfl rfl (ok_move rfl (by conv => lhs; whnf) rfl rfl) ?_
                refine AOps.nil ?_
                refine AWp.cond_t rfl ?_
                refine AWp.region ?_
                have hfl := Hd.fl_pos hop hco 0
                refine AOps.cons rfl rfl (ok_move rfl (by conv => lhs; whnf) rfl rfl) ?_
                refine AOps.cons rfl rfl (ok_move rfl (by conv => lhs; whnf) rfl rfl) ?_
                refine AOps.cons rfl rfl (by first | exact ok_indexAddr_map te_ok rfl rfl rfl rfl rfl rfl rfl (by first | omega | exact Nat.le_of_ble_eq_true rfl | (simp; omega) | decide | (simp [*]; done)) (by first | omega | exact Nat.le_of_ble_eq_true rfl | (simp; omega) | decide | (simp [*]; done)) rfl rfl | exact ok_indexAddr_ptr te_ok rfl rfl rfl rfl rfl rfl (by first | omega | exact Nat.le_of_ble_eq_true rfl | (simp; omega) | decide | (simp [*]; done)) (by first | omega | exact Nat.le_of_ble_eq_true rfl | (simp; omega) | decide | (simp [*]; done)) rfl rfl rfl rfl | exact ok_indexAddr_sl te_ok rfl rfl rfl rfl rfl rfl (by first | omega | exact Nat.le_of_ble_eq_true rfl | (simp; omega) | decide | (simp [*]; done)) (by first | omega | exact Nat.le_of_ble_eq_true rfl | (simp; omega) | decide | (simp [*]; done)) rfl rfl rfl rfl | exact ok_indexAddr_fz te_ok rfl rfl rfl rfl rfl rfl (by first | omega | exact Nat.le_of_ble_eq_true rfl | (simp; omega) | decide | (simp [*]; done)) (by first | omega | exact Nat.le_of_ble_eq_true rfl | (simp; omega) | decide | (simp [*]; done)) rfl rfl (by decide) rfl rfl) ?_
                refine AOps.cons rfl rfl (by first | exact ok_load_ptr te_ok rfl rfl rfl rfl rfl rfl rfl (by decide) (by conv => lhs; whnf) rfl rfl | exact ok_load_fp te_ok rfl rfl rfl rfl (by decide) (by conv => lhs; whnf) rfl rfl) ?_
                refine AOps.cons rfl rfl (ok_bin rfl rfl rfl (bi_or (by first | omega | exact Nat.le_of_ble_eq_true rfl | (simp; omega) | decide | (simp [*]; done)) (by first | omega | exact Nat.le_of_ble_eq_true rfl | (simp; omega) | decide | (simp [*]; done))) rfl rfl) ?_
                refine AOps.cons rfl rfl (ok_assign rfl (by conv => lhs; whnf) rfl rfl) ?_
                refine AOps.nil ?_
                refine AWp.region ?_
                refine AOps.cons rfl rfl (ok_bin rfl rfl rfl (bi_add (by first | omega | exact Nat.le_of_ble_eq_true rfl | (simp; omega) | decide | (simp [*]; done)) (by first | omega | exact Nat.le_of_ble_eq_true rfl | (simp; omega) | decide | (simp [*]; done))) rfl rfl) ?_
                refine AOps.cons rfl rfl (ok_move rfl (by conv => lhs; whnf) rfl rfl) ?_
                refine AOps.nil ?_
                refine ⟨1, (by decide), ?_, (by decide)⟩
                exact Weak.mk ⟨⟨by first | rfl | exact i64_eq (by omega) | exact str_eq (by simp) | (simp; done), by first | rfl | (refine AV.refs_ok (lv := 0) ?_; simp [AV.ok, AV.oks, *]; done)⟩, ⟨by first | rfl | exact i64_eq (by omega) | exact str_eq (by simp) | (simp; done), by first | rfl | (refine AV.refs_ok (lv := 0) ?_; simp [AV.ok, AV.oks, *]; done)⟩, ⟨by exact i64_eq (Hd.fl0 hop hco h7_1), by first | rfl | (refine AV.refs_ok (lv := 0) ?_; simp [AV.ok, AV.oks, *]; done)⟩, ⟨by first | rfl | exact i64_eq (by omega) | exact str_eq (by simp) | (simp; done), by first | rfl | (refine AV.refs_ok (lv := 0) ?_; simp [AV.ok, AV.oks, *]; done)⟩, ⟨by first | rfl | exact i64_eq (by omega) | exact str_eq (by simp) | (simp; done), by first | rfl | (refine AV.refs_ok (lv := 0) ?_; simp [AV.ok, AV.oks, *]; done)⟩, ⟨by first | rfl | exact i64_eq (by omega) | exact str_eq (by simp) | (simp; done), by first | rfl | (refine AV.refs_ok (lv := 0) ?_; simp [AV.ok, AV.oks, *]; done)⟩, trivial⟩ ⟨⟨by first | rfl | (simp; done), by first | rfl | (simp [ObjIn, AV.refss_append, bs_refs, AV.refss]; done)⟩, ⟨by first | rfl | (simp; done), by first | rfl | (simp [ObjIn, AV.refss_append, bs_refs, AV.refss]; done)⟩, ⟨by first | rfl | (simp; done), by first | rfl | (simp [ObjIn, AV.refss_append, bs_refs, AV.refss]; done)⟩, trivial⟩
              · skip
                refine AOps.cons rfl rfl (ok_assign rfl (by conv => lhs; whnf) rfl rfl) ?_
                refine AOps.cons rfl rfl (ok_assign rfl (by conv => lhs; whnf) rfl rfl) ?_
                refine AOps.nil ?_
                refine AWp.seq ?_
                refine AWp.region ?_
                refine AOps.cons rfl rfl (ok_move rfl (by conv => lhs; whnf) rfl rfl) ?_
                refine AOps.nil ?_
                refine AWp.cond_f rfl ?_
                refine AWp.skip ?_
                refine AWp.region ?_
                refine AOps.cons rfl rfl (ok_bin rfl rfl rfl (bi_add (by first | omega | exact Nat.le_of_ble_eq_true rfl | (simp; omega) | decide | (simp [*]; done)) (by first | omega | exact Nat.le_of_ble_eq_true rfl | (simp; omega) | decide | (simp [*]; done))) rfl rfl) ?_
                refine AOps.cons rfl rfl (ok_move rfl (by conv => lhs; whnf) rfl rfl) ?_
                refine AOps.nil ?_
                refine ⟨1, (by decide), ?_, (by decide)⟩
                exact Weak.mk ⟨⟨by first | rfl | exact i64_eq (by omega) | exact str_eq (by simp) | (simp; done), by first | rfl | (refine AV.refs_ok (lv := 0) ?_; simp [AV.ok, AV.oks, *]; done)⟩, ⟨by first | rfl | exact i64_eq (by omega) | exact str_eq (by simp) | (simp; done), by first | rfl | (refine AV.refs_ok (lv := 0) ?_; simp [AV.ok, AV.oks, *]; done)⟩, ⟨by exact i64_eq (Hd.fl_skip 0 (by simp [h7_1])), by first | rfl | (refine AV.refs_ok (lv := 0) ?_; simp [AV.ok, AV.oks, *]; done)⟩, ⟨by first | rfl | exact i64_eq (by omega) | exact str_eq (by simp) | (simp; done), by first | rfl | (refine AV.refs_ok (lv := 0) ?_; simp [AV.ok, AV.oks, *]; done)⟩, ⟨by first | rfl | exact i64_eq (by omega) | exact str_eq (by simp) | (simp; done), by first | rfl | (refine AV.refs_ok (lv := 0) ?_; simp [AV.ok, AV.oks, *]; done)⟩, ⟨by first | rfl | exact i64_eq (by omega) | exact str_eq (by simp) | (simp; done), by first | rfl | (refine AV.refs_ok (lv := 0) ?_; simp [AV.ok, AV.oks, *]; done)⟩, trivial⟩ ⟨⟨by first | rfl | (simp; done), by first | rfl | (simp [ObjIn, AV.refss_append, bs_refs, AV.refss]; done)⟩, ⟨by first | rfl | (simp; done), by first | rfl | (simp [ObjIn, AV.refss_append, bs_refs, AV.refss]; done)⟩, ⟨by first | rfl | (simp; done), by first | rfl | (simp [ObjIn, AV.refss_append, bs_refs, AV.refss]; done)⟩, trivial⟩
            · exfalso; omega
          · skip
            refine AOps.dec rfl rfl (ok_bin rfl rfl rfl br_lss rfl rfl) (fun h6_0 => ?_) (fun h6_0 => ?_)
            · skip
              refine AOps.nil ?_
              refine AWp.seq ?_
              refine AWp.cond_t rfl ?_
              refine AWp.skip ?_
              refine AWp.seq ?_
              refine AWp.block ?_
              refine AWp.seq ?_
              refine AWp.region ?_
              refine AOps.cons rfl rfl (ok_move rfl (by conv => lhs; whnf) rfl rfl) ?_
              refine AOps.bool rfl rfl (ok_index_agg te_ok rfl rfl rfl rfl rfl rfl rfl rfl rfl (by first | omega | exact Nat.le_of_ble_eq_true rfl | (simp; omega) | decide | (simp [*]; done)) (by first | omega | exact Nat.le_of_ble_eq_true rfl | (simp; omega) | decide | (simp [*]; done)) rfl rfl) (fun h7_1 => ?_) (fun h7_1 => ?_)
              · skip
                refine AOps.cons rfl rfl (ok_assign rfl (by conv => lhs; whnf) rfl rfl) ?_
                refine AOps.cons rfl rfl (ok_assign rfl (by conv => lhs; whnf) rfl rfl) ?_
                refine AOps.nil ?_
                refine AWp.seq ?_
                refine AWp.region ?_
                refine AOps.cons rfl rfl (ok_move rfl (by conv => lhs; whnf) rfl rfl) ?_
                refine AOps.nil ?_
                refine AWp.cond_t rfl ?_
                refine AWp.region ?_
                have hfl := Hd.fl_pos hop hco 1
                refine AOps.cons rfl rfl (ok_move rfl (by conv => lhs; whnf) rfl rfl) ?_
                refine AOps.cons rfl rfl (ok_move rfl (by conv => lhs; whnf) rfl rfl) ?_
                refine AOps.cons rfl rfl (by first | exact ok_indexAddr_map te_ok rfl rfl rfl rfl rfl rfl rfl (by first | omega | exact Nat.le_of_ble_eq_true rfl | (simp; omega) | decide | (simp [*]; done)) (by first | omega | exact Nat.le_of_ble_eq_true rfl | (simp; omega) | decide | (simp [*]; done)) rfl rfl | exact ok_indexAddr_ptr te_ok rfl rfl rfl rfl rfl rfl (by first | omega | exact Nat.le_of_ble_eq_true rfl | (simp; omega) | decide | (simp [*]; done)) (by first | omega | exact Nat.le_of_ble_eq_true rfl | (simp; omega) | decide | (simp [*]; done)) rfl rfl rfl rfl | exact ok_indexAddr_sl te_ok rfl rfl rfl rfl rfl rfl (by first | omega | exact Nat.le_of_ble_eq_true rfl | (simp; omega) | decide | (simp [*]; done)) (by first | omega | exact Nat.le_of_ble_eq_true rfl | (simp; omega) | decide | (simp [*]; done)) rfl rfl rfl rfl | exact ok_indexAddr_fz te_ok rfl rfl rfl rfl rfl rfl (by first | omega | exact Nat.le_of_ble_eq_true rfl | (simp; omega) | decide | (simp [*]; done)) (by first | omega | exact Nat.le_of_ble_eq_true rfl | (simp; omega) | decide | (simp [*]; done)) rfl rfl (by decide) rfl rfl) ?_
                refine AOps.cons rfl rfl (by first | exact ok_load_ptr te_ok rfl rfl rfl rfl rfl rfl rfl (by decide) (by conv => lhs; whnf) rfl rfl | exact ok_load_fp te_ok rfl rfl rfl rfl (by decide) (by conv => lhs; whnf) rfl rfl) ?_
                refine AOps.cons rfl rfl (ok_bin rfl rfl rfl (bi_or (by first | omega | exact Nat.le_of_ble_eq_true rfl | (simp; omega) | decide | (simp [*]; done)) (by first | omega | exact Nat.le_of_ble_eq_true rfl | (simp; omega) | decide | (simp [*]; done))) rfl rfl) ?_
                refine AOps.cons rfl rfl (ok_assign rfl (by conv => lhs; whnf) rfl rfl) ?_
                refine AOps.nil ?_
                refine AWp.region ?_
                refine AOps.cons rfl rfl (ok_bin rfl rfl rfl (bi_add (by first | omega | exact Nat.le_of_ble_eq_true rfl | (simp; omega) | decide | (simp [*]; done)) (by first | omega | exact Nat.le_of_ble_eq_true rfl | (simp; omega) | decide | (simp [*]; done))) rfl rfl) ?_
                refine AOps.cons rfl rfl (ok_move rfl (by conv => lhs; whnf) rfl rfl) ?_
                refine AOps.nil ?_
                refine ⟨2, (by decide), ?_, (by decide)⟩
                exact Weak.mk ⟨⟨by first | rfl | exact i64_eq (by omega) | exact str_eq (by simp) | (simp; done), by first | rfl | (refine AV.refs_ok (lv := 0) ?_; simp [AV.ok, AV.oks, *]; done)⟩, ⟨by first | rfl | exact i64_eq (by omega) | exact str_eq (by simp) | (simp; done), by first | rfl | (refine AV.refs_ok (lv := 0) ?_; simp [AV.ok, AV.oks, *]; done)⟩, ⟨by exact i64_eq (Hd.fl1 hop hco h7_1), by first | rfl | (refine AV.refs_ok (lv := 0) ?_; simp [AV.ok, AV.oks, *]; done)⟩, ⟨by first | rfl | exact i64_eq (by omega) | exact str_eq (by simp) | (simp; done), by first | rfl | (refine AV.refs_ok (lv := 0) ?_; simp [AV.ok, AV.oks, *]; done)⟩, ⟨by first | rfl | exact i64_eq (by omega) | exact str_eq (by simp) | (simp; done), by first | rfl | (refine AV.refs_ok (lv := 0) ?_; simp [AV.ok, AV.oks, *]; done)⟩, ⟨by first | rfl | exact i64_eq (by omega) | exact str_eq (by simp) | (simp; done), by first | rfl | (refine AV.refs_ok (lv := 0) ?_; simp [AV.ok, AV.oks, *]; done)⟩, trivial⟩ ⟨⟨by first | rfl | (simp; done), by first | rfl | (simp [ObjIn, AV.refss_append, bs_refs, AV.refss]; done)⟩, ⟨by first | rfl | (simp; done), by first | rfl | (simp [ObjIn, AV.refss_append, bs_refs, AV.refss]; done)⟩, ⟨by first | rfl | (simp; done), by first | rfl | (simp [ObjIn, AV.refss_append, bs_refs, AV.refss]; done)⟩, trivial⟩
              · skip
                refine AOps.cons rfl rfl (ok_assign rfl (by conv => lhs; whnf) rfl rfl) ?_
                refine AOps.cons rfl rfl (ok_assign rfl (by conv => lhs; whnf) rfl rfl) ?_
                refine AOps.nil ?_
                refine AWp.seq ?_
                refine AWp.region ?_
                refine AOps.cons rfl rfl (ok_move rfl (by conv => lhs; whnf) rfl rfl) ?_
                refine AOps.nil ?_
                refine AWp.cond_f rfl ?_
                refine AWp.skip ?_
                refine AWp.region ?_
                refine AOps.cons rfl rfl (ok_bin rfl rfl rfl (bi_add (by first | omega | exact Nat.le_of_ble_eq_true rfl | (simp; omega) | decide | (simp [*]; done)) (by first | omega | exact Nat.le_of_ble_eq_true rfl | (simp; omega) | decide | (simp [*]; done))) rfl rfl) ?_
                refine AOps.cons rfl rfl (ok_move rfl (by conv => lhs; whnf) rfl rfl) ?_
                refine AOps.nil ?_
                refine ⟨2, (by decide), ?_, (by decide)⟩
                exact Weak.mk ⟨⟨by first | rfl | exact i64_eq (by omega) | exact str_eq (by simp) | (simp; done), by first | rfl | (refine AV.refs_ok (lv := 0) ?_; simp [AV.ok, AV.oks, *]; done)⟩, ⟨by first | rfl | exact i64_eq (by omega) | exact str_eq (by simp) | (simp; done), by first | rfl | (refine AV.refs_ok (lv := 0) ?_; simp [AV.ok, AV.oks, *]; done)⟩, ⟨by exact i64_eq (Hd.fl_skip 1 (by simp [h7_1])), by first | rfl | (refine AV.refs_ok (lv := 0) ?_; simp [AV.ok, AV.oks, *]; done)⟩, ⟨by first | rfl | exact i64_eq (by omega) | exact str_eq (by simp) | (simp; done), by first | rfl | (refine AV.refs_ok (lv := 0) ?_; simp [AV.ok, AV.oks, *]; done)⟩, ⟨by first | rfl | exact i64_eq (by omega) | exact str_eq (by simp) | (simp; done), by first | rfl | (refine AV.refs_ok (lv := 0) ?_; simp [AV.ok, AV.oks, *]; done)⟩, ⟨by first | rfl | exact i64_eq (by omega) | exact str_eq (by simp) | (simp; done), by first | rfl | (refine AV.refs_ok (lv := 0) ?_; simp [AV.ok, AV.oks, *]; done)⟩, trivial⟩ ⟨⟨by first | rfl | (simp; done), by first | rfl | (simp [ObjIn, AV.refss_append, bs_refs, AV.refss]; done)⟩, ⟨by first | rfl | (simp; done), by first | rfl | (simp [ObjIn, AV.refss_append, bs_refs, AV.refss]; done)⟩, ⟨by first | rfl | (simp; done), by first | rfl | (simp [ObjIn, AV.refss_append, bs_refs, AV.refss]; done)⟩, trivial⟩
            · exfalso; omega
          · skip
            refine AOps.dec rfl rfl (ok_bin rfl rfl rfl br_lss rfl rfl) (fun h6_0 => ?_) (fun h6_0 => ?_)
            · skip
              refine AOps.nil ?_
              refine AWp.seq ?_
              refine AWp.cond_t rfl ?_
              refine AWp.skip ?_
              refine AWp.seq ?_
              refine AWp.block ?_
              refine AWp.seq ?_
              refine AWp.region ?_
              refine AOps.cons rfl rfl (ok_move rfl (by conv => lhs; whnf) rfl rfl) ?_
              refine AOps.bool rfl rfl (ok_index_agg te_ok rfl rfl rfl rfl rfl rfl rfl rfl rfl (by first | omega | exact Nat.le_of_ble_eq_true rfl | (simp; omega) | decide | (simp [*]; done)) (by first | omega | exact Nat.le_of_ble_eq_true rfl | (simp; omega) | decide | (simp [*]; done)) rfl rfl) (fun h7_1 => ?_) (fun h7_1 => ?_)
              · skip
                refine AOps.cons rfl rfl (ok_assign rfl (by conv => lhs; whnf) rfl rfl) ?_
                refine AOps.cons rfl rfl (ok_assign rfl (by conv => lhs; whnf) rfl rfl) ?_
                refine AOps.nil ?_
                refine AWp.seq ?_
                refine AWp.region ?_
                refine AOps.cons rfl rfl (ok_move rfl (by conv => lhs; whnf) rfl rfl) ?_
                refine AOps.nil ?_
                refine AWp.cond_t rfl ?_
                refine AWp.region ?_
                have hfl := Hd.fl_pos hop hco 2
                refine AOps.cons rfl rfl (ok_move rfl (by conv => lhs; whnf) rfl rfl) ?_
                refine AOps.cons rfl rfl (ok_move rfl (by conv => lhs; whnf) rfl rfl) ?_
                refine AOps.cons rfl rfl (by first | exact ok_indexAddr_map te_ok rfl rfl rfl rfl rfl rfl rfl (by first | omega | exact Nat.le_of_ble_eq_true rfl | (simp; omega) | decide | (simp [*]; done)) (by first | omega | exact Nat.le_of_ble_eq_true rfl | (simp; omega) | decide | (simp [*]; done)) rfl rfl | exact ok_indexAddr_ptr te_ok rfl rfl rfl rfl rfl rfl (by first | omega | exact Nat.le_of_ble_eq_true rfl | (simp; omega) | decide | (simp [*]; done)) (by first | omega | exact Nat.le_of_ble_eq_true rfl | (simp; omega) | decide | (simp [*]; done)) rfl rfl rfl rfl | exact ok_indexAddr_sl te_ok rfl rfl rfl rfl rfl rfl (by first | omega | exact Nat.le_of_ble_eq_true rfl | (simp; omega) | decide | (simp [*]; done)) (by first | omega | exact Nat.le_of_ble_eq_true rfl | (simp; omega) | decide | (simp [*]; done)) rfl rfl rfl rfl | exact ok_indexAddr_fz te_ok rfl rfl rfl rfl rfl rfl (by first | omega | exact Nat.le_of_ble_eq_true rfl | (simp; omega) | decide | (simp [*]; done)) (by first | omega | exact Nat.le_of_ble_eq_true rfl | (simp; omega) | decide | (simp [*]; done)) rfl rfl (by decide) rfl rfl) ?_
                refine AOps.cons rfl rfl (by first | exact ok_load_ptr te_ok rfl rfl rfl rfl rfl rfl rfl (by decide) (by conv => lhs; whnf) rfl rfl | exact ok_load_fp te_ok rfl rfl rfl rfl (by decide) (by conv => lhs; whnf) rfl rfl) ?_
                refine AOps.cons rfl rfl (ok_bin rfl rfl rfl (bi_or (by first | omega | exact Nat.le_of_ble_eq_true rfl | (simp; omega) | decide | (simp [*]; done)) (by first | omega | exact Nat.le_of_ble_eq_true rfl | (simp; omega) | decide | (simp [*]; done))) rfl rfl) ?_
                refine AOps.cons rfl rfl (ok_assign rfl (by conv => lhs; whnf) rfl rfl) ?_
                refine AOps.nil ?_
                refine AWp.region ?_
                refine AOps.cons rfl rfl (ok_bin rfl rfl rfl (bi_add (by first | omega | exact Nat.le_of_ble_eq_true rfl | (simp; omega) | decide | (simp [*]; done)) (by first | omega | exact Nat.le_of_ble_eq_true rfl | (simp; omega) | decide | (simp [*]; done))) rfl rfl) ?_
                refine AOps.cons rfl rfl (ok_move rfl (by conv => lhs; whnf) rfl rfl) ?_
                refine AOps.nil ?_
                refine ⟨3, (by decide), ?_, (by decide)⟩
                exact Weak.mk ⟨⟨by first | rfl | exact i64_eq (by omega) | exact str_eq (by simp) | (simp; done), by first | rfl | (refine AV.refs_ok (lv := 0) ?_; simp [AV.ok, AV.oks, *]; done)⟩, ⟨by first | rfl | exact i64_eq (by omega) | exact str_eq (by simp) | (simp; done), by first | rfl | (refine AV.refs_ok (lv := 0) ?_; simp [AV.ok, AV.oks, *]; done)⟩, ⟨by exact i64_eq (Hd.fl2 hop hco h7_1), by first | rfl | (refine AV.refs_ok (lv := 0) ?_; simp [AV.ok, AV.oks, *]; done)⟩, ⟨by first | rfl | exact i64_eq (by omega) | exact str_eq (by simp) | (simp; done), by first | rfl | (refine AV.refs_ok (lv := 0) ?_; simp [AV.ok, AV.oks, *]; done)⟩, ⟨by first | rfl | exact i64_eq (by omega) | exact str_eq (by simp) | (simp; done), by first | rfl | (refine AV.refs_ok (lv := 0) ?_; simp [AV.ok, AV.oks, *]; done)⟩, ⟨by first | rfl | exact i64_eq (by omega) | exact str_eq (by simp) | (simp; done), by first | rfl | (refine AV.refs_ok (lv := 0) ?_; simp [AV.ok, AV.oks, *]; done)⟩, trivial⟩ ⟨⟨by first | rfl | (simp; done), by first | rfl | (simp [ObjIn, AV.refss_append, bs_refs, AV.refss]; done)⟩, ⟨by first | rfl | (simp; done), by first | rfl | (simp [ObjIn, AV.refss_append, bs_refs, AV.refss]; done)⟩, ⟨by first | rfl | (simp; done), by first | rfl | (simp [ObjIn, AV.refss_append, bs_refs, AV.refss]; done)⟩, trivial⟩
              · skip
                refine AOps.cons rfl rfl (ok_assign rfl (by conv => lhs; whnf) rfl rfl) ?_
                refine AOps.cons rfl rfl (ok_assign rfl (by conv => lhs; whnf) rfl rfl) ?_
                refine AOps.nil ?_
                refine AWp.seq ?_
                refine AWp.region ?_
                refine AOps.cons rfl rfl (ok_move rfl (by conv => lhs; whnf) rfl rfl) ?_
                refine AOps.nil ?_
                refine AWp.cond_f rfl ?_
                refine AWp.skip ?_
                refine AWp.region ?_
                refine AOps.cons rfl rfl (ok_bin rfl rfl rfl (bi_add (by first | omega | exact Nat.le_of_ble_eq_true rfl | (simp; omega) | decide | (simp [*]; done)) (by first | omega | exact Nat.le_of_ble_eq_true rfl | (simp; omega) | decide | (simp [*]; done))) rfl rfl) ?_
                refine AOps.cons rfl rfl (ok_move rfl (by conv => lhs; whnf) rfl rfl) ?_
                refine AOps.nil ?_
                refine ⟨3, (by decide), ?_, (by decide)⟩
                exact Weak.mk ⟨⟨by first | rfl | exact i64_eq (by omega) | exact str_eq (by simp) | (simp; done), by first | rfl | (refine AV.refs_ok (lv := 0) ?_; simp [AV.ok, AV.oks, *]; done)⟩, ⟨by first | rfl | exact i64_eq (by omega) | exact str_eq (by simp) | (simp; done), by first | rfl | (refine AV.refs_ok (lv := 0) ?_; simp [AV.ok, AV.oks, *]; done)⟩, ⟨by exact i64_eq (Hd.fl_skip 2 (by simp [h7_1])), by first | rfl | (refine AV.refs_ok (lv := 0) ?_; simp [AV.ok, AV.oks, *]; done)⟩, ⟨by first | rfl | exact i64_eq (by omega) | exact str_eq (by simp) | (simp; done), by first | rfl | (refine AV.refs_ok (lv := 0) ?_; simp [AV.ok, AV.oks, *]; done)⟩, ⟨by first | rfl | exact i64_eq (by omega) | exact str_eq (by simp) | (simp; done), by first | rfl | (refine AV.refs_ok (lv := 0) ?_; simp [AV.ok, AV.oks, *]; done)⟩, ⟨by first | rfl | exact i64_eq (by omega) | exact str_eq (by simp) | (simp; done), by first | rfl | (refine AV.refs_ok (lv := 0) ?_; simp [AV.ok, AV.oks, *]; done)⟩, trivial⟩ ⟨⟨by first | rfl | (simp; done), by first | rfl | (simp [ObjIn, AV.refss_append, bs_refs, AV.refss]; done)⟩, ⟨by first | rfl | (simp; done), by first | rfl | (simp [ObjIn, AV.refss_append, bs_refs, AV.refss]; done)⟩, ⟨by first | rfl | (simp; done), by first | rfl | (simp [ObjIn, AV.refss_append, bs_refs, AV.refss]; done)⟩, trivial⟩
            · exfalso; omega
          · skip
            refine AOps.dec rfl rfl (ok_bin rfl rfl rfl br_lss rfl rfl) (fun h6_0 => ?_) (fun h6_0 => ?_)
            · skip
              refine AOps.nil ?_
              refine AWp.seq ?_
              refine AWp.cond_t rfl ?_
              refine AWp.skip ?_
              refine AWp.seq ?_
              refine AWp.block ?_
              refine AWp.seq ?_
              refine AWp.region ?_
              refine AOps.cons rfl rfl (ok_move rfl (by conv => lhs; whnf) rfl rfl) ?_
              refine AOps.bool rfl rfl (ok_index_agg te_ok rfl rfl rfl rfl rfl rfl rfl rfl rfl (by first | omega | exact Nat.le_of_ble_eq_true rfl | (simp; omega) | decide | (simp [*]; done)) (by first | omega | exact Nat.le_of_ble_eq_true rfl | (simp; omega) | decide | (simp [*]; done)) rfl rfl) (fun h7_1 => ?_) (fun h7_1 => ?_)
              · skip
                refine AOps.cons rfl rfl (ok_assign rfl (by conv => lhs; whnf) rfl rfl) ?_
                refine AOps.cons rfl rfl (ok_assign rfl (by conv => lhs; whnf) rfl rfl) ?_
                refine AOps.nil ?_
                refine AWp.seq ?_
                refine AWp.region ?_
                refine AOps.cons rfl rfl (ok_move rfl (by conv => lhs; whnf) rfl rfl) ?_
                refine AOps.nil ?_
                refine AWp.cond_t rfl ?_
                refine AWp.region ?_
                have hfl := Hd.fl_pos hop hco 3
                refine AOps.cons rfl rfl (ok_move rfl (by conv => lhs; whnf) rfl rfl) ?_
                refine AOps.cons rfl rfl (ok_move rfl (by conv => lhs; whnf) rfl rfl) ?_
                refine AOps.cons rfl rfl (by first | exact ok_indexAddr_map te_ok rfl rfl rfl rfl rfl rfl rfl (by first | omega | exact Nat.le_of_ble_eq_true rfl | (simp; omega) | decide | (simp [*]; done)) (by first | omega | exact Nat.le_of_ble_eq_true rfl | (simp; omega) | decide | (simp [*]; done)) rfl rfl | exact ok_indexAddr_ptr te_ok rfl rfl rfl rfl rfl rfl (by first | omega | exact Nat.le_of_ble_eq_true rfl | (simp; omega) | decide | (simp [*]; done)) (by first | omega | exact Nat.le_of_ble_eq_true rfl | (simp; omega) | decide | (simp [*]; done)) rfl rfl rfl rfl | exact ok_indexAddr_sl te_ok rfl rfl rfl rfl rfl rfl (by first | omega | exact Nat.le_of_ble_eq_true rfl | (simp; omega) | decide | (simp [*]; done)) (by first | omega | exact Nat.le_of_ble_eq_true rfl | (simp; omega) | decide | (simp [*]; done)) rfl rfl rfl rfl | exact ok_indexAddr_fz te_ok rfl rfl rfl rfl rfl rfl (by first | omega | exact Nat.le_of_ble_eq_true rfl | (simp; omega) | decide | (simp [*]; done)) (by first | omega | exact Nat.le_of_ble_eq_true rfl | (simp; omega) | decide | (simp [*]; done)) rfl rfl (by decide) rfl rfl) ?_
                refine AOps.cons rfl rfl (by first | exact ok_load_ptr te_ok rfl rfl rfl rfl rfl rfl rfl (by decide) (by conv => lhs; whnf) rfl rfl | exact ok_load_fp te_ok rfl rfl rfl rfl (by decide) (by conv => lhs; whnf) rfl rfl) ?_
                refine AOps.cons rfl rfl (ok_bin rfl rfl rfl (bi_or (by first | omega | exact Nat.le_of_ble_eq_true rfl | (simp; omega) | decide | (simp [*]; done)) (by first | omega | exact Nat.le_of_ble_eq_true rfl | (simp; omega) | decide | (simp [*]; done))) rfl rfl) ?_
                refine AOps.cons rfl rfl (ok_assign rfl (by conv => lhs; whnf) rfl rfl) ?_
                refine AOps.nil ?_
                refine AWp.region ?_
                refine AOps.cons rfl rfl (ok_bin rfl rfl rfl (bi_add (by first | omega | exact Nat.le_of_ble_eq_true rfl | (simp; omega) | decide | (simp [*]; done)) (by first | omega | exact Nat.le_of_ble_eq_true rfl | (simp; omega) | decide | (simp [*]; done))) rfl rfl) ?_
                refine AOps.cons rfl rfl (ok_move rfl (by conv => lhs; whnf) rfl rfl) ?_
                refine AOps.nil ?_
                refine ⟨4, (by decide), ?_, (by decide)⟩
                exact Weak.mk ⟨⟨by first | rfl | exact i64_eq (by omega) | exact str_eq (by simp) | (simp; done), by first | rfl | (refine AV.refs_ok (lv := 0) ?_; simp [AV.ok, AV.oks, *]; done)⟩, ⟨by first | rfl | exact i64_eq (by omega) | exact str_eq (by simp) | (simp; done), by first | rfl | (refine AV.refs_ok (lv := 0) ?_; simp [AV.ok, AV.oks, *]; done)⟩, ⟨by exact i64_eq (Hd.fl3 hop hco h7_1), by first | rfl | (refine AV.refs_ok (lv := 0) ?_; simp [AV.ok, AV.oks, *]; done)⟩, ⟨by first | rfl | exact i64_eq (by omega) | exact str_eq (by simp) | (simp; done), by first | rfl | (refine AV.refs_ok (lv := 0) ?_; simp [AV.ok, AV.oks, *]; done)⟩, ⟨by first | rfl | exact i64_eq (by omega) | exact str_eq (by simp) | (simp; done), by first | rfl | (refine AV.refs_ok (lv := 0) ?_; simp [AV.ok, AV.oks, *]; done)⟩, ⟨by first | rfl | exact i64_eq (by omega) | exact str_eq (by simp) | (simp; done), by first | rfl | (refine AV.refs_ok (lv := 0) ?_; simp [AV.ok, AV.oks, *]; done)⟩, trivial⟩ ⟨⟨by first | rfl | (simp; done), by first | rfl | (simp [ObjIn, AV.refss_append, bs_refs, AV.refss]; done)⟩, ⟨by first | rfl | (simp; done), by first | rfl | (simp [ObjIn, AV.refss_append, bs_refs, AV.refss]; done)⟩, ⟨by first | rfl | (simp; done), by first | rfl | (simp [ObjIn, AV.refss_append, bs_refs, AV.refss]; done)⟩, trivial⟩
              · skip
                refine AOps.cons rfl rfl (ok_assign rfl (by conv => lhs; whnf) rfl rfl) ?_
                refine AOps.cons rfl rfl (ok_assign rfl (by conv => lhs; whnf) rfl rfl) ?_
                refine AOps.nil ?_
                refine AWp.seq ?_
                refine AWp.region ?_
                refine AOps.cons rfl rfl (ok_move rfl (by conv => lhs; whnf) rfl rfl) ?_
                refine AOps.nil ?_
                refine AWp.cond_f rfl ?_
                refine AWp.skip ?_
                refine AWp.region ?_
                refine AOps.cons rfl rfl (ok_bin rfl rfl rfl (bi_add (by first | omega | exact Nat.le_of_ble_eq_true rfl | (simp; omega) | decide | (simp [*]; done)) (by first | omega | exact Nat.le_of_ble_eq_true rfl | (simp; omega) | decide | (simp [*]; done))) rfl rfl) ?_
                refine AOps.cons rfl rfl (ok_move rfl (by conv => lhs; whnf) rfl rfl) ?_
                refine AOps.nil ?_
                refine ⟨4, (by decide), ?_, (by decide)⟩
                exact Weak.mk ⟨⟨by first | rfl | exact i64_eq (by omega) | exact str_eq (by simp) | (simp; done), by first | rfl | (refine AV.refs_ok (lv := 0) ?_; simp [AV.ok, AV.oks, *]; done)⟩, ⟨by first | rfl | exact i64_eq (by omega) | exact str_eq (by simp) | (simp; done), by first | rfl | (refine AV.refs_ok (lv := 0) ?_; simp [AV.ok, AV.oks, *]; done)⟩, ⟨by exact i64_eq (Hd.fl_skip 3 (by simp [h7_1])), by first | rfl | (refine AV.refs_ok (lv := 0) ?_; simp [AV.ok, AV.oks, *]; done)⟩, ⟨by first | rfl | exact i64_eq (by omega) | exact str_eq (by simp) | (simp; done), by first | rfl | (refine AV.refs_ok (lv := 0) ?_; simp [AV.ok, AV.oks, *]; done)⟩, ⟨by first | rfl | exact i64_eq (by omega) | exact str_eq (by simp) | (simp; done), by first | rfl | (refine AV.refs_ok (lv := 0) ?_; simp [AV.ok, AV.oks, *]; done)⟩, ⟨by first | rfl | exact i64_eq (by omega) | exact str_eq (by simp) | (simp; done), by first | rfl | (refine AV.refs_ok (lv := 0) ?_; simp [AV.ok, AV.oks, *]; done)⟩, trivial⟩ ⟨⟨by first | rfl | (simp; done), by first | rfl | (simp [ObjIn, AV.refss_append, bs_refs, AV.refss]; done)⟩, ⟨by first | rfl | (simp; done), by first | rfl | (simp [ObjIn, AV.refss_append, bs_refs, AV.refss]; done)⟩, ⟨by first | rfl | (simp; done), by first | rfl | (simp [ObjIn, AV.refss_append, bs_refs, AV.refss]; done)⟩, trivial⟩
            · exfalso; omega
          · skip
            refine AOps.dec rfl rfl (ok_bin rfl rfl rfl br_lss rfl rfl) (fun h6_0 => ?_) (fun h6_0 => ?_)
            · skip
              refine AOps.nil ?_
              refine AWp.seq ?_
              refine AWp.cond_t rfl ?_
              refine AWp.skip ?_
              refine AWp.seq ?_
              refine AWp.block ?_
              refine AWp.seq ?_
              refine AWp.region ?_
              refine AOps.cons rfl rfl (ok_move rfl (by conv => lhs; whnf) rfl rfl) ?_
              refine AOps.bool rfl rfl (ok_index_agg te_ok rfl rfl rfl rfl rfl rfl rfl rfl rfl (by first | omega | exact Nat.le_of_ble_eq_true rfl | (simp; omega) | decide | (simp [*]; done)) (by first | omega | exact Nat.le_of_ble_eq_true rfl | (simp; omega) | decide | (simp [*]; done)) rfl rfl) (fun h7_1 => ?_) (fun h7_1 => ?_)
              · skip
                refine AOps.cons rfl rfl (ok_assign rfl (by conv => lhs; whnf) rfl rfl) ?_
                refine AOps.cons rfl rfl (ok_assign rfl (by conv => lhs; whnf) rfl rfl) ?_
                refine AOps.nil ?_
                refine AWp.seq ?_
                refine AWp.region ?_
                refine AOps.cons rfl rfl (ok_move rfl (by conv => lhs; whnf) rfl rfl) ?_
                refine AOps.nil ?_
                refine AWp.cond_t rfl ?_
                refine AWp.region ?_
                have hfl := Hd.fl_pos hop hco 4
                refine AOps.cons rfl rfl (ok_move rfl (by conv => lhs; whnf) rfl rfl) ?_
                refine AOps.cons rfl rfl (ok_move rfl (by conv => lhs; whnf) rfl rfl) ?_
                refine AOps.cons rfl rfl (by first | exact ok_indexAddr_map te_ok rfl rfl rfl rfl rfl rfl rfl (by first | omega | exact Nat.le_of_ble_eq_true rfl | (simp; omega) | decide | (simp [*]; done)) (by first | omega | exact Nat.le_of_ble_eq_true rfl | (simp; omega) | decide | (simp [*]; done)) rfl rfl | exact ok_indexAddr_ptr te_ok rfl rfl rfl rfl rfl rfl (by first | omega | exact Nat.le_of_ble_eq_true rfl | (simp; omega) | decide | (simp [*]; done)) (by first | omega | exact Nat.le_of_ble_eq_true rfl | (simp; omega) | decide | (simp [*]; done)) rfl rfl rfl rfl | exact ok_indexAddr_sl te_ok rfl rfl rfl rfl rfl rfl (by first | omega | exact Nat.le_of_ble_eq_true rfl | (simp; omega) | decide | (simp [*]; done)) (by first | omega | exact Nat.le_of_ble_eq_true rfl | (simp; omega) | decide | (simp [*]; done)) rfl rfl rfl rfl | exact ok_indexAddr_fz te_ok rfl rfl rfl rfl rfl rfl (by first | omega | exact Nat.le_of_ble_eq_true rfl | (simp; omega) | decide | (simp [*]; done)) (by first | omega | exact Nat.le_of_ble_eq_true rfl | (simp; omega) | decide | (simp [*]; done)) rfl rfl (by decide) rfl rfl) ?_
                refine AOps.cons rfl rfl (by first | exact ok_load_ptr te_ok rfl rfl rfl rfl rfl rfl rfl (by decide) (by conv => lhs; whnf) rfl rfl | exact ok_load_fp te_ok rfl rfl rfl rfl (by decide) (by conv => lhs; whnf) rfl rfl) ?_
                refine AOps.cons rfl rfl (ok_bin rfl rfl rfl (bi_or (by first | omega | exact Nat.le_of_ble_eq_true rfl | (simp; omega) | decide | (simp [*]; done)) (by first | omega | exact Nat.le_of_ble_eq_true rfl | (simp; omega) | decide | (simp [*]; done))) rfl rfl) ?_
                refine AOps.cons rfl rfl (ok_assign rfl (by conv => lhs; whnf) rfl rfl) ?_
                refine AOps.nil ?_
                refine AWp.region ?_
                refine AOps.cons rfl rfl (ok_bin rfl rfl rfl (bi_add (by first | omega | exact Nat.le_of_ble_eq_true rfl | (simp; omega) | decide | (simp [*]; done)) (by first | omega | exact Nat.le_of_ble_eq_true rfl | (simp; omega) | decide | (simp [*]; done))) rfl rfl) ?_
                refine AOps.cons rfl rfl (ok_move rfl (by conv => lhs; whnf) rfl rfl) ?_
                refine AOps.nil ?_
                refine ⟨5, (by decide), ?_, (by decide)⟩
                exact Weak.mk ⟨⟨by first | rfl | exact i64_eq (by omega) | exact str_eq (by simp) | (simp; done), by first | rfl | (refine AV.refs_ok (lv := 0) ?_; simp [AV.ok, AV.oks, *]; done)⟩, ⟨by first | rfl | exact i64_eq (by omega) | exact str_eq (by simp) | (simp; done), by first | rfl | (refine AV.refs_ok (lv := 0) ?_; simp [AV.ok, AV.oks, *]; done)⟩, ⟨by exact i64_eq (Hd.fl4 hop hco h7_1), by first | rfl | (refine AV.refs_ok (lv := 0) ?_; simp [AV.ok, AV.oks, *]; done)⟩, ⟨by first | rfl | exact i64_eq (by omega) | exact str_eq (by simp) | (simp; done), by first | rfl | (refine AV.refs_ok (lv := 0) ?_; simp [AV.ok, AV.oks, *]; done)⟩, ⟨by first | rfl | exact i64_eq (by omega) | exact str_eq (by simp) | (simp; done), by first | rfl | (refine AV.refs_ok (lv := 0) ?_; simp [AV.ok, AV.oks, *]; done)⟩, ⟨by first | rfl | exact i64_eq (by omega) | exact str_eq (by simp) | (simp; done), by first | rfl | (refine AV.refs_ok (lv := 0) ?_; simp [AV.ok, AV.oks, *]; done)⟩, trivial⟩ ⟨⟨by first | rfl | (simp; done), by first | rfl | (simp [ObjIn, AV.refss_append, bs_refs, AV.refss]; done)⟩, ⟨by first | rfl | (simp; done), by first | rfl | (simp [ObjIn, AV.refss_append, bs_refs, AV.refss]; done)⟩, ⟨by first | rfl | (simp; done), by first | rfl | (simp [ObjIn, AV.refss_append, bs_refs, AV.refss]; done)⟩, trivial⟩
              · skip
                refine AOps.cons rfl rfl (ok_assign rfl (by conv => lhs; whnf) rfl rfl) ?_
                refine AOps.cons rfl rfl (ok_assign rfl (by conv => lhs; whnf) rfl rfl) ?_
                refine AOps.nil ?_
                refine AWp.seq ?_
                refine AWp.region ?_
                refine AOps.cons rfl rfl (ok_move rfl (by conv => lhs; whnf) rfl rfl) ?_
                refine AOps.nil ?_
                refine AWp.cond_f rfl ?_
                refine AWp.skip ?_
                refine AWp.region ?_
                refine AOps.cons rfl rfl (ok_bin rfl rfl rfl (bi_add (by first | omega | exact Nat.le_of_ble_eq_true rfl | (simp; omega) | decide | (simp [*]; done)) (by first | omega | exact Nat.le_of_ble_eq_true rfl | (simp; omega) | decide | (simp [*]; done))) rfl rfl) ?_
                refine AOps.cons rfl rfl (ok_move rfl (by conv => lhs; whnf) rfl rfl) ?_
                refine AOps.nil ?_
                refine ⟨5, (by decide), ?_, (by decide)⟩
                exact Weak.mk ⟨⟨by first | rfl | exact i64_eq (by omega) | exact str_eq (by simp) | (simp; done), by first | rfl | (refine AV.refs_ok (lv := 0) ?_; simp [AV.ok, AV.oks, *]; done)⟩, ⟨by first | rfl | exact i64_eq (by omega) | exact str_eq (by simp) | (simp; done), by first | rfl | (refine AV.refs_ok (lv := 0) ?_; simp [AV.ok, AV.oks, *]; done)⟩, ⟨by exact i64_eq (Hd.fl_skip 4 (by simp [h7_1])), by first | rfl | (refine AV.refs_ok (lv := 0) ?_; simp [AV.ok, AV.oks, *]; done)⟩, ⟨by first | rfl | exact i64_eq (by omega) | exact str_eq (by simp) | (simp; done), by first | rfl | (refine AV.refs_ok (lv := 0) ?_; simp [AV.ok, AV.oks, *]; done)⟩, ⟨by first | rfl | exact i64_eq (by omega) | exact str_eq (by simp) | (simp; done), by first | rfl | (refine AV.refs_ok (lv := 0) ?_; simp [AV.ok, AV.oks, *]; done)⟩, ⟨by first | rfl | exact i64_eq (by omega) | exact str_eq (by simp) | (simp; done), by first | rfl | (refine AV.refs_ok (lv := 0) ?_; simp [AV.ok, AV.oks, *]; done)⟩, trivial⟩ ⟨⟨by first | rfl | (simp; done), by first | rfl | (simp [ObjIn, AV.refss_append, bs_refs, AV.refss]; done)⟩, ⟨by first | rfl | (simp; done), by first | rfl | (simp [ObjIn, AV.refss_append, bs_refs, AV.refss]; done)⟩, ⟨by first | rfl | (simp; done), by first | rfl | (simp [ObjIn, AV.refss_append, bs_refs, AV.refss]; done)⟩, trivial⟩
            · exfalso; omega
          · skip
            refine AOps.dec rfl rfl (ok_bin rfl rfl rfl br_lss rfl rfl) (fun h6_0 => ?_) (fun h6_0 => ?_)
            · exfalso; omega
            · skip
              refine AOps.nil ?_
              refine AWp.seq ?_
              refine AWp.cond_f rfl ?_
              refine AWp.exit ?_
              refine AWp.seq ?_
              refine AWp.region ?_
              refine AOps.cons rfl rfl (ok_nilrow 1200 1 (.inl rfl) rfl rfl rfl rfl) ?_
              refine AOps.nil ?_
              refine AWp.seq ?_
              refine AWp.seq ?_
              refine AWp.region ?_
              refine AOps.cons rfl rfl (by first | exact ok_fieldAddr_ptr te_ok rfl rfl rfl rfl rfl rfl (by decide) ⟨_, rfl, rfl⟩ rfl rfl | exact ok_fieldAddr_fp te_ok rfl rfl rfl rfl rfl rfl (by decide) rfl rfl rfl rfl) ?_
              refine AOps.cons rfl rfl (by first | exact ok_load_ptr te_ok rfl rfl rfl rfl rfl rfl rfl (by decide) (by conv => lhs; whnf) rfl rfl | exact ok_load_fp te_ok rfl rfl rfl rfl (by decide) (by conv => lhs; whnf) rfl rfl) ?_
              refine AOps.cons rfl rfl (ok_move rfl (by conv => lhs; whnf) rfl rfl) ?_
              refine AOps.cons rfl rfl (by first | exact ok_indexAddr_map te_ok rfl rfl rfl rfl rfl rfl rfl (by first | omega | exact Nat.le_of_ble_eq_true rfl | (simp; omega) | decide | (simp [*]; done)) (by first | omega | exact Nat.le_of_ble_eq_true rfl | (simp; omega) | decide | (simp [*]; done)) rfl rfl | exact ok_indexAddr_ptr te_ok rfl rfl rfl rfl rfl rfl (by first | omega | exact Nat.le_of_ble_eq_true rfl | (simp; omega) | decide | (simp [*]; done)) (by first | omega | exact Nat.le_of_ble_eq_true rfl | (simp; omega) | decide | (simp [*]; done)) rfl rfl rfl rfl | exact ok_indexAddr_sl te_ok rfl rfl rfl rfl rfl rfl (by first | omega | exact Nat.le_of_ble_eq_true rfl | (simp; omega) | decide | (simp [*]; done)) (by first | omega | exact Nat.le_of_ble_eq_true rfl | (simp; omega) | decide | (simp [*]; done)) rfl rfl rfl rfl | exact ok_indexAddr_fz te_ok rfl rfl rfl rfl rfl rfl (by first | omega | exact Nat.le_of_ble_eq_true rfl | (simp; omega) | decide | (simp [*]; done)) (by first | omega | exact Nat.le_of_ble_eq_true rfl | (simp; omega) | decide | (simp [*]; done)) rfl rfl (by decide) rfl rfl) ?_
              refine AOps.cons rfl rfl (by first | exact ok_load_ptr te_ok rfl rfl rfl rfl rfl rfl rfl (by decide) (by conv => lhs; whnf) rfl rfl | exact ok_load_fp te_ok rfl rfl rfl rfl (by decide) (by conv => lhs; whnf) rfl rfl) ?_
              refine AOps.cons rfl rfl (by first | exact ok_indexAddr_map te_ok rfl rfl rfl rfl rfl rfl rfl (by first | omega | exact Nat.le_of_ble_eq_true rfl | (simp; omega) | decide | (simp [*]; done)) (by first | omega | exact Nat.le_of_ble_eq_true rfl | (simp; omega) | decide | (simp [*]; done)) rfl rfl | exact ok_indexAddr_ptr te_ok rfl rfl rfl rfl rfl rfl (by first | omega | exact Nat.le_of_ble_eq_true rfl | (simp; omega) | decide | (simp [*]; done)) (by first | omega | exact Nat.le_of_ble_eq_true rfl | (simp; omega) | decide | (simp [*]; done)) rfl rfl rfl rfl | exact ok_indexAddr_sl te_ok rfl rfl rfl rfl rfl rfl (by first | omega | exact Nat.le_of_ble_eq_true rfl | (simp; omega) | decide | (simp [*]; done)) (by first | omega | exact Nat.le_of_ble_eq_true rfl | (simp; omega) | decide | (simp [*]; done)) rfl rfl rfl rfl | exact ok_indexAddr_fz te_ok rfl rfl rfl rfl rfl rfl (by first | omega | exact Nat.le_of_ble_eq_true rfl | (simp; omega) | decide | (simp [*]; done)) (by first | omega | exact Nat.le_of_ble_eq_true rfl | (simp; omega) | decide | (simp [*]; done)) rfl rfl (by decide) rfl rfl) ?_
              refine AOps.cons rfl rfl (by first | exact ok_load_ptr te_ok rfl rfl rfl rfl rfl rfl rfl (by decide) (by conv => lhs; whnf) rfl rfl | exact ok_load_fp te_ok rfl rfl rfl rfl (by decide) (by conv => lhs; whnf) rfl rfl) ?_
              refine AOps.cons rfl rfl (by first | exact ok_indexAddr_map te_ok rfl rfl rfl rfl rfl rfl rfl (by first | omega | exact Nat.le_of_ble_eq_true rfl | (simp; omega) | decide | (simp [*]; done)) (by first | omega | exact Nat.le_of_ble_eq_true rfl | (simp; omega) | decide | (simp [*]; done)) rfl rfl | exact ok_indexAddr_ptr te_ok rfl rfl rfl rfl rfl rfl (by first | omega | exact Nat.le_of_ble_eq_true rfl | (simp; omega) | decide | (simp [*]; done)) (by first | omega | exact Nat.le_of_ble_eq_true rfl | (simp; omega) | decide | (simp [*]; done)) rfl rfl rfl rfl | exact ok_indexAddr_sl te_ok rfl rfl rfl rfl rfl rfl (by first | omega | exact Nat.le_of_ble_eq_true rfl | (simp; omega) | decide | (simp [*]; done)) (by first | omega | exact Nat.le_of_ble_eq_true rfl | (simp; omega) | decide | (simp [*]; done)) rfl rfl rfl rfl | exact ok_indexAddr_fz te_ok rfl rfl rfl rfl rfl rfl (by first | omega | exact Nat.le_of_ble_eq_true rfl | (simp; omega) | decide | (simp [*]; done)) (by first | omega | exact Nat.le_of_ble_eq_true rfl | (simp; omega) | decide | (simp [*]; done)) rfl rfl (by decide) rfl rfl) ?_
              refine AOps.cons rfl rfl (by first | exact ok_load_ptr te_ok rfl rfl rfl rfl rfl rfl rfl (by decide) (by conv => lhs; whnf) rfl rfl | exact ok_load_fp te_ok rfl rfl rfl rfl (by decide) (by conv => lhs; whnf) rfl rfl) ?_
              refine AOps.cons rfl rfl (by first | exact ok_indexAddr_map te_ok rfl rfl rfl rfl rfl rfl rfl (by first | omega | exact Nat.le_of_ble_eq_true rfl | (simp; omega) | decide | (simp [*]; done)) (by first | omega | exact Nat.le_of_ble_eq_true rfl | (simp; omega) | decide | (simp [*]; done)) rfl rfl | exact ok_indexAddr_ptr te_ok rfl rfl rfl rfl rfl rfl (by first | omega | exact Nat.le_of_ble_eq_true rfl | (simp; omega) | decide | (simp [*]; done)) (by first | omega | exact Nat.le_of_ble_eq_true rfl | (simp; omega) | decide | (simp [*]; done)) rfl rfl rfl rfl | exact ok_indexAddr_sl te_ok rfl rfl rfl rfl rfl rfl (by first | omega | exact Nat.le_of_ble_eq_true rfl | (simp; omega) | decide | (simp [*]; done)) (by first | omega | exact Nat.le_of_ble_eq_true rfl | (simp; omega) | decide | (simp [*]; done)) rfl rfl rfl rfl | exact ok_indexAddr_fz te_ok rfl rfl rfl rfl rfl rfl (by first | omega | exact Nat.le_of_ble_eq_true rfl | (simp; omega) | decide | (simp [*]; done)) (by first | omega | exact Nat.le_of_ble_eq_true rfl | (simp; omega) | decide | (simp [*]; done)) rfl rfl (by decide) rfl rfl) ?_
              refine AOps.cons rfl rfl (by first | exact ok_load_ptr te_ok rfl rfl rfl rfl rfl rfl rfl (by decide) (by conv => lhs; whnf) rfl rfl | exact ok_load_fp te_ok rfl rfl rfl rfl (by decide) (by conv => lhs; whnf) rfl rfl) ?_
              refine AOps.cons rfl rfl (ok_build_arr2 (vals := [(_, _), (_, _), (_, _), (_, _), (_, _), (_, _)]) te_ok rfl ⟨rfl, (by conv => lhs; whnf), rfl, (by conv => lhs; whnf), rfl, (by conv => lhs; whnf), rfl, (by conv => lhs; whnf), rfl, (by conv => lhs; whnf), rfl, (by conv => lhs; whnf), trivial⟩ rfl rfl rfl rfl (by first | (simp only [List.take_succ_cons, List.take_zero, List.drop_succ_cons, List.drop_zero, List.drop_nil, List.take_nil, List.nil_append, List.cons_append, List.append_nil, List.map_cons, List.map_nil, ZC.val, repZ]; rfl) | rfl) rfl rfl) ?_
              refine AOps.cons rfl rfl (ok_move rfl (by conv => lhs; whnf) rfl rfl) ?_
              refine AOps.nil ?_
              refine AWp.block ?_
              refine AWp.loopI (α := Nat) (fun j => mkS [(10, .sl 1200 j 0 (2 * j) 1), (69, .agg [i64 h.id, i64 (h.flN 5), i64 c0, i64 c1, i64 c2, i64 c3]), (70, i64 j)] [(1200, .row (bs (((h.nums c0 c1 c2 c3).take j).flatMap two)) 1 j)]) (fun j => j ≤ 6) (fun j => 6 - j) (0) (by decide) ?_ ?_
              · exact Weak.mk ⟨⟨by first | rfl | exact i64_eq (by omega) | exact str_eq (by simp) | (simp; done), by first | rfl | (refine AV.refs_ok (lv := 0) ?_; simp [AV.ok, AV.oks, *]; done)⟩, ⟨by first | rfl | exact i64_eq (by omega) | exact str_eq (by simp) | (simp; done), by first | rfl | (refine AV.refs_ok (lv := 0) ?_; simp [AV.ok, AV.oks, *]; done)⟩, ⟨by first | rfl | exact i64_eq (by omega) | exact str_eq (by simp) | (simp; done), by first | rfl | (refine AV.refs_ok (lv := 0) ?_; simp [AV.ok, AV.oks, *]; done)⟩, trivial⟩ ⟨⟨by first | rfl | (simp; done), by exact bs_refs⟩, trivial⟩
              · rintro j hj
                refine AWp.seq ?_
                refine AWp.region ?_
                obtain rfl | rfl | rfl | rfl | rfl | rfl | rfl : j = 0 ∨ j = 1 ∨ j = 2 ∨ j = 3 ∨ j = 4 ∨ j = 5 ∨ j = 6 := by omega
                · skip
                  refine AOps.dec rfl rfl (ok_bin rfl rfl rfl br_lss rfl rfl) (fun h13_0 => ?_) (fun h13_0 => ?_)
                  · skip
                    refine AOps.nil ?_
                    refine AWp.seq ?_
                    refine AWp.cond_t rfl ?_
                    refine AWp.skip ?_
                    refine AWp.seq ?_
                    refine AWp.block ?_
                    refine AWp.seq ?_
                    refine AWp.region ?_
                    refine AOps.cons rfl rfl (ok_index_agg te_ok rfl rfl rfl rfl rfl rfl rfl rfl rfl (by first | omega | exact Nat.le_of_ble_eq_true rfl | (simp; omega) | decide | (simp [*]; done)) (by first | omega | exact Nat.le_of_ble_eq_true rfl | (simp; omega) | decide | (simp [*]; done)) rfl rfl) ?_
                    refine AOps.cons rfl rfl (ok_assign rfl (by conv => lhs; whnf) rfl rfl) ?_
                    refine AOps.nil ?_
                    refine AWp.region ?_
                    refine AOps.cons rfl rfl (ok_move rfl (by conv => lhs; whnf) rfl rfl) ?_
                    refine AOps.cons rfl rfl (ok_move rfl (by conv => lhs; whnf) rfl rfl) ?_
                    refine AOps.cons rfl rfl (ok_bin rfl rfl rfl (bi_shr (m := 8) rfl (by decide)) rfl rfl) ?_
                    refine AOps.cons rfl rfl (ok_conv_u8 te_ok rfl rfl rfl rfl rfl rfl rfl) ?_
                    refine AOps.cons rfl rfl (ok_move rfl (by conv => lhs; whnf) rfl rfl) ?_
                    refine AOps.cons rfl rfl (ok_conv_u8 te_ok rfl rfl rfl rfl rfl rfl rfl) ?_
                    refine AOps.cons rfl rfl (ok_buildSlice2 (id := 1606) (vals := [(_, _), (_, _)]) te_ok rfl ⟨rfl, (by conv => lhs; whnf), rfl, (by conv => lhs; whnf), trivial⟩ rfl rfl rfl rfl rfl (by first | (simp only [List.take_succ_cons, List.take_zero, List.drop_succ_cons, List.drop_zero, List.drop_nil, List.take_nil, List.nil_append, List.cons_append, List.append_nil, List.map_cons, List.map_nil, ZC.val, repZ]; rfl) | rfl) rfl rfl rfl rfl) ?_
                    refine AOps.cons rfl rfl (by first | exact ok_append_sl te_ok rfl rfl rfl (by first | rfl | decide | omega) rfl rfl rfl rfl rfl rfl (by first | exact src_sl rfl rfl rfl rfl rfl | exact src_fz rfl (by first | rfl | decide | omega) | exact src_str rfl rfl | exact src_nil rfl | exact src_sl rfl rfl rfl rfl (by first | rfl | decide | omega)) (by first | (intro c hc; simp at hc; done) | (simp [AV.one, Value.oneCell']; done) | exact bs_one _ | (intro c hc; simp at hc; rcases hc with rfl | rfl <;> rfl)) rfl (by first | rfl | decide | omega) (by first | rfl | decide | omega) rfl rfl | exact ok_append_nil (id := 1607) te_ok rfl rfl rfl rfl rfl rfl rfl (by first | exact src_sl rfl rfl rfl rfl rfl | exact src_fz rfl (by first | rfl | decide | omega) | exact src_str rfl rfl | exact src_nil rfl | exact src_sl rfl rfl rfl rfl (by first | rfl | decide | omega)) rfl (by first | rfl | decide | omega) (by first | rfl | decide | omega) rfl rfl) ?_
                    refine AOps.cons rfl rfl (ok_assign rfl (by conv => lhs; whnf) rfl rfl) ?_
                    refine AOps.nil ?_
                    refine AWp.region ?_
                    refine AOps.cons rfl rfl (ok_bin rfl rfl rfl (bi_add (by first | omega | exact Nat.le_of_ble_eq_true rfl | (simp; omega) | decide | (simp [*]; done)) (by first | omega | exact Nat.le_of_ble_eq_true rfl | (simp; omega) | decide | (simp [*]; done))) rfl rfl) ?_
                    refine AOps.cons rfl rfl (ok_move rfl (by conv => lhs; whnf) rfl rfl) ?_
                    refine AOps.nil ?_
                    refine ⟨1, (by decide), ?_, (by decide)⟩
                    exact Weak.mk ⟨⟨by first | rfl | exact i64_eq (by omega) | exact str_eq (by simp) | (simp; done), by first | rfl | (refine AV.refs_ok (lv := 0) ?_; simp [AV.ok, AV.oks, *]; done)⟩, ⟨by first | rfl | exact i64_eq (by omega) | exact str_eq (by simp) | (simp; done), by first | rfl | (refine AV.refs_ok (lv := 0) ?_; simp [AV.ok, AV.oks, *]; done)⟩, ⟨by first | rfl | exact i64_eq (by omega) | exact str_eq (by simp) | (simp; done), by first | rfl | (refine AV.refs_ok (lv := 0) ?_; simp [AV.ok, AV.oks, *]; done)⟩, trivial⟩ ⟨⟨by first | rfl | (simp; done), by exact bs_refs⟩, trivial⟩
                  · exfalso; omega
                · skip
                  refine AOps.dec rfl rfl (ok_bin rfl rfl rfl br_lss rfl rfl) (fun h13_0 => ?_) (fun h13_0 => ?_)
                  · skip
                    refine AOps.nil ?_
                    refine AWp.seq ?_
                    refine AWp.cond_t rfl ?_
                    refine AWp.skip ?_
                    refine AWp.seq ?_
                    refine AWp.block ?_
                    refine AWp.seq ?_
                    refine AWp.region ?_
                    refine AOps.cons rfl rfl (ok_index_agg te_ok rfl rfl rfl rfl rfl rfl rfl rfl rfl (by first | omega | exact Nat.le_of_ble_eq_true rfl | (simp; omega) | decide | (simp [*]; done)) (by first | omega | exact Nat.le_of_ble_eq_true rfl | (simp; omega) | decide | (simp [*]; done)) rfl rfl) ?_
                    refine AOps.cons rfl rfl (ok_assign rfl (by conv => lhs; whnf) rfl rfl) ?_
                    refine AOps.nil ?_
                    refine AWp.region ?_
                    refine AOps.cons rfl rfl (ok_move rfl (by conv => lhs; whnf) rfl rfl) ?_
                    refine AOps.cons rfl rfl (ok_move rfl (by conv => lhs; whnf) rfl rfl) ?_
                    refine AOps.cons rfl rfl (ok_bin rfl rfl rfl (bi_shr (m := 8) rfl (by decide)) rfl rfl) ?_
                    refine AOps.cons rfl rfl (ok_conv_u8 te_ok rfl rfl rfl rfl rfl rfl rfl) ?_
                    refine AOps.cons rfl rfl (ok_move rfl (by conv => lhs; whnf) rfl rfl) ?_
                    refine AOps.cons rfl rfl (ok_conv_u8 te_ok rfl rfl rfl rfl rfl rfl rfl) ?_
                    refine AOps.cons rfl rfl (ok_buildSlice2 (id := 1606) (vals := [(_, _), (_, _)]) te_ok rfl ⟨rfl, (by conv => lhs; whnf), rfl, (by conv => lhs; whnf), trivial⟩ rfl rfl rfl rfl rfl (by first | (simp only [List.take_succ_cons, List.take_zero, List.drop_succ_cons, List.drop_zero, List.drop_nil, List.take_nil, List.nil_append, List.cons_append, List.append_nil, List.map_cons, List.map_nil, ZC.val, repZ]; rfl) | rfl) rfl rfl rfl rfl) ?_
                    refine AOps.cons rfl rfl (by first | exact ok_append_sl te_ok rfl rfl rfl (by first | rfl | decide | omega) rfl rfl rfl rfl rfl rfl (by first | exact src_sl rfl rfl rfl rfl rfl | exact src_fz rfl (by first | rfl | decide | omega) | exact src_str rfl rfl | exact src_nil rfl | exact src_sl rfl rfl rfl rfl (by first | rfl | decide | omega)) (by first | (intro c hc; simp at hc; done) | (simp [AV.one, Value.oneCell']; done) | exact bs_one _ | (intro c hc; simp at hc; rcases hc with rfl | rfl <;> rfl)) rfl (by first | rfl | decide | omega) (by first | rfl | decide | omega) rfl rfl | exact ok_append_nil (id := 1607) te_ok rfl rfl rfl rfl rfl rfl rfl (by first | exact src_sl rfl rfl rfl rfl rfl | exact src_fz rfl (by first | rfl | decide | omega) | exact src_str rfl rfl | exact src_nil rfl | exact src_sl rfl rfl rfl rfl (by first | rfl | decide | omega)) rfl (by first | rfl | decide | omega) (by first | rfl | decide | omega) rfl rfl) ?_
                    refine AOps.cons rfl rfl (ok_assign rfl (by conv => lhs; whnf) rfl rfl) ?_
                    refine AOps.nil ?_
                    refine AWp.region ?_
                    refine AOps.cons rfl rfl (ok_bin rfl rfl rfl (bi_add (by first | omega | exact Nat.le_of_ble_eq_true rfl | (simp; omega) | decide | (simp [*]; done)) (by first | omega | exact Nat.le_of_ble_eq_true rfl | (simp; omega) | decide | (simp [*]; done))) rfl rfl) ?_
                    refine AOps.cons rfl rfl (ok_move rfl (by conv => lhs; whnf) rfl rfl) ?_
                    refine AOps.nil ?_
                    refine ⟨2, (by decide), ?_, (by decide)⟩
                    exact Weak.mk ⟨⟨by first | rfl | exact i64_eq (by omega) | exact str_eq (by simp) | (simp; done), by first | rfl | (refine AV.refs_ok (lv := 0) ?_; simp [AV.ok, AV.oks, *]; done)⟩, ⟨by first | rfl | exact i64_eq (by omega) | exact str_eq (by simp) | (simp; done), by first | rfl | (refine AV.refs_ok (lv := 0) ?_; simp [AV.ok, AV.oks, *]; done)⟩, ⟨by first | rfl | exact i64_eq (by omega) | exact str_eq (by simp) | (simp; done), by first | rfl | (refine AV.refs_ok (lv := 0) ?_; simp [AV.ok, AV.oks, *]; done)⟩, trivial⟩ ⟨⟨by first | rfl | (simp; done), by exact bs_refs⟩, trivial⟩
                  · exfalso; omega
                · skip
                  refine AOps.dec rfl rfl (ok_bin rfl rfl rfl br_lss rfl rfl) (fun h13_0 => ?_) (fun h13_0 => ?_)
                  · skip
                    refine AOps.nil ?_
                    refine AWp.seq ?_
                    refine AWp.cond_t rfl ?_
                    refine AWp.skip ?_
                    refine AWp.seq ?_
                    refine AWp.block ?_
                    refine AWp.seq ?_
                    refine AWp.region ?_
                    refine AOps.cons rfl rfl (ok_index_agg te_ok rfl rfl rfl rfl rfl rfl rfl rfl rfl (by first | omega | exact Nat.le_of_ble_eq_true rfl | (simp; omega) | decide | (simp [*]; done)) (by first | omega | exact Nat.le_of_ble_eq_true rfl | (simp; omega) | decide | (simp [*]; done)) rfl rfl) ?_
                    refine AOps.cons rfl rfl (ok_assign rfl (by conv => lhs; whnf) rfl rfl) ?_
                    refine AOps.nil ?_
                    refine AWp.region ?_
                    refine AOps.cons rfl rfl (ok_move rfl (by conv => lhs; whnf) rfl rfl) ?_
                    refine AOps.cons rfl rfl (ok_move rfl (by conv => lhs; whnf) rfl rfl) ?_
                    refine AOps.cons rfl rfl (ok_bin rfl rfl rfl (bi_shr (m := 8) rfl (by decide)) rfl rfl) ?_
                    refine AOps.cons rfl rfl (ok_conv_u8 te_ok rfl rfl rfl rfl rfl rfl rfl) ?_
                    refine AOps.cons rfl rfl (ok_move rfl (by conv => lhs; whnf) rfl rfl) ?_
                    refine AOps.cons rfl rfl (ok_conv_u8 te_ok rfl rfl rfl rfl rfl rfl rfl) ?_
                    refine AOps.cons rfl rfl (ok_buildSlice2 (id := 1606) (vals := [(_, _), (_, _)]) te_ok rfl ⟨rfl, (by conv => lhs; whnf), rfl, (by conv => lhs; whnf), trivial⟩ rfl rfl rfl rfl rfl (by first | (simp only [List.take_succ_cons, List.take_zero, List.drop_succ_cons, List.drop_zero, List.drop_nil, List.take_nil, List.nil_append, List.cons_append, List.append_nil, List.map_cons, List.map_nil, ZC.val, repZ]; rfl) | rfl) rfl rfl rfl rfl) ?_
                    refine AOps.cons rfl rfl (by first | exact ok_append_sl te_ok rfl rfl rfl (by first | rfl | decide | omega) rfl rfl rfl rfl rfl rfl (by first | exact src_sl rfl rfl rfl rfl rfl | exact src_fz rfl (by first | rfl | decide | omega) | exact src_str rfl rfl | exact src_nil rfl | exact src_sl rfl rfl rfl rfl (by first | rfl | decide | omega)) (by first | (intro c hc; simp at hc; done) | (simp [AV.one, Value.oneCell']; done) | exact bs_one _ | (intro c hc; simp at hc; rcases hc with rfl | rfl <;> rfl)) rfl (by first | rfl | decide | omega) (by first | rfl | decide | omega) rfl rfl | exact ok_append_nil (id := 1607) te_ok rfl rfl rfl rfl rfl rfl rfl (by first | exact src_sl rfl rfl rfl rfl rfl | exact src_fz rfl (by first | rfl | decide | omega) | exact src_str rfl rfl | exact src_nil rfl | exact src_sl rfl rfl rfl rfl (by first | rfl | decide | omega)) rfl (by first | rfl | decide | omega) (by first | rfl | decide | omega) rfl rfl) ?_
                    refine AOps.cons rfl rfl (ok_assign rfl (by conv => lhs; whnf) rfl rfl) ?_
                    refine AOps.nil ?_
                    refine AWp.region ?_
                    refine AOps.cons rfl rfl (ok_bin rfl rfl rfl (bi_add (by first | omega | exact Nat.le_of_ble_eq_true rfl | (simp; omega) | decide | (simp [*]; done)) (by first | omega | exact Nat.le_of_ble_eq_true rfl | (simp; omega) | decide | (simp [*]; done))) rfl rfl) ?_
                    refine AOps.cons rfl rfl (ok_move rfl (by conv => lhs; whnf) rfl rfl) ?_
                    refine AOps.nil ?_
                    refine ⟨3, (by decide), ?_, (by decide)⟩
                    exact Weak.mk ⟨⟨by first | rfl | exact i64_eq (by omega) | exact str_eq (by simp) | (simp; done), by first | rfl | (refine AV.refs_ok (lv := 0) ?_; simp [AV.ok, AV.oks, *]; done)⟩, ⟨by first | rfl | exact i64_eq (by omega) | exact str_eq (by simp) | (simp; done), by first | rfl | (refine AV.refs_ok (lv := 0) ?_; simp [AV.ok, AV.oks, *]; done)⟩, ⟨by first | rfl | exact i64_eq (by omega) | exact str_eq (by simp) | (simp; done), by first | rfl | (refine AV.refs_ok (lv := 0) ?_; simp [AV.ok, AV.oks, *]; done)⟩, trivial⟩ ⟨⟨by first | rfl | (simp; done), by exact bs_refs⟩, trivial⟩
                  · exfalso; omega
                · skip
                  refine AOps.dec rfl rfl (ok_bin rfl rfl rfl br_lss rfl rfl) (fun h13_0 => ?_) (fun h13_0 => ?_)
                  · skip
                    refine AOps.nil ?_
                    refine AWp.seq ?_
                    refine AWp.cond_t rfl ?_
                    refine AWp.skip ?_
                    refine AWp.seq ?_
                    refine AWp.block ?_
                    refine AWp.seq ?_
                    refine AWp.region ?_
                    refine AOps.cons rfl rfl (ok_index_agg te_ok rfl rfl rfl rfl rfl rfl rfl rfl rfl (by first | omega | exact Nat.le_of_ble_eq_true rfl | (simp; omega) | decide | (simp [*]; done)) (by first | omega | exact Nat.le_of_ble_eq_true rfl | (simp; omega) | decide | (simp [*]; done)) rfl rfl) ?_
                    refine AOps.cons rfl rfl (ok_assign rfl (by conv => lhs; whnf) rfl rfl) ?_
                    refine AOps.nil ?_
                    refine AWp.region ?_
                    refine AOps.cons rfl rfl (ok_move rfl (by conv => lhs; whnf) rfl rfl) ?_
                    refine AOps.cons rfl rfl (ok_move rfl (by conv => lhs; whnf) rfl rfl) ?_
                    refine AOps.cons rfl rfl (ok_bin rfl rfl rfl (bi_shr (m := 8) rfl (by decide)) rfl rfl) ?_
                    refine AOps.cons rfl rfl (ok_conv_u8 te_ok rfl rfl rfl rfl rfl rfl rfl) ?_
                    refine AOps.cons rfl rfl (ok_move rfl (by conv => lhs; whnf) rfl rfl) ?_
                    refine AOps.cons rfl rfl (ok_conv_u8 te_ok rfl rfl rfl rfl rfl rfl rfl) ?_
                    refine AOps.cons rfl rfl (ok_buildSlice2 (id := 1606) (vals := [(_, _), (_, _)]) te_ok rfl ⟨rfl, (by conv => lhs; whnf), rfl, (by conv => lhs; whnf), trivial⟩ rfl rfl rfl rfl rfl (by first | (simp only [List.take_succ_cons, List.take_zero, List.drop_succ_cons, List.drop_zero, List.drop_nil, List.take_nil, List.nil_append, List.cons_append, List.append_nil, List.map_cons, List.map_nil, ZC.val, repZ]; rfl) | rfl) rfl rfl rfl rfl) ?_
                    refine AOps.cons rfl rfl (by first | exact ok_append_sl te_ok rfl rfl rfl (by first | rfl | decide | omega) rfl rfl rfl rfl rfl rfl (by first | exact src_sl rfl rfl rfl rfl rfl | exact src_fz rfl (by first | rfl | decide | omega) | exact src_str rfl rfl | exact src_nil rfl | exact src_sl rfl rfl rfl rfl (by first | rfl | decide | omega)) (by first | (intro c hc; simp at hc; done) | (simp [AV.one, Value.oneCell']; done) | exact bs_one _ | (intro c hc; simp at hc; rcases hc with rfl | rfl <;> rfl)) rfl (by first | rfl | decide | omega) (by first | rfl | decide | omega) rfl rfl | exact ok_append_nil (id := 1607) te_ok rfl rfl rfl rfl rfl rfl rfl (by first | exact src_sl rfl rfl rfl rfl rfl | exact src_fz rfl (by first | rfl | decide | omega) | exact src_str rfl rfl | exact src_nil rfl | exact src_sl rfl rfl rfl rfl (by first | rfl | decide | omega)) rfl (by first | rfl | decide | omega) (by first | rfl | decide | omega) rfl rfl) ?_
                    refine AOps.cons rfl rfl (ok_assign rfl (by conv => lhs; whnf) rfl rfl) ?_
                    refine AOps.nil ?_
                    refine AWp.region ?_
                    refine AOps.cons rfl rfl (ok_bin rfl rfl rfl (bi_add (by first | omega | exact Nat.le_of_ble_eq_true rfl | (simp; omega) | decide | (simp [*]; done)) (by first | omega | exact Nat.le_of_ble_eq_true rfl | (simp; omega) | decide | (simp [*]; done))) rfl rfl) ?_
                    refine AOps.cons rfl rfl (ok_move rfl (by conv => lhs; whnf) rfl rfl) ?_
                    refine AOps.nil ?_
                    refine ⟨4, (by decide), ?_, (by decide)⟩
                    exact Weak.mk ⟨⟨by first | rfl | exact i64_eq (by omega) | exact str_eq (by simp) | (simp; done), by first | rfl | (refine AV.refs_ok (lv := 0) ?_; simp [AV.ok, AV.oks, *]; done)⟩, ⟨by first | rfl | exact i64_eq (by omega) | exact str_eq (by simp) | (simp; done), by first | rfl | (refine AV.refs_ok (lv := 0) ?_; simp [AV.ok, AV.oks, *]; done)⟩, ⟨by first | rfl | exact i64_eq (by omega) | exact str_eq (by simp) | (simp; done), by first | rfl | (refine AV.refs_ok (lv := 0) ?_; simp [AV.ok, AV.oks, *]; done)⟩, trivial⟩ ⟨⟨by first | rfl | (simp; done), by exact bs_refs⟩, trivial⟩
                  · exfalso; omega
                · skip
                  refine AOps.dec rfl rfl (ok_bin rfl rfl rfl br_lss rfl rfl) (fun h13_0 => ?_) (fun h13_0 => ?_)
                  · skip
                    refine AOps.nil ?_
                    refine AWp.seq ?_
                    refine AWp.cond_t rfl ?_
                    refine AWp.skip ?_
                    refine AWp.seq ?_
                    refine AWp.block ?_
                    refine AWp.seq ?_
                    refine AWp.region ?_
                    refine AOps.cons rfl rfl (ok_index_agg te_ok rfl rfl rfl rfl rfl rfl rfl rfl rfl (by first | omega | exact Nat.le_of_ble_eq_true rfl | (simp; omega) | decide | (simp [*]; done)) (by first | omega | exact Nat.le_of_ble_eq_true rfl | (simp; omega) | decide | (simp [*]; done)) rfl rfl) ?_
                    refine AOps.cons rfl rfl (ok_assign rfl (by conv => lhs; whnf) rfl rfl) ?_
                    refine AOps.nil ?_
                    refine AWp.region ?_
                    refine AOps.cons rfl rfl (ok_move rfl (by conv => lhs; whnf) rfl rfl) ?_
                    refine AOps.cons rfl rfl (ok_move rfl (by conv => lhs; whnf) rfl rfl) ?_
                    refine AOps.cons rfl rfl (ok_bin rfl rfl rfl (bi_shr (m := 8) rfl (by decide)) rfl rfl) ?_
                    refine AOps.cons rfl rfl (ok_conv_u8 te_ok rfl rfl rfl rfl rfl rfl rfl) ?_
                    refine AOps.cons rfl rfl (ok_move rfl (by conv => lhs; whnf) rfl rfl) ?_
                    refine AOps.cons rfl rfl (ok_conv_u8 te_ok rfl rfl rfl rfl rfl rfl rfl) ?_
                    refine AOps.cons rfl rfl (ok_buildSlice2 (id := 1606) (vals := [(_, _), (_, _)]) te_ok rfl ⟨rfl, (by conv => lhs; whnf), rfl, (by conv => lhs; whnf), trivial⟩ rfl rfl rfl rfl rfl (by first | (simp only [List.take_succ_cons, List.take_zero, List.drop_succ_cons, List.drop_zero, List.drop_nil, List.take_nil, List.nil_append, List.cons_append, List.append_nil, List.map_cons, List.map_nil, ZC.val, repZ]; rfl) | rfl) rfl rfl rfl rfl) ?_
                    refine AOps.cons rfl rfl (by first | exact ok_append_sl te_ok rfl rfl rfl (by first | rfl | decide | omega) rfl rfl rfl rfl rfl rfl (by first | exact src_sl rfl rfl rfl rfl rfl | exact src_fz rfl (by first | rfl | decide | omega) | exact src_str rfl rfl | exact src_nil rfl | exact src_sl rfl rfl rfl rfl (by first | rfl | decide | omega)) (by first | (intro c hc; simp at hc; done) | (simp [AV.one, Value.oneCell']; done) | exact bs_one _ | (intro c hc; simp at hc; rcases hc with rfl | rfl <;> rfl)) rfl (by first | rfl | decide | omega) (by first | rfl | decide | omega) rfl rfl | exact ok_append_nil (id := 1607) te_ok rfl rfl rfl rfl rfl rfl rfl (by first | exact src_sl rfl rfl rfl rfl rfl | exact src_fz rfl (by first | rfl | decide | omega) | exact src_str rfl rfl | exact src_nil rfl | exact src_sl rfl rfl rfl rfl (by first | rfl | decide | omega)) rfl (by first | rfl | decide | omega) (by first | rfl | decide | omega) rfl rfl) ?_
                    refine AOps.cons rfl rfl (ok_assign rfl (by conv => lhs; whnf) rfl rfl) ?_
                    refine AOps.nil ?_
                    refine AWp.region ?_
                    refine AOps.cons rfl rfl (ok_bin rfl rfl rfl (bi_add (by first | omega | exact Nat.le_of_ble_eq_true rfl | (simp; omega) | decide | (simp [*]; done)) (by first | omega | exact Nat.le_of_ble_eq_true rfl | (simp; omega) | decide | (simp [*]; done))) rfl rfl) ?_
                    refine AOps.cons rfl rfl (ok_move rfl (by conv => lhs; whnf) rfl rfl) ?_
                    refine AOps.nil ?_
                    refine ⟨5, (by decide), ?_, (by decide)⟩
                    exact Weak.mk ⟨⟨by first | rfl | exact i64_eq (by omega) | exact str_eq (by simp) | (simp; done), by first | rfl | (refine AV.refs_ok (lv := 0) ?_; simp [AV.ok, AV.oks, *]; done)⟩, ⟨by first | rfl | exact i64_eq (by omega) | exact str_eq (by simp) | (simp; done), by first | rfl | (refine AV.refs_ok (lv := 0) ?_; simp [AV.ok, AV.oks, *]; done)⟩, ⟨by first | rfl | exact i64_eq (by omega) | exact str_eq (by simp) | (simp; done), by first | rfl | (refine AV.refs_ok (lv := 0) ?_; simp [AV.ok, AV.oks, *]; done)⟩, trivial⟩ ⟨⟨by first | rfl | (simp; done), by exact bs_refs⟩, trivial⟩
                  · exfalso; omega
                · skip
                  refine AOps.dec rfl rfl (ok_bin rfl rfl rfl br_lss rfl rfl) (fun h13_0 => ?_) (fun h13_0 => ?_)
                  · skip
                    refine AOps.nil ?_
                    refine AWp.seq ?_
                    refine AWp.cond_t rfl ?_
                    refine AWp.skip ?_
                    refine AWp.seq ?_
                    refine AWp.block ?_
                    refine AWp.seq ?_
                    refine AWp.region ?_
                    refine AOps.cons rfl rfl (ok_index_agg te_ok rfl rfl rfl rfl rfl rfl rfl rfl rfl (by first | omega | exact Nat.le_of_ble_eq_true rfl | (simp; omega) | decide | (simp [*]; done)) (by first | omega | exact Nat.le_of_ble_eq_true rfl | (simp; omega) | decide | (simp [*]; done)) rfl rfl) ?_
                    refine AOps.cons rfl rfl (ok_assign rfl (by conv => lhs; whnf) rfl rfl) ?_
                    refine AOps.nil ?_
                    refine AWp.region ?_
                    refine AOps.cons rfl rfl (ok_move rfl (by conv => lhs; whnf) rfl rfl) ?_
                    refine AOps.cons rfl rfl (ok_move rfl (by conv => lhs; whnf) rfl rfl) ?_
                    refine AOps.cons rfl rfl (ok_bin rfl rfl rfl (bi_shr (m := 8) rfl (by decide)) rfl rfl) ?_
                    refine AOps.cons rfl rfl (ok_conv_u8 te_ok rfl rfl rfl rfl rfl rfl rfl) ?_
                    refine AOps.cons rfl rfl (ok_move rfl (by conv => lhs; whnf) rfl rfl) ?_
                    refine AOps.cons rfl rfl (ok_conv_u8 te_ok rfl rfl rfl rfl rfl rfl rfl) ?_
                    refine AOps.cons rfl rfl (ok_buildSlice2 (id := 1606) (vals := [(_, _), (_, _)]) te_ok rfl ⟨rfl, (by conv => lhs; whnf), rfl, (by conv => lhs; whnf), trivial⟩ rfl rfl rfl rfl rfl (by first | (simp only [List.take_succ_cons, List.take_zero, List.drop_succ_cons, List.drop_zero, List.drop_nil, List.take_nil, List.nil_append, List.cons_append, List.append_nil, List.map_cons, List.map_nil, ZC.val, repZ]; rfl) | rfl) rfl rfl rfl rfl) ?_
                    refine AOps.cons rfl rfl (by first | exact ok_append_sl te_ok rfl rfl rfl (by first | rfl | decide | omega) rfl rfl rfl rfl rfl rfl (by first | exact src_sl rfl rfl rfl rfl rfl | exact src_fz rfl (by first | rfl | decide | omega) | exact src_str rfl rfl | exact src_nil rfl | exact src_sl rfl rfl rfl rfl (by first | rfl | decide | omega)) (by first | (intro c hc; simp at hc; done) | (simp [AV.one, Value.oneCell']; done) | exact bs_one _ | (intro c hc; simp at hc; rcases hc with rfl | rfl <;> rfl)) rfl (by first | rfl | decide | omega) (by first | rfl | decide | omega) rfl rfl | exact ok_append_nil (id := 1607) te_ok rfl rfl rfl rfl rfl rfl rfl (by first | exact src_sl rfl rfl rfl rfl rfl | exact src_fz rfl (by first | rfl | decide | omega) | exact src_str rfl rfl | exact src_nil rfl | exact src_sl rfl rfl rfl rfl (by first | rfl | decide | omega)) rfl (by first | rfl | decide | omega) (by first | rfl | decide | omega) rfl rfl) ?_
                    refine AOps.cons rfl rfl (ok_assign rfl (by conv => lhs; whnf) rfl rfl) ?_
                    refine AOps.nil ?_
                    refine AWp.region ?_
                    refine AOps.cons rfl rfl (ok_bin rfl rfl rfl (bi_add (by first | omega | exact Nat.le_of_ble_eq_true rfl | (simp; omega) | decide | (simp [*]; done)) (by first | omega | exact Nat.le_of_ble_eq_true rfl | (simp; omega) | decide | (simp [*]; done))) rfl rfl) ?_
                    refine AOps.cons rfl rfl (ok_move rfl (by conv => lhs; whnf) rfl rfl) ?_
                    refine AOps.nil ?_
                    refine ⟨6, (by decide), ?_, (by decide)⟩
                    exact Weak.mk ⟨⟨by first | rfl | exact i64_eq (by omega) | exact str_eq (by simp) | (simp; done), by first | rfl | (refine AV.refs_ok (lv := 0) ?_; simp [AV.ok, AV.oks, *]; done)⟩, ⟨by first | rfl | exact i64_eq (by omega) | exact str_eq (by simp) | (simp; done), by first | rfl | (refine AV.refs_ok (lv := 0) ?_; simp [AV.ok, AV.oks, *]; done)⟩, ⟨by first | rfl | exact i64_eq (by omega) | exact str_eq (by simp) | (simp; done), by first | rfl | (refine AV.refs_ok (lv := 0) ?_; simp [AV.ok, AV.oks, *]; done)⟩, trivial⟩ ⟨⟨by first | rfl | (simp; done), by exact bs_refs⟩, trivial⟩
                  · exfalso; omega
                · skip
                  refine AOps.dec rfl rfl (ok_bin rfl rfl rfl br_lss rfl rfl) (fun h13_0 => ?_) (fun h13_0 => ?_)
                  · exfalso; omega
                  · skip
                    refine AOps.nil ?_
                    refine AWp.seq ?_
                    refine AWp.cond_f rfl ?_
                    refine AWp.exit ?_
                    refine AWp.seq ?_
                    refine AWp.region ?_
                    refine AOps.cons rfl rfl (ok_move rfl (by conv => lhs; whnf) rfl rfl) ?_
                    refine AOps.cons rfl rfl (ok_assign rfl (by conv => lhs; whnf) rfl rfl) ?_
                    refine AOps.cons rfl rfl (ok_assign rfl (by conv => lhs; whnf) rfl rfl) ?_
                    refine AOps.nil ?_
                    refine AWp.ret ?_
                    show Fin te Try.f16 _ _
                    refine Fin.ret2 (xs := [_, _]) (ys := [_, _]) 0 ⟨res_tmp (by conv => lhs; whnf), res_tmp (by conv => lhs; whnf), trivial⟩ ⟨(by first | exact fv_ok rfl | (refine fv_ok ?_; simp [AV.ok, AV.oks]; done) | exact fv_row rfl rfl (by first | rfl | (simp [AV.oks_append, AV.oks_cons, AV.oks_nil, AV.ok_v, AV.ok_fz, AV.ok_fp, bs_oks]; done)) (by first | omega | exact Nat.le_of_ble_eq_true rfl | (simp; omega) | decide | (simp [*]; done)) (by decide) rfl), (by first | exact fv_ok rfl | (refine fv_ok ?_; simp [AV.ok, AV.oks]; done) | exact fv_row rfl rfl (by first | rfl | (simp [AV.oks_append, AV.oks_cons, AV.oks_nil, AV.ok_v, AV.ok_fz, AV.ok_fp, bs_oks]; done)) (by first | omega | exact Nat.le_of_ble_eq_true rfl | (simp; omega) | decide | (simp [*]; done)) (by decide) rfl), trivial⟩ ?_
                    rw [hEnc, if_pos hcan]; rfl

set_option maxRecDepth 20000 in
theorem c_ciceroneref02_short (n : Int) : AC Try.prog 33 [i64 n] emp (Ret (tf (decide (0 ≤ n ∧ n ≤ 65535)))) := by
  refine AC.intro te_ok (fn := Try.f33) ⟨Try.func33, rfl, rfl⟩ (Nat.le_of_ble_eq_true rfl) ?_
  refine AWp.seq ?_
  refine AWp.region ?_
  refine AOps.cons rfl rfl (ok_assign rfl (by conv => lhs; whnf) rfl rfl) ?_
  refine AOps.nil ?_
  refine AWp.seq ?_
  refine AWp.region ?_
  refine AOps.cons rfl rfl (ok_move rfl (by conv => lhs; whnf) rfl rfl) ?_
  refine AOps.dec rfl rfl (ok_bin rfl rfl rfl br_geq rfl rfl) (fun h1_1 => ?_) (fun h1_1 => ?_)
  · skip
    refine AOps.cons rfl rfl (ok_move rfl (by conv => lhs; whnf) rfl rfl) ?_
    refine AOps.gcons rfl rfl rfl rfl rfl (ok_move rfl (by conv => lhs; whnf) rfl rfl) ?_
    refine AOps.gcons rfl rfl rfl rfl rfl (ok_bin rfl rfl rfl br_leq rfl rfl) ?_
    refine AOps.cons rfl rfl (ok_pick rfl rfl (by conv => lhs; whnf) rfl rfl) ?_
    refine AOps.cons rfl rfl (ok_assign rfl (by conv => lhs; whnf) rfl rfl) ?_
    refine AOps.nil ?_
    refine AWp.ret ?_
    show Fin te Try.f33 _ _
    refine Fin.ret2 (xs := [_]) (ys := [_]) 0 ⟨res_tmp (by conv => lhs; whnf), trivial⟩ ⟨(by first | exact fv_ok rfl | (refine fv_ok ?_; simp [AV.ok, AV.oks]; done) | exact fv_row rfl rfl (by first | rfl | (simp [AV.oks_append, AV.oks_cons, AV.oks_nil, AV.ok_v, AV.ok_fz, AV.ok_fp, bs_oks]; done)) (by first | omega | exact Nat.le_of_ble_eq_true rfl | (simp; omega) | decide | (simp [*]; done)) (by decide) rfl), trivial⟩ ?_
    simp [resVal]; omega
  · skip
    refine AOps.cons rfl rfl (ok_move rfl (by conv => lhs; whnf) rfl rfl) ?_
    refine AOps.gskip rfl rfl rfl rfl rfl rfl rfl rfl ?_
    refine AOps.gskip rfl rfl rfl rfl rfl rfl rfl rfl ?_
    refine AOps.cons rfl rfl (ok_pick rfl rfl (by conv => lhs; whnf) rfl rfl) ?_
    refine AOps.cons rfl rfl (ok_assign rfl (by conv => lhs; whnf) rfl rfl) ?_
    refine AOps.nil ?_
    refine AWp.ret ?_
    show Fin te Try.f33 _ _
    refine Fin.ret2 (xs := [_]) (ys := [_]) 0 ⟨res_tmp (by conv => lhs; whnf), trivial⟩ ⟨(by first | exact fv_ok rfl | (refine fv_ok ?_; simp [AV.ok, AV.oks]; done) | exact fv_row rfl rfl (by first | rfl | (simp [AV.oks_append, AV.oks_cons, AV.oks_nil, AV.ok_v, AV.ok_fz, AV.ok_fp, bs_oks]; done)) (by first | omega | exact Nat.le_of_ble_eq_true rfl | (simp; omega) | decide | (simp [*]; done)) (by decide) rfl), trivial⟩ ?_
    simp [resVal]; omega

set_option maxRecDepth 20000 in
theorem c_ciceroneref02_bit (b : Bool) (m : Nat) (hm : m ≤ 16) : AC Try.prog 30 [tf b, i64 m] emp (Ret (i64 (if b then 2 ^ m else 0))) := by
  have hp := pow_le hm
  refine AC.intro te_ok (fn := Try.f30) ⟨Try.func30, rfl, rfl⟩ (Nat.le_of_ble_eq_true rfl) ?_
  refine AWp.seq ?_
  refine AWp.region ?_
  refine AOps.cons rfl rfl (ok_assign rfl (by conv => lhs; whnf) rfl rfl) ?_
  refine AOps.nil ?_
  refine AWp.seq ?_
  refine AWp.seq ?_
  refine AWp.region ?_
  refine AOps.bool rfl rfl (ok_move rfl (by conv => lhs; whnf) rfl rfl) (fun h1_0 => ?_) (fun h1_0 => ?_)
  · skip
    refine AOps.nil ?_
    refine AWp.cond_t rfl ?_
    refine AWp.seq ?_
    refine AWp.region ?_
    refine AOps.cons rfl rfl (ok_move rfl (by conv => lhs; whnf) rfl rfl) ?_
    refine AOps.cons rfl rfl (ok_bin rfl rfl rfl (bi_shl (m := m) rfl (by omega) (by omega) (by omega)) rfl rfl) ?_
    refine AOps.cons rfl rfl (ok_assign rfl (by conv => lhs; whnf) rfl rfl) ?_
    refine AOps.nil ?_
    refine AWp.ret ?_
    show Fin te Try.f30 _ _
    refine Fin.ret2 (xs := [_]) (ys := [_]) 0 ⟨res_tmp (by conv => lhs; whnf), trivial⟩ ⟨(by first | exact fv_ok rfl | (refine fv_ok ?_; simp [AV.ok, AV.oks]; done) | exact fv_row rfl rfl (by first | rfl | (simp [AV.oks_append, AV.oks_cons, AV.oks_nil, AV.ok_v, AV.ok_fz, AV.ok_fp, bs_oks]; done)) (by first | omega | exact Nat.le_of_ble_eq_true rfl | (simp; omega) | decide | (simp [*]; done)) (by decide) rfl), trivial⟩ ?_
    simp [resVal, h1_0]
  · skip
    refine AOps.nil ?_
    refine AWp.cond_f rfl ?_
    refine AWp.skip ?_
    refine AWp.seq ?_
    refine AWp.region ?_
    refine AOps.cons rfl rfl (ok_assign rfl (by conv => lhs; whnf) rfl rfl) ?_
    refine AOps.nil ?_
    refine AWp.ret ?_
    show Fin te Try.f30 _ _
    refine Fin.ret2 (xs := [_]) (ys := [_]) 0 ⟨res_tmp (by conv => lhs; whnf), trivial⟩ ⟨(by first | exact fv_ok rfl | (refine fv_ok ?_; simp [AV.ok, AV.oks]; done) | exact fv_row rfl rfl (by first | rfl | (simp [AV.oks_append, AV.oks_cons, AV.oks_nil, AV.ok_v, AV.ok_fz, AV.ok_fp, bs_oks]; done)) (by first | omega | exact Nat.le_of_ble_eq_true rfl | (simp; omega) | decide | (simp [*]; done)) (by decide) rfl), trivial⟩ ?_
    simp [resVal, h1_0]

set_option maxRecDepth 20000 in
theorem c_ciceroneref02_Can (h : Hd) (c0 c1 c2 c3 : Int) : AC Try.prog 28 [.agg [i64 h.id, tf h.resp, i64 h.op, tf h.aa, tf h.tc, tf h.rd, tf h.ra, i64 h.code], .agg [i64 c0, i64 c1, i64 c2, i64 c3]] emp (Ret (tf (decide (h.can c0 c1 c2 c3)))) := by
  refine AC.intro te_ok (fn := Try.f28) ⟨Try.func28, rfl, rfl⟩ (Nat.le_of_ble_eq_true rfl) ?_
  refine AWp.seq ?_
  refine AWp.region ?_
  refine AOps.cons rfl rfl (ok_box (id := 100) te_ok rfl (by conv => lhs; whnf) rfl rfl rfl rfl) ?_
  refine AOps.cons rfl rfl (ok_box (id := 101) te_ok rfl (by conv => lhs; whnf) rfl rfl rfl rfl) ?_
  refine AOps.cons rfl rfl (ok_assign rfl (by conv => lhs; whnf) rfl rfl) ?_
  refine AOps.nil ?_
  refine AWp.seq ?_
  refine AWp.seq ?_
  refine AWp.region ?_
  refine AOps.cons rfl rfl (by first | exact ok_load_ptr te_ok rfl rfl rfl rfl rfl rfl rfl (by decide) (by conv => lhs; whnf) rfl rfl | exact ok_load_fp te_ok rfl rfl rfl rfl (by decide) (by conv => lhs; whnf) rfl rfl) ?_
  refine AOps.cons rfl rfl (ok_move rfl (by conv => lhs; whnf) rfl rfl) ?_
  refine AOps.nil ?_
  refine AWp.block ?_
  refine AWp.loopI (α := Nat) (fun i => mkS [(2, .ptr 100 0 0), (7, .agg [i64 c0, i64 c1, i64 c2, i64 c3]), (8, i64 i)] [(100, .box [i64 h.id, tf h.resp, i64 h.op, tf h.aa, tf h.tc, tf h.rd, tf h.ra, i64 h.code])]) (fun i => i ≤ 4 ∧ (0 < i → 0 ≤ c0 ∧ c0 ≤ 65535) ∧ (1 < i → 0 ≤ c1 ∧ c1 ≤ 65535) ∧ (2 < i → 0 ≤ c2 ∧ c2 ≤ 65535) ∧ (3 < i → 0 ≤ c3 ∧ c3 ≤ 65535)) (fun i => 4 - i) (0) (by simp) ?_ ?_
  · exact Weak.mk ⟨⟨by first | rfl | exact i64_eq (by omega) | exact str_eq (by simp) | (simp; done), by first | rfl | (refine AV.refs_ok (lv := 0) ?_; simp [AV.ok, AV.oks, *]; done)⟩, ⟨by first | rfl | exact i64_eq (by omega) | exact str_eq (by simp) | (simp; done), by first | rfl | (refine AV.refs_ok (lv := 0) ?_; simp [AV.ok, AV.oks, *]; done)⟩, ⟨by first | rfl | exact i64_eq (by omega) | exact str_eq (by simp) | (simp; done), by first | rfl | (refine AV.refs_ok (lv := 0) ?_; simp [AV.ok, AV.oks, *]; done)⟩, trivial⟩ ⟨⟨by first | rfl | (simp; done), by first | rfl | (simp [ObjIn, AV.refss_append, bs_refs, AV.refss]; done)⟩, trivial⟩
  · rintro i ⟨hi, k0, k1, k2, k3⟩
    refine AWp.seq ?_
    refine AWp.region ?_
    obtain rfl | rfl | rfl | rfl | rfl : i = 0 ∨ i = 1 ∨ i = 2 ∨ i = 3 ∨ i = 4 := by omega
    · skip
      refine AOps.dec rfl rfl (ok_bin rfl rfl rfl br_lss rfl rfl) (fun h2_0 => ?_) (fun h2_0 => ?_)
      · skip
        refine AOps.nil ?_
        refine AWp.seq ?_
        refine AWp.cond_t rfl ?_
        refine AWp.skip ?_
        refine AWp.seq ?_
        refine AWp.block ?_
        refine AWp.seq ?_
        refine AWp.region ?_
        refine AOps.cons rfl rfl (ok_index_agg te_ok rfl rfl rfl rfl rfl rfl rfl rfl rfl (by first | omega | exact Nat.le_of_ble_eq_true rfl | (simp; omega) | decide | (simp [*]; done)) (by first | omega | exact Nat.le_of_ble_eq_true rfl | (simp; omega) | decide | (simp [*]; done)) rfl rfl) ?_
        refine AOps.cons rfl rfl (ok_assign rfl (by conv => lhs; whnf) rfl rfl) ?_
        refine AOps.nil ?_
        refine AWp.seq ?_
        refine AWp.region ?_
        refine AOps.cons rfl rfl (ok_move rfl (by conv => lhs; whnf) rfl rfl) ?_
        refine AOps.dec rfl rfl (ok_call 0 rfl rfl (c_ciceroneref02_short c0) ⟨(by first | exact fv_ok rfl | (refine fv_ok ?_; simp [AV.ok, AV.oks]; done) | exact fv_nil | (refine fv_up ?_ ?_ <;> omega) | exact fv_row rfl rfl (by first | rfl | (simp [AV.oks_append, AV.oks_cons, AV.oks_nil, AV.ok_v, AV.ok_fz, AV.ok_fp, bs_oks]; done)) (by first | omega | exact Nat.le_of_ble_eq_true rfl | (simp; omega) | decide | (simp [*]; done)) (by decide) (by first | rfl | (simp; done) | (simp; rfl) | (simp [bs]; done)) | exact fv_ptr rfl rfl (by first | rfl | (simp [AV.oks_append, AV.oks_cons, AV.oks_nil, AV.ok_v, AV.ok_fz, AV.ok_fp, bs_oks]; done)) (by first | omega | exact Nat.le_of_ble_eq_true rfl | (simp; omega) | decide | (simp [*]; done)) rfl | (refine fv_fn trivial ⟨?_, trivial⟩ <;> (first | exact fv_ok rfl | (refine fv_ok ?_; simp [AV.ok, AV.oks]; done) | exact fv_nil | (refine fv_up ?_ ?_ <;> omega) | exact fv_row rfl rfl (by first | rfl | (simp [AV.oks_append, AV.oks_cons, AV.oks_nil, AV.ok_v, AV.ok_fz, AV.ok_fp, bs_oks]; done)) (by first | omega | exact Nat.le_of_ble_eq_true rfl | (simp; omega) | decide | (simp [*]; done)) (by decide) (by first | rfl | (simp; done) | (simp; rfl) | (simp [bs]; done)) | exact fv_ptr rfl rfl (by first | rfl | (simp [AV.oks_append, AV.oks_cons, AV.oks_nil, AV.ok_v, AV.ok_fz, AV.ok_fp, bs_oks]; done)) (by first | omega | exact Nat.le_of_ble_eq_true rfl | (simp; omega) | decide | (simp [*]; done)) rfl)) | (refine fv_fn trivial ⟨?_, ?_, trivial⟩ <;> (first | exact fv_ok rfl | (refine fv_ok ?_; simp [AV.ok, AV.oks]; done) | exact fv_nil | (refine fv_up ?_ ?_ <;> omega) | exact fv_row rfl rfl (by first | rfl | (simp [AV.oks_append, AV.oks_cons, AV.oks_nil, AV.ok_v, AV.ok_fz, AV.ok_fp, bs_oks]; done)) (by first | omega | exact Nat.le_of_ble_eq_true rfl | (simp; omega) | decide | (simp [*]; done)) (by decide) (by first | rfl | (simp; done) | (simp; rfl) | (simp [bs]; done)) | exact fv_ptr rfl rfl (by first | rfl | (simp [AV.oks_append, AV.oks_cons, AV.oks_nil, AV.ok_v, AV.ok_fz, AV.ok_fp, bs_oks]; done)) (by first | omega | exact Nat.le_of_ble_eq_true rfl | (simp; omega) | decide | (simp [*]; done)) rfl)) | (refine fv_fn trivial ⟨?_, ?_, ?_, trivial⟩ <;> (first | exact fv_ok rfl | (refine fv_ok ?_; simp [AV.ok, AV.oks]; done) | exact fv_nil | (refine fv_up ?_ ?_ <;> omega) | exact fv_row rfl rfl (by first | rfl | (simp [AV.oks_append, AV.oks_cons, AV.oks_nil, AV.ok_v, AV.ok_fz, AV.ok_fp, bs_oks]; done)) (by first | omega | exact Nat.le_of_ble_eq_true rfl | (simp; omega) | decide | (simp [*]; done)) (by decide) (by first | rfl | (simp; done) | (simp; rfl) | (simp [bs]; done)) | exact fv_ptr rfl rfl (by first | rfl | (simp [AV.oks_append, AV.oks_cons, AV.oks_nil, AV.ok_v, AV.ok_fz, AV.ok_fp, bs_oks]; done)) (by first | omega | exact Nat.le_of_ble_eq_true rfl | (simp; omega) | decide | (simp [*]; done)) rfl))), trivial⟩ (by first | rfl | (simp [AV.ok, AV.oks]; done)) rfl rfl) (fun h4_1 => ?_) (fun h4_1 => ?_)
        · skip
          refine AOps.cons rfl rfl (ok_not rfl rfl rfl rfl) ?_
          refine AOps.nil ?_
          refine AWp.cond_f rfl ?_
          refine AWp.skip ?_
          refine AWp.region ?_
          refine AOps.cons rfl rfl (ok_bin rfl rfl rfl (bi_add (by first | omega | exact Nat.le_of_ble_eq_true rfl | (simp; omega) | decide | (simp [*]; done)) (by first | omega | exact Nat.le_of_ble_eq_true rfl | (simp; omega) | decide | (simp [*]; done))) rfl rfl) ?_
          refine AOps.cons rfl rfl (ok_move rfl (by conv => lhs; whnf) rfl rfl) ?_
          refine AOps.nil ?_
          refine ⟨1, (by simp at *; omega), ?_, (by decide)⟩
          exact Weak.mk ⟨⟨by first | rfl | exact i64_eq (by omega) | exact str_eq (by simp) | (simp; done), by first | rfl | (refine AV.refs_ok (lv := 0) ?_; simp [AV.ok, AV.oks, *]; done)⟩, ⟨by first | rfl | exact i64_eq (by omega) | exact str_eq (by simp) | (simp; done), by first | rfl | (refine AV.refs_ok (lv := 0) ?_; simp [AV.ok, AV.oks, *]; done)⟩, ⟨by first | rfl | exact i64_eq (by omega) | exact str_eq (by simp) | (simp; done), by first | rfl | (refine AV.refs_ok (lv := 0) ?_; simp [AV.ok, AV.oks, *]; done)⟩, trivial⟩ ⟨⟨by first | rfl | (simp; done), by first | rfl | (simp [ObjIn, AV.refss_append, bs_refs, AV.refss]; done)⟩, trivial⟩
        · skip
          refine AOps.cons rfl rfl (ok_not rfl rfl rfl rfl) ?_
          refine AOps.nil ?_
          refine AWp.cond_t rfl ?_
          refine AWp.seq ?_
          refine AWp.region ?_
          refine AOps.cons rfl rfl (ok_assign rfl (by conv => lhs; whnf) rfl rfl) ?_
          refine AOps.nil ?_
          refine AWp.ret ?_
          show Fin te Try.f28 _ _
          refine Fin.ret2 (xs := [_]) (ys := [_]) 0 ⟨res_tmp (by conv => lhs; whnf), trivial⟩ ⟨(by first | exact fv_ok rfl | (refine fv_ok ?_; simp [AV.ok, AV.oks]; done) | exact fv_row rfl rfl (by first | rfl | (simp [AV.oks_append, AV.oks_cons, AV.oks_nil, AV.ok_v, AV.ok_fz, AV.ok_fp, bs_oks]; done)) (by first | omega | exact Nat.le_of_ble_eq_true rfl | (simp; omega) | decide | (simp [*]; done)) (by decide) rfl), trivial⟩ ?_
          exact tf_dec (by simp [Hd.can]; omega)
      · exfalso; omega
    · skip
      refine AOps.dec rfl rfl (ok_bin rfl rfl rfl br_lss rfl rfl) (fun h2_0 => ?_) (fun h2_0 => ?_)
      · skip
        refine AOps.nil ?_
        refine AWp.seq ?_
        refine AWp.cond_t rfl ?_
        refine AWp.skip ?_
        refine AWp.seq ?_
        refine AWp.block ?_
        refine AWp.seq ?_
        refine AWp.region ?_
        refine AOps.cons rfl rfl (ok_index_agg te_ok rfl rfl rfl rfl rfl rfl rfl rfl rfl (by first | omega | exact Nat.le_of_ble_eq_true rfl | (simp; omega) | decide | (simp [*]; done)) (by first | omega | exact Nat.le_of_ble_eq_true rfl | (simp; omega) | decide | (simp [*]; done)) rfl rfl) ?_
        refine AOps.cons rfl rfl (ok_assign rfl (by conv => lhs; whnf) rfl rfl) ?_
        refine AOps.nil ?_
        refine AWp.seq ?_
        refine AWp.region ?_
        refine AOps.cons rfl rfl (ok_move rfl (by conv => lhs; whnf) rfl rfl) ?_
        refine AOps.dec rfl rfl (ok_call 0 rfl rfl (c_ciceroneref02_short c1) ⟨(by first | exact fv_ok rfl | (refine fv_ok ?_; simp [AV.ok, AV.oks]; done) | exact fv_nil | (refine fv_up ?_ ?_ <;> omega) | exact fv_row rfl rfl (by first | rfl | (simp [AV.oks_append, AV.oks_cons, AV.oks_nil, AV.ok_v, AV.ok_fz, AV.ok_fp, bs_oks]; done)) (by first | omega | exact Nat.le_of_ble_eq_true rfl | (simp; omega) | decide | (simp [*]; done)) (by decide) (by first | rfl | (simp; done) | (simp; rfl) | (simp [bs]; done)) | exact fv_ptr rfl rfl (by first | rfl | (simp [AV.oks_append, AV.oks_cons, AV.oks_nil, AV.ok_v, AV.ok_fz, AV.ok_fp, bs_oks]; done)) (by first | omega | exact Nat.le_of_ble_eq_true rfl | (simp; omega) | decide | (simp [*]; done)) rfl | (refine fv_fn trivial ⟨?_, trivial⟩ <;> (first | exact fv_ok rfl | (refine fv_ok ?_; simp [AV.ok, AV.oks]; done) | exact fv_nil | (refine fv_up ?_ ?_ <;> omega) | exact fv_row rfl rfl (by first | rfl | (simp [AV.oks_append, AV.oks_cons, AV.oks_nil, AV.ok_v, AV.ok_fz, AV.ok_fp, bs_oks]; done)) (by first | omega | exact Nat.le_of_ble_eq_true rfl | (simp; omega) | decide | (simp [*]; done)) (by decide) (by first | rfl | (simp; done) | (simp; rfl) | (simp [bs]; done)) | exact fv_ptr rfl rfl (by first | rfl | (simp [AV.oks_append, AV.oks_cons, AV.oks_nil, AV.ok_v, AV.ok_fz, AV.ok_fp, bs_oks]; done)) (by first | omega | exact Nat.le_of_ble_eq_true rfl | (simp; omega) | decide | (simp [*]; done)) rfl)) | (refine fv_fn trivial ⟨?_, ?_, trivial⟩ <;> (first | exact fv_ok rfl | (refine fv_ok ?_; simp [AV.ok, AV.oks]; done) | exact fv_nil | (refine fv_up ?_ ?_ <;> omega) | exact fv_row rfl rfl (by first | rfl | (simp [AV.oks_append, AV.oks_cons, AV.oks_nil, AV.ok_v, AV.ok_fz, AV.ok_fp, bs_oks]; done)) (by first | omega | exact Nat.le_of_ble_eq_true rfl | (simp; omega) | decide | (simp [*]; done)) (by decide) (by first | rfl | (simp; done) | (simp; rfl) | (simp [bs]; done)) | exact fv_ptr rfl rfl (by first | rfl | (simp [AV.oks_append, AV.oks_cons, AV.oks_nil, AV.ok_v, AV.ok_fz, AV.ok_fp, bs_oks]; done)) (by first | omega | exact Nat.le_of_ble_eq_true rfl | (simp; omega) | decide | (simp [*]; done)) rfl)) | (refine fv_fn trivial ⟨?_, ?_, ?_, trivial⟩ <;> (first | exact fv_ok rfl | (refine fv_ok ?_; simp [AV.ok, AV.oks]; done) | exact fv_nil | (refine fv_up ?_ ?_ <;> omega) | exact fv_row rfl rfl (by first | rfl | (simp [AV.oks_append, AV.oks_cons, AV.oks_nil, AV.ok_v, AV.ok_fz, AV.ok_fp, bs_oks]; done)) (by first | omega | exact Nat.le_of_ble_eq_true rfl | (simp; omega) | decide | (simp [*]; done)) (by decide) (by first | rfl | (simp; done) | (simp; rfl) | (simp [bs]; done)) | exact fv_ptr rfl rfl (by first | rfl | (simp [AV.oks_append, AV.oks_cons, AV.oks_nil, AV.ok_v, AV.ok_fz, AV.ok_fp, bs_oks]; done)) (by first | omega | exact Nat.le_of_ble_eq_true rfl | (simp; omega) | decide | (simp [*]; done)) rfl))), trivial⟩ (by first | rfl | (simp [AV.ok, AV.oks]; done)) rfl rfl) (fun h4_1 => ?_) (fun h4_1 => ?_)
        · skip
          refine AOps.cons rfl rfl (ok_not rfl rfl rfl rfl) ?_
          refine AOps.nil ?_
          refine AWp.cond_f rfl ?_
          refine AWp.skip ?_
          refine AWp.region ?_
          refine AOps.cons rfl rfl (ok_bin rfl rfl rfl (bi_add (by first | omega | exact Nat.le_of_ble_eq_true rfl | (simp; omega) | decide | (simp [*]; done)) (by first | omega | exact Nat.le_of_ble_eq_true rfl | (simp; omega) | decide | (simp [*]; done))) rfl rfl) ?_
          refine AOps.cons rfl rfl (ok_move rfl (by conv => lhs; whnf) rfl rfl) ?_
          refine AOps.nil ?_
          refine ⟨2, (by simp at *; omega), ?_, (by decide)⟩
          exact Weak.mk ⟨⟨by first | rfl | exact i64_eq (by omega) | exact str_eq (by simp) | (simp; done), by first | rfl | (refine AV.refs_ok (lv := 0) ?_; simp [AV.ok, AV.oks, *]; done)⟩, ⟨by first | rfl | exact i64_eq (by omega) | exact str_eq (by simp) | (simp; done), by first | rfl | (refine AV.refs_ok (lv := 0) ?_; simp [AV.ok, AV.oks, *]; done)⟩, ⟨by first | rfl | exact i64_eq (by omega) | exact str_eq (by simp) | (simp; done), by first | rfl | (refine AV.refs_ok (lv := 0) ?_; simp [AV.ok, AV.oks, *]; done)⟩, trivial⟩ ⟨⟨by first | rfl | (simp; done), by first | rfl | (simp [ObjIn, AV.refss_append, bs_refs, AV.refss]; done)⟩, trivial⟩
        · skip
          refine AOps.cons rfl rfl (ok_not rfl rfl rfl rfl) ?_
          refine AOps.nil ?_
          refine AWp.cond_t rfl ?_
          refine AWp.seq ?_
          refine AWp.region ?_
          refine AOps.cons rfl rfl (ok_assign rfl (by conv => lhs; whnf) rfl rfl) ?_
          refine AOps.nil ?_
          refine AWp.ret ?_
          show Fin te Try.f28 _ _
          refine Fin.ret2 (xs := [_]) (ys := [_]) 0 ⟨res_tmp (by conv => lhs; whnf), trivial⟩ ⟨(by first | exact fv_ok rfl | (refine fv_ok ?_; simp [AV.ok, AV.oks]; done) | exact fv_row rfl rfl (by first | rfl | (simp [AV.oks_append, AV.oks_cons, AV.oks_nil, AV.ok_v, AV.ok_fz, AV.ok_fp, bs_oks]; done)) (by first | omega | exact Nat.le_of_ble_eq_true rfl | (simp; omega) | decide | (simp [*]; done)) (by decide) rfl), trivial⟩ ?_
          exact tf_dec (by simp [Hd.can]; omega)
      · exfalso; omega
    · skip
      refine AOps.dec rfl rfl (ok_bin rfl rfl rfl br_lss rfl rfl) (fun h2_0 => ?_) (fun h2_0 => ?_)
      · skip
        refine AOps.nil ?_
        refine AWp.seq ?_
        refine AWp.cond_t rfl ?_
        refine AWp.skip ?_
        refine AWp.seq ?_
        refine AWp.block ?_
        refine AWp.seq ?_
        refine AWp.region ?_
        refine AOps.cons rfl rfl (ok_index_agg te_ok rfl rfl rfl rfl rfl rfl rfl rfl rfl (by first | omega | exact Nat.le_of_ble_eq_true rfl | (simp; omega) | decide | (simp [*]; done)) (by first | omega | exact Nat.le_of_ble_eq_true rfl | (simp; omega) | decide | (simp [*]; done)) rfl rfl) ?_
        refine AOps.cons rfl rfl (ok_assign rfl (by conv => lhs; whnf) rfl rfl) ?_
        refine AOps.nil ?_
        refine AWp.seq ?_
        refine AWp.region ?_
        refine AOps.cons rfl rfl (ok_move rfl (by conv => lhs; whnf) rfl rfl) ?_
        refine AOps.dec rfl rfl (ok_call 0 rfl rfl (c_ciceroneref02_short c2) ⟨(by first | exact fv_ok rfl | (refine fv_ok ?_; simp [AV.ok, AV.oks]; done) | exact fv_nil | (refine fv_up ?_ ?_ <;> omega) | exact fv_row rfl rfl (by first | rfl | (simp [AV.oks_append, AV.oks_cons, AV.oks_nil, AV.ok_v, AV.ok_fz, AV.ok_fp, bs_oks]; done)) (by first | omega | exact Nat.le_of_ble_eq_true rfl | (simp; omega) | decide | (simp [*]; done)) (by decide) (by first | rfl | (simp; done) | (simp; rfl) | (simp [bs]; done)) | exact fv_ptr rfl rfl (by first | rfl | (simp [AV.oks_append, AV.oks_cons, AV.oks_nil, AV.ok_v, AV.ok_fz, AV.ok_fp, bs_oks]; done)) (by first | omega | exact Nat.le_of_ble_eq_true rfl | (simp; omega) | decide | (simp [*]; done)) rfl | (refine fv_fn trivial ⟨?_, trivial⟩ <;> (first | exact fv_ok rfl | (refine fv_ok ?_; simp [AV.ok, AV.oks]; done) | exact fv_nil | (refine fv_up ?_ ?_ <;> omega) | exact fv_row rfl rfl (by first | rfl | (simp [AV.oks_append, AV.oks_cons, AV.oks_nil, AV.ok_v, AV.ok_fz, AV.ok_fp, bs_oks]; done)) (by first | omega | exact Nat.le_of_ble_eq_true rfl | (simp; omega) | decide | (simp [*]; done)) (by decide) (by first | rfl | (simp; done) | (simp; rfl) | (simp [bs]; done)) | exact fv_ptr rfl rfl (by first | rfl | (simp [AV.oks_append, AV.oks_cons, AV.oks_nil, AV.ok_v, AV.ok_fz, AV.ok_fp, bs_oks]; done)) (by first | omega | exact Nat.le_of_ble_eq_true rfl | (simp; omega) | decide | (simp [*]; done)) rfl)) | (refine fv_fn trivial ⟨?_, ?_, trivial⟩ <;> (first | exact fv_ok rfl | (refine fv_ok ?_; simp [AV.ok, AV.oks]; done) | exact fv_nil | (refine fv_up ?_ ?_ <;> omega) | exact fv_row rfl rfl (by first | rfl | (simp [AV.oks_append, AV.oks_cons, AV.oks_nil, AV.ok_v, AV.ok_fz, AV.ok_fp, bs_oks]; done)) (by first | omega | exact Nat.le_of_ble_eq_true rfl | (simp; omega) | decide | (simp [*]; done)) (by decide) (by first | rfl | (simp; done) | (simp; rfl) | (simp [bs]; done)) | exact fv_ptr rfl rfl (by first | rfl | (simp [AV.oks_append, AV.oks_cons, AV.oks_nil, AV.ok_v, AV.ok_fz, AV.ok_fp, bs_oks]; done)) (by first | omega | exact Nat.le_of_ble_eq_true rfl | (simp; omega) | decide | (simp [*]; done)) rfl)) | (refine fv_fn trivial ⟨?_, ?_, ?_, trivial⟩ <;> (first | exact fv_ok rfl | (refine fv_ok ?_; simp [AV.ok, AV.oks]; done) | exact fv_nil | (refine fv_up ?_ ?_ <;> omega) | exact fv_row rfl rfl (by first | rfl | (simp [AV.oks_append, AV.oks_cons, AV.oks_nil, AV.ok_v, AV.ok_fz, AV.ok_fp, bs_oks]; done)) (by first | omega | exact Nat.le_of_ble_eq_true rfl | (simp; omega) | decide | (simp [*]; done)) (by decide) (by first | rfl | (simp; done) | (simp; rfl) | (simp [bs]; done)) | exact fv_ptr rfl rfl (by first | rfl | (simp [AV.oks_append, AV.oks_cons, AV.oks_nil, AV.ok_v, AV.ok_fz, AV.ok_fp, bs_oks]; done)) (by first | omega | exact Nat.le_of_ble_eq_true rfl | (simp; omega) | decide | (simp [*]; done)) rfl))), trivial⟩ (by first | rfl | (simp [AV.ok, AV.oks]; done)) rfl rfl) (fun h4_1 => ?_) (fun h4_1 => ?_)
        · skip
          refine AOps.cons rfl rfl (ok_not rfl rfl rfl rfl) ?_
          refine AOps.nil ?_
          refine AWp.cond_f rfl ?_
          refine AWp.skip ?_
          refine AWp.region ?_
          refine AOps.cons rfl rfl (ok_bin rfl rfl rfl (bi_add (by first | omega | exact Nat.le_of_ble_eq_true rfl | (simp; omega) | decide | (simp [*]; done)) (by first | omega | exact Nat.le_of_ble_eq_true rfl | (simp; omega) | decide | (simp [*]; done))) rfl rfl) ?_
          refine AOps.cons rfl rfl (ok_move rfl (by conv => lhs; whnf) rfl rfl) ?_
          refine AOps.nil ?_
          refine ⟨3, (by simp at *; omega), ?_, (by decide)⟩
          exact Weak.mk ⟨⟨by first | rfl | exact i64_eq (by omega) | exact str_eq (by simp) | (simp; done), by first | rfl | (refine AV.refs_ok (lv := 0) ?_; simp [AV.ok, AV.oks, *]; done)⟩, ⟨by first | rfl | exact i64_eq (by omega) | exact str_eq (by simp) | (simp; done), by first | rfl | (refine AV.refs_ok (lv := 0) ?_; simp [AV.ok, AV.oks, *]; done)⟩, ⟨by first | rfl | exact i64_eq (by omega) | exact str_eq (by simp) | (simp; done), by first | rfl | (refine AV.refs_ok (lv := 0) ?_; simp [AV.ok, AV.oks, *]; done)⟩, trivial⟩ ⟨⟨by first | rfl | (simp; done), by first | rfl | (simp [ObjIn, AV.refss_append, bs_refs, AV.refss]; done)⟩, trivial⟩
        · skip
          refine AOps.cons rfl rfl (ok_not rfl rfl rfl rfl) ?_
          refine AOps.nil ?_
          refine AWp.cond_t rfl ?_
          refine AWp.seq ?_
          refine AWp.region ?_
          refine AOps.cons rfl rfl (ok_assign rfl (by conv => lhs; whnf) rfl rfl) ?_
          refine AOps.nil ?_
          refine AWp.ret ?_
          show Fin te Try.f28 _ _
          refine Fin.ret2 (xs := [_]) (ys := [_]) 0 ⟨res_tmp (by conv => lhs; whnf), trivial⟩ ⟨(by first | exact fv_ok rfl | (refine fv_ok ?_; simp [AV.ok, AV.oks]; done) | exact fv_row rfl rfl (by first | rfl | (simp [AV.oks_append, AV.oks_cons, AV.oks_nil, AV.ok_v, AV.ok_fz, AV.ok_fp, bs_oks]; done)) (by first | omega | exact Nat.le_of_ble_eq_true rfl | (simp; omega) | decide | (simp [*]; done)) (by decide) rfl), trivial⟩ ?_
          exact tf_dec (by simp [Hd.can]; omega)
      · exfalso; omega
    · skip
      refine AOps.dec rfl rfl (ok_bin rfl rfl rfl br_lss rfl rfl) (fun h2_0 => ?_) (fun h2_0 => ?_)
      · skip
        refine AOps.nil ?_
        refine AWp.seq ?_
        refine AWp.cond_t rfl ?_
        refine AWp.skip ?_
        refine AWp.seq ?_
        refine AWp.block ?_
        refine AWp.seq ?_
        refine AWp.region ?_
        refine AOps.cons rfl rfl (ok_index_agg te_ok rfl rfl rfl rfl rfl rfl rfl rfl rfl (by first | omega | exact Nat.le_of_ble_eq_true rfl | (simp; omega) | decide | (simp [*]; done)) (by first | omega | exact Nat.le_of_ble_eq_true rfl | (simp; omega) | decide | (simp [*]; done)) rfl rfl) ?_
        refine AOps.cons rfl rfl (ok_assign rfl (by conv => lhs; whnf) rfl rfl) ?_
        refine AOps.nil ?_
        refine AWp.seq ?_
        refine AWp.region ?_
        refine AOps.cons rfl rfl (ok_move rfl (by conv => lhs; whnf) rfl rfl) ?_
        refine AOps.dec rfl rfl (ok_call 0 rfl rfl (c_ciceroneref02_short c3) ⟨(by first | exact fv_ok rfl | (refine fv_ok ?_; simp [AV.ok, AV.oks]; done) | exact fv_nil | (refine fv_up ?_ ?_ <;> omega) | exact fv_row rfl rfl (by first | rfl | (simp [AV.oks_append, AV.oks_cons, AV.oks_nil, AV.ok_v, AV.ok_fz, AV.ok_fp, bs_oks]; done)) (by first | omega | exact Nat.le_of_ble_eq_true rfl | (simp; omega) | decide | (simp [*]; done)) (by decide) (by first | rfl | (simp; done) | (simp; rfl) | (simp [bs]; done)) | exact fv_ptr rfl rfl (by first | rfl | (simp [AV.oks_append, AV.oks_cons, AV.oks_nil, AV.ok_v, AV.ok_fz, AV.ok_fp, bs_oks]; done)) (by first | omega | exact Nat.le_of_ble_eq_true rfl | (simp; omega) | decide | (simp [*]; done)) rfl | (refine fv_fn trivial ⟨?_, trivial⟩ <;> (first | exact fv_ok rfl | (refine fv_ok ?_; simp [AV.ok, AV.oks]; done) | exact fv_nil | (refine fv_up ?_ ?_ <;> omega) | exact fv_row rfl rfl (by first | rfl | (simp [AV.oks_append, AV.oks_cons, AV.oks_nil, AV.ok_v, AV.ok_fz, AV.ok_fp, bs_oks]; done)) (by first | omega | exact Nat.le_of_ble_eq_true rfl | (simp; omega) | decide | (simp [*]; done)) (by decide) (by first | rfl | (simp; done) | (simp; rfl) | (simp [bs]; done)) | exact fv_ptr rfl rfl (by first | rfl | (simp [AV.oks_append, AV.oks_cons, AV.oks_nil, AV.ok_v, AV.ok_fz, AV.ok_fp, bs_oks]; done)) (by first | omega | exact Nat.le_of_ble_eq_true rfl | (simp; omega) | decide | (simp [*]; done)) rfl)) | (refine fv_fn trivial ⟨?_, ?_, trivial⟩ <;> (first | exact fv_ok rfl | (refine fv_ok ?_; simp [AV.ok, AV.oks]; done) | exact fv_nil | (refine fv_up ?_ ?_ <;> omega) | exact fv_row rfl rfl (by first | rfl | (simp [AV.oks_append, AV.oks_cons, AV.oks_nil, AV.ok_v, AV.ok_fz, AV.ok_fp, bs_oks]; done)) (by first | omega | exact Nat.le_of_ble_eq_true rfl | (simp; omega) | decide | (simp [*]; done)) (by decide) (by first | rfl | (simp; done) | (simp; rfl) | (simp [bs]; done)) | exact fv_ptr rfl rfl (by first | rfl | (simp [AV.oks_append, AV.oks_cons, AV.oks_nil, AV.ok_v, AV.ok_fz, AV.ok_fp, bs_oks]; done)) (by first | omega | exact Nat.le_of_ble_eq_true rfl | (simp; omega) | decide | (simp [*]; done)) rfl)) | (refine fv_fn trivial ⟨?_, ?_, ?_, trivial⟩ <;> (first | exact fv_ok rfl | (refine fv_ok ?_; simp [AV.ok, AV.oks]; done) | exact fv_nil | (refine fv_up ?_ ?_ <;> omega) | exact fv_row rfl rfl (by first | rfl | (simp [AV.oks_append, AV.oks_cons, AV.oks_nil, AV.ok_v, AV.ok_fz, AV.ok_fp, bs_oks]; done)) (by first | omega | exact Nat.le_of_ble_eq_true rfl | (simp; omega) | decide | (simp [*]; done)) (by decide) (by first | rfl | (simp; done) | (simp; rfl) | (simp [bs]; done)) | exact fv_ptr rfl rfl (by first | rfl | (simp [AV.oks_append, AV.oks_cons, AV.oks_nil, AV.ok_v, AV.ok_fz, AV.ok_fp, bs_oks]; done)) (by first | omega | exact Nat.le_of_ble_eq_true rfl | (simp; omega) | decide | (simp [*]; done)) rfl))), trivial⟩ (by first | rfl | (simp [AV.ok, AV.oks]; done)) rfl rfl) (fun h4_1 => ?_) (fun h4_1 => ?_)
        · skip
          refine AOps.cons rfl rfl (ok_not rfl rfl rfl rfl) ?_
          refine AOps.nil ?_
          refine AWp.cond_f rfl ?_
          refine AWp.skip ?_
          refine AWp.region ?_
          refine AOps.cons rfl rfl (ok_bin rfl rfl rfl (bi_add (by first | omega | exact Nat.le_of_ble_eq_true rfl | (simp; omega) | decide | (simp [*]; done)) (by first | omega | exact Nat.le_of_ble_eq_true rfl | (simp; omega) | decide | (simp [*]; done))) rfl rfl) ?_
          refine AOps.cons rfl rfl (ok_move rfl (by conv => lhs; whnf) rfl rfl) ?_
          refine AOps.nil ?_
          refine ⟨4, (by simp at *; omega), ?_, (by decide)⟩
          exact Weak.mk ⟨⟨by first | rfl | exact i64_eq (by omega) | exact str_eq (by simp) | (simp; done), by first | rfl | (refine AV.refs_ok (lv := 0) ?_; simp [AV.ok, AV.oks, *]; done)⟩, ⟨by first | rfl | exact i64_eq (by omega) | exact str_eq (by simp) | (simp; done), by first | rfl | (refine AV.refs_ok (lv := 0) ?_; simp [AV.ok, AV.oks, *]; done)⟩, ⟨by first | rfl | exact i64_eq (by omega) | exact str_eq (by simp) | (simp; done), by first | rfl | (refine AV.refs_ok (lv := 0) ?_; simp [AV.ok, AV.oks, *]; done)⟩, trivial⟩ ⟨⟨by first | rfl | (simp; done), by first | rfl | (simp [ObjIn, AV.refss_append, bs_refs, AV.refss]; done)⟩, trivial⟩
        · skip
          refine AOps.cons rfl rfl (ok_not rfl rfl rfl rfl) ?_
          refine AOps.nil ?_
          refine AWp.cond_t rfl ?_
          refine AWp.seq ?_
          refine AWp.region ?_
          refine AOps.cons rfl rfl (ok_assign rfl (by conv => lhs; whnf) rfl rfl) ?_
          refine AOps.nil ?_
          refine AWp.ret ?_
          show Fin te Try.f28 _ _
          refine Fin.ret2 (xs := [_]) (ys := [_]) 0 ⟨res_tmp (by conv => lhs; whnf), trivial⟩ ⟨(by first | exact fv_ok rfl | (refine fv_ok ?_; simp [AV.ok, AV.oks]; done) | exact fv_row rfl rfl (by first | rfl | (simp [AV.oks_append, AV.oks_cons, AV.oks_nil, AV.ok_v, AV.ok_fz, AV.ok_fp, bs_oks]; done)) (by first | omega | exact Nat.le_of_ble_eq_true rfl | (simp; omega) | decide | (simp [*]; done)) (by decide) rfl), trivial⟩ ?_
          exact tf_dec (by simp [Hd.can]; omega)
      · exfalso; omega
    · skip
      refine AOps.dec rfl rfl (ok_bin rfl rfl rfl br_lss rfl rfl) (fun h2_0 => ?_) (fun h2_0 => ?_)
      · exfalso; omega
      · skip
        refine AOps.nil ?_
        refine AWp.seq ?_
        refine AWp.cond_f rfl ?_
        refine AWp.exit ?_
        refine AWp.seq ?_
        refine AWp.region ?_
        refine AOps.cons rfl rfl (by first | exact ok_fieldAddr_ptr te_ok rfl rfl rfl rfl rfl rfl (by decide) ⟨_, rfl, rfl⟩ rfl rfl | exact ok_fieldAddr_fp te_ok rfl rfl rfl rfl rfl rfl (by decide) rfl rfl rfl rfl) ?_
        refine AOps.cons rfl rfl (by first | exact ok_load_ptr te_ok rfl rfl rfl rfl rfl rfl rfl (by decide) (by conv => lhs; whnf) rfl rfl | exact ok_load_fp te_ok rfl rfl rfl rfl (by decide) (by conv => lhs; whnf) rfl rfl) ?_
        refine AOps.dec rfl rfl (ok_call 0 rfl rfl (c_ciceroneref02_short h.id) ⟨(by first | exact fv_ok rfl | (refine fv_ok ?_; simp [AV.ok, AV.oks]; done) | exact fv_nil | (refine fv_up ?_ ?_ <;> omega) | exact fv_row rfl rfl (by first | rfl | (simp [AV.oks_append, AV.oks_cons, AV.oks_nil, AV.ok_v, AV.ok_fz, AV.ok_fp, bs_oks]; done)) (by first | omega | exact Nat.le_of_ble_eq_true rfl | (simp; omega) | decide | (simp [*]; done)) (by decide) (by first | rfl | (simp; done) | (simp; rfl) | (simp [bs]; done)) | exact fv_ptr rfl rfl (by first | rfl | (simp [AV.oks_append, AV.oks_cons, AV.oks_nil, AV.ok_v, AV.ok_fz, AV.ok_fp, bs_oks]; done)) (by first | omega | exact Nat.le_of_ble_eq_true rfl | (simp; omega) | decide | (simp [*]; done)) rfl | (refine fv_fn trivial ⟨?_, trivial⟩ <;> (first | exact fv_ok rfl | (refine fv_ok ?_; simp [AV.ok, AV.oks]; done) | exact fv_nil | (refine fv_up ?_ ?_ <;> omega) | exact fv_row rfl rfl (by first | rfl | (simp [AV.oks_append, AV.oks_cons, AV.oks_nil, AV.ok_v, AV.ok_fz, AV.ok_fp, bs_oks]; done)) (by first | omega | exact Nat.le_of_ble_eq_true rfl | (simp; omega) | decide | (simp [*]; done)) (by decide) (by first | rfl | (simp; done) | (simp; rfl) | (simp [bs]; done)) | exact fv_ptr rfl rfl (by first | rfl | (simp [AV.oks_append, AV.oks_cons, AV.oks_nil, AV.ok_v, AV.ok_fz, AV.ok_fp, bs_oks]; done)) (by first | omega | exact Nat.le_of_ble_eq_true rfl | (simp; omega) | decide | (simp [*]; done)) rfl)) | (refine fv_fn trivial ⟨?_, ?_, trivial⟩ <;> (first | exact fv_ok rfl | (refine fv_ok ?_; simp [AV.ok, AV.oks]; done) | exact fv_nil | (refine fv_up ?_ ?_ <;> omega) | exact fv_row rfl rfl (by first | rfl | (simp [AV.oks_append, AV.oks_cons, AV.oks_nil, AV.ok_v, AV.ok_fz, AV.ok_fp, bs_oks]; done)) (by first | omega | exact Nat.le_of_ble_eq_true rfl | (simp; omega) | decide | (simp [*]; done)) (by decide) (by first | rfl | (simp; done) | (simp; rfl) | (simp [bs]; done)) | exact fv_ptr rfl rfl (by first | rfl | (simp [AV.oks_append, AV.oks_cons, AV.oks_nil, AV.ok_v, AV.ok_fz, AV.ok_fp, bs_oks]; done)) (by first | omega | exact Nat.le_of_ble_eq_true rfl | (simp; omega) | decide | (simp [*]; done)) rfl)) | (refine fv_fn trivial ⟨?_, ?_, ?_, trivial⟩ <;> (first | exact fv_ok rfl | (refine fv_ok ?_; simp [AV.ok, AV.oks]; done) | exact fv_nil | (refine fv_up ?_ ?_ <;> omega) | exact fv_row rfl rfl (by first | rfl | (simp [AV.oks_append, AV.oks_cons, AV.oks_nil, AV.ok_v, AV.ok_fz, AV.ok_fp, bs_oks]; done)) (by first | omega | exact Nat.le_of_ble_eq_true rfl | (simp; omega) | decide | (simp [*]; done)) (by decide) (by first | rfl | (simp; done) | (simp; rfl) | (simp [bs]; done)) | exact fv_ptr rfl rfl (by first | rfl | (simp [AV.oks_append, AV.oks_cons, AV.oks_nil, AV.ok_v, AV.ok_fz, AV.ok_fp, bs_oks]; done)) (by first | omega | exact Nat.le_of_ble_eq_true rfl | (simp; omega) | decide | (simp [*]; done)) rfl))), trivial⟩ (by first | rfl | (simp [AV.ok, AV.oks]; done)) rfl rfl) (fun h7_2 => ?_) (fun h7_2 => ?_)
        · skip
          refine AOps.cons rfl rfl (ok_move rfl (by conv => lhs; whnf) rfl rfl) ?_
          refine AOps.gcons rfl rfl rfl rfl rfl (by first | exact ok_fieldAddr_ptr te_ok rfl rfl rfl rfl rfl rfl (by decide) ⟨_, rfl, rfl⟩ rfl rfl | exact ok_fieldAddr_fp te_ok rfl rfl rfl rfl rfl rfl (by decide) rfl rfl rfl rfl) ?_
          refine AOps.gcons rfl rfl rfl rfl rfl (by first | exact ok_load_ptr te_ok rfl rfl rfl rfl rfl rfl rfl (by decide) (by conv => lhs; whnf) rfl rfl | exact ok_load_fp te_ok rfl rfl rfl rfl (by decide) (by conv => lhs; whnf) rfl rfl) ?_
          refine AOps.gdec rfl rfl rfl rfl rfl (ok_bin rfl rfl rfl br_geq rfl rfl) (fun h7_6 => ?_) (fun h7_6 => ?_)
          · skip
            refine AOps.cons rfl rfl (ok_pick rfl rfl (by conv => lhs; whnf) rfl rfl) ?_
            refine AOps.cons rfl rfl (ok_move rfl (by conv => lhs; whnf) rfl rfl) ?_
            refine AOps.gcons rfl rfl rfl rfl rfl (by first | exact ok_fieldAddr_ptr te_ok rfl rfl rfl rfl rfl rfl (by decide) ⟨_, rfl, rfl⟩ rfl rfl | exact ok_fieldAddr_fp te_ok rfl rfl rfl rfl rfl rfl (by decide) rfl rfl rfl rfl) ?_
            refine AOps.gcons rfl rfl rfl rfl rfl (by first | exact ok_load_ptr te_ok rfl rfl rfl rfl rfl rfl rfl (by decide) (by conv => lhs; whnf) rfl rfl | exact ok_load_fp te_ok rfl rfl rfl rfl (by decide) (by conv => lhs; whnf) rfl rfl) ?_
            refine AOps.gdec rfl rfl rfl rfl rfl (ok_bin rfl rfl rfl br_leq rfl rfl) (fun h7_11 => ?_) (fun h7_11 => ?_)
            · skip
              refine AOps.cons rfl rfl (ok_pick rfl rfl (by conv => lhs; whnf) rfl rfl) ?_
              refine AOps.cons rfl rfl (ok_move rfl (by conv => lhs; whnf) rfl rfl) ?_
              refine AOps.gcons rfl rfl rfl rfl rfl (by first | exact ok_fieldAddr_ptr te_ok rfl rfl rfl rfl rfl rfl (by decide) ⟨_, rfl, rfl⟩ rfl rfl | exact ok_fieldAddr_fp te_ok rfl rfl rfl rfl rfl rfl (by decide) rfl rfl rfl rfl) ?_
              refine AOps.gcons rfl rfl rfl rfl rfl (by first | exact ok_load_ptr te_ok rfl rfl rfl rfl rfl rfl rfl (by decide) (by conv => lhs; whnf) rfl rfl | exact ok_load_fp te_ok rfl rfl rfl rfl (by decide) (by conv => lhs; whnf) rfl rfl) ?_
              refine AOps.gdec rfl rfl rfl rfl rfl (ok_bin rfl rfl rfl br_geq rfl rfl) (fun h7_16 => ?_) (fun h7_16 => ?_)
              · skip
                refine AOps.cons rfl rfl (ok_pick rfl rfl (by conv => lhs; whnf) rfl rfl) ?_
                refine AOps.cons rfl rfl (ok_move rfl (by conv => lhs; whnf) rfl rfl) ?_
                refine AOps.gcons rfl rfl rfl rfl rfl (by first | exact ok_fieldAddr_ptr te_ok rfl rfl rfl rfl rfl rfl (by decide) ⟨_, rfl, rfl⟩ rfl rfl | exact ok_fieldAddr_fp te_ok rfl rfl rfl rfl rfl rfl (by decide) rfl rfl rfl rfl) ?_
                refine AOps.gcons rfl rfl rfl rfl rfl (by first | exact ok_load_ptr te_ok rfl rfl rfl rfl rfl rfl rfl (by decide) (by conv => lhs; whnf) rfl rfl | exact ok_load_fp te_ok rfl rfl rfl rfl (by decide) (by conv => lhs; whnf) rfl rfl) ?_
                refine AOps.gcons rfl rfl rfl rfl rfl (ok_bin rfl rfl rfl br_leq rfl rfl) ?_
                refine AOps.cons rfl rfl (ok_pick rfl rfl (by conv => lhs; whnf) rfl rfl) ?_
                refine AOps.cons rfl rfl (ok_assign rfl (by conv => lhs; whnf) rfl rfl) ?_
                refine AOps.nil ?_
                refine AWp.ret ?_
                show Fin te Try.f28 _ _
                refine Fin.ret2 (xs := [_]) (ys := [_]) 0 ⟨res_tmp (by conv => lhs; whnf), trivial⟩ ⟨(by first | exact fv_ok rfl | (refine fv_ok ?_; simp [AV.ok, AV.oks]; done) | exact fv_row rfl rfl (by first | rfl | (simp [AV.oks_append, AV.oks_cons, AV.oks_nil, AV.ok_v, AV.ok_fz, AV.ok_fp, bs_oks]; done)) (by first | omega | exact Nat.le_of_ble_eq_true rfl | (simp; omega) | decide | (simp [*]; done)) (by decide) rfl), trivial⟩ ?_
                exact tf_dec (by simp [Hd.can]; omega)
              · skip
                refine AOps.cons rfl rfl (ok_pick rfl rfl (by conv => lhs; whnf) rfl rfl) ?_
                refine AOps.cons rfl rfl (ok_move rfl (by conv => lhs; whnf) rfl rfl) ?_
                refine AOps.gskip rfl rfl rfl rfl rfl rfl rfl rfl ?_
                refine AOps.gskip rfl rfl rfl rfl rfl rfl rfl rfl ?_
                refine AOps.gskip rfl rfl rfl rfl rfl rfl rfl rfl ?_
                refine AOps.cons rfl rfl (ok_pick rfl rfl (by conv => lhs; whnf) rfl rfl) ?_
                refine AOps.cons rfl rfl (ok_assign rfl (by conv => lhs; whnf) rfl rfl) ?_
                refine AOps.nil ?_
                refine AWp.ret ?_
                show Fin te Try.f28 _ _
                refine Fin.ret2 (xs := [_]) (ys := [_]) 0 ⟨res_tmp (by conv => lhs; whnf), trivial⟩ ⟨(by first | exact fv_ok rfl | (refine fv_ok ?_; simp [AV.ok, AV.oks]; done) | exact fv_row rfl rfl (by first | rfl | (simp [AV.oks_append, AV.oks_cons, AV.oks_nil, AV.ok_v, AV.ok_fz, AV.ok_fp, bs_oks]; done)) (by first | omega | exact Nat.le_of_ble_eq_true rfl | (simp; omega) | decide | (simp [*]; done)) (by decide) rfl), trivial⟩ ?_
                exact tf_dec (by simp [Hd.can]; omega)
            · skip
              refine AOps.cons rfl rfl (ok_pick rfl rfl (by conv => lhs; whnf) rfl rfl) ?_
              refine AOps.cons rfl rfl (ok_move rfl (by conv => lhs; whnf) rfl rfl) ?_
              refine AOps.gskip rfl rfl rfl rfl rfl rfl rfl rfl ?_
              refine AOps.gskip rfl rfl rfl rfl rfl rfl rfl rfl ?_
              refine AOps.gskip rfl rfl rfl rfl rfl rfl rfl rfl ?_
              refine AOps.cons rfl rfl (ok_pick rfl rfl (by conv => lhs; whnf) rfl rfl) ?_
              refine AOps.cons rfl rfl (ok_move rfl (by conv => lhs; whnf) rfl rfl) ?_
              refine AOps.gskip rfl rfl rfl rfl rfl rfl rfl rfl ?_
              refine AOps.gskip rfl rfl rfl rfl rfl rfl rfl rfl ?_
              refine AOps.gskip rfl rfl rfl rfl rfl rfl rfl rfl ?_
              refine AOps.cons rfl rfl (ok_pick rfl rfl (by conv => lhs; whnf) rfl rfl) ?_
              refine AOps.cons rfl rfl (ok_assign rfl (by conv => lhs; whnf) rfl rfl) ?_
              refine AOps.nil ?_
              refine AWp.ret ?_
              show Fin te Try.f28 _ _
              refine Fin.ret2 (xs := [_]) (ys := [_]) 0 ⟨res_tmp (by conv => lhs; whnf), trivial⟩ ⟨(by first | exact fv_ok rfl | (refine fv_ok ?_; simp [AV.ok, AV.oks]; done) | exact fv_row rfl rfl (by first | rfl | (simp [AV.oks_append, AV.oks_cons, AV.oks_nil, AV.ok_v, AV.ok_fz, AV.ok_fp, bs_oks]; done)) (by first | omega | exact Nat.le_of_ble_eq_true rfl | (simp; omega) | decide | (simp [*]; done)) (by decide) rfl), trivial⟩ ?_
              exact tf_dec (by simp [Hd.can]; omega)
          · skip
            refine AOps.cons rfl rfl (ok_pick rfl rfl (by conv => lhs; whnf) rfl rfl) ?_
            refine AOps.cons rfl rfl (ok_move rfl (by conv => lhs; whnf) rfl rfl) ?_
            refine AOps.gskip rfl rfl rfl rfl rfl rfl rfl rfl ?_
            refine AOps.gskip rfl rfl rfl rfl rfl rfl rfl rfl ?_
            refine AOps.gskip rfl rfl rfl rfl rfl rfl rfl rfl ?_
            refine AOps.cons rfl rfl (ok_pick rfl rfl (by conv => lhs; whnf) rfl rfl) ?_
            refine AOps.cons rfl rfl (ok_move rfl (by conv => lhs; whnf) rfl rfl) ?_
            refine AOps.gskip rfl rfl rfl rfl rfl rfl rfl rfl ?_
            refine AOps.gskip rfl rfl rfl rfl rfl rfl rfl rfl ?_
            refine AOps.gskip rfl rfl rfl rfl rfl rfl rfl rfl ?_
            refine AOps.cons rfl rfl (ok_pick rfl rfl (by conv => lhs; whnf) rfl rfl) ?_
            refine AOps.cons rfl rfl (ok_move rfl (by conv => lhs; whnf) rfl rfl) ?_
            refine AOps.gskip rfl rfl rfl rfl rfl rfl rfl rfl ?_
            refine AOps.gskip rfl rfl rfl rfl rfl rfl rfl rfl ?_
            refine AOps.gskip rfl rfl rfl rfl rfl rfl rfl rfl ?_
            refine AOps.cons rfl rfl (ok_pick rfl rfl (by conv => lhs; whnf) rfl rfl) ?_
            refine AOps.cons rfl rfl (ok_assign rfl (by conv => lhs; whnf) rfl rfl) ?_
            refine AOps.nil ?_
            refine AWp.ret ?_
            show Fin te Try.f28 _ _
            refine Fin.ret2 (xs := [_]) (ys := [_]) 0 ⟨res_tmp (by conv => lhs; whnf), trivial⟩ ⟨(by first | exact fv_ok rfl | (refine fv_ok ?_; simp [AV.ok, AV.oks]; done) | exact fv_row rfl rfl (by first | rfl | (simp [AV.oks_append, AV.oks_cons, AV.oks_nil, AV.ok_v, AV.ok_fz, AV.ok_fp, bs_oks]; done)) (by first | omega | exact Nat.le_of_ble_eq_true rfl | (simp; omega) | decide | (simp [*]; done)) (by decide) rfl), trivial⟩ ?_
            exact tf_dec (by simp [Hd.can]; omega)
        · skip
          refine AOps.cons rfl rfl (ok_move rfl (by conv => lhs; whnf) rfl rfl) ?_
          refine AOps.gskip rfl rfl rfl rfl rfl rfl rfl rfl ?_
          refine AOps.gskip rfl rfl rfl rfl rfl rfl rfl rfl ?_
          refine AOps.gskip rfl rfl rfl rfl rfl rfl rfl rfl ?_
          refine AOps.cons rfl rfl (ok_pick rfl rfl (by conv => lhs; whnf) rfl rfl) ?_
          refine AOps.cons rfl rfl (ok_move rfl (by conv => lhs; whnf) rfl rfl) ?_
          refine AOps.gskip rfl rfl rfl rfl rfl rfl rfl rfl ?_
          refine AOps.gskip rfl rfl rfl rfl rfl rfl rfl rfl ?_
          refine AOps.gskip rfl rfl rfl rfl rfl rfl rfl rfl ?_
          refine AOps.cons rfl rfl (ok_pick rfl rfl (by conv => lhs; whnf) rfl rfl) ?_
          refine AOps.cons rfl rfl (ok_move rfl (by conv => lhs; whnf) rfl rfl) ?_
          refine AOps.gskip rfl rfl rfl rfl rfl rfl rfl rfl ?_
          refine AOps.gskip rfl rfl rfl rfl rfl rfl rfl rfl ?_
          refine AOps.gskip rfl rfl rfl rfl rfl rfl rfl rfl ?_
          refine AOps.cons rfl rfl (ok_pick rfl rfl (by conv => lhs; whnf) rfl rfl) ?_
          refine AOps.cons rfl rfl (ok_move rfl (by conv => lhs; whnf) rfl rfl) ?_
          refine AOps.gskip rfl rfl rfl rfl rfl rfl rfl rfl ?_
          refine AOps.gskip rfl rfl rfl rfl rfl rfl rfl rfl ?_
          refine AOps.gskip rfl rfl rfl rfl rfl rfl rfl rfl ?_
          refine AOps.cons rfl rfl (ok_pick rfl rfl (by conv => lhs; whnf) rfl rfl) ?_
          refine AOps.cons rfl rfl (ok_assign rfl (by conv => lhs; whnf) rfl rfl) ?_
          refine AOps.nil ?_
          refine AWp.ret ?_
          show Fin te Try.f28 _ _
          refine Fin.ret2 (xs := [_]) (ys := [_]) 0 ⟨res_tmp (by conv => lhs; whnf), trivial⟩ ⟨(by first | exact fv_ok rfl | (refine fv_ok ?_; simp [AV.ok, AV.oks]; done) | exact fv_row rfl rfl (by first | rfl | (simp [AV.oks_append, AV.oks_cons, AV.oks_nil, AV.ok_v, AV.ok_fz, AV.ok_fp, bs_oks]; done)) (by first | omega | exact Nat.le_of_ble_eq_true rfl | (simp; omega) | decide | (simp [*]; done)) (by decide) rfl), trivial⟩ ?_
          exact tf_dec (by simp [Hd.can]; omega)

set_option maxRecDepth 20000 in
theorem c_ciceroneref02_Encode (h : Hd) (c0 c1 c2 c3 : Int) : AC Try.prog 17 [.agg [i64 h.id, tf h.resp, i64 h.op, tf h.aa, tf h.tc, tf h.rd, tf h.ra, i64 h.code], .agg [i64 c0, i64 c1, i64 c2, i64 c3]] emp (Ret (hEnc h c0 c1 c2 c3)) := by
  refine AC.intro te_ok (fn := Try.f17) ⟨Try.func17, rfl, rfl⟩ (Nat.le_of_ble_eq_true rfl) ?_
  refine AWp.seq ?_
  refine AWp.region ?_
  refine AOps.cons rfl rfl (ok_box (id := 100) te_ok rfl (by conv => lhs; whnf) rfl rfl rfl rfl) ?_
  refine AOps.cons rfl rfl (ok_box (id := 101) te_ok rfl (by conv => lhs; whnf) rfl rfl rfl rfl) ?_
  refine AOps.cons rfl rfl (ok_nilfz 0 (.inl rfl) rfl rfl rfl) ?_
  refine AOps.cons rfl rfl (ok_assign rfl (by conv => lhs; whnf) rfl rfl) ?_
  refine AOps.nil ?_
  refine AWp.seq ?_
  refine AWp.seq ?_
  refine AWp.region ?_
  refine AOps.cons rfl rfl (by first | exact ok_load_ptr te_ok rfl rfl rfl rfl rfl rfl rfl (by decide) (by conv => lhs; whnf) rfl rfl | exact ok_load_fp te_ok rfl rfl rfl rfl (by decide) (by conv => lhs; whnf) rfl rfl) ?_
  refine AOps.cons rfl rfl (by first | exact ok_load_ptr te_ok rfl rfl rfl rfl rfl rfl rfl (by decide) (by conv => lhs; whnf) rfl rfl | exact ok_load_fp te_ok rfl rfl rfl rfl (by decide) (by conv => lhs; whnf) rfl rfl) ?_
  refine AOps.dec rfl rfl (ok_call 0 rfl rfl (c_ciceroneref02_Can h c0 c1 c2 c3) ⟨(by first | exact fv_ok rfl | (refine fv_ok ?_; simp [AV.ok, AV.oks]; done) | exact fv_nil | (refine fv_up ?_ ?_ <;> omega) | exact fv_row rfl rfl (by first | rfl | (simp [AV.oks_append, AV.oks_cons, AV.oks_nil, AV.ok_v, AV.ok_fz, AV.ok_fp, bs_oks]; done)) (by first | omega | exact Nat.le_of_ble_eq_true rfl | (simp; omega) | decide | (simp [*]; done)) (by decide) (by first | rfl | (simp; done) | (simp; rfl) | (simp [bs]; done)) | exact fv_ptr rfl rfl (by first | rfl | (simp [AV.oks_append, AV.oks_cons, AV.oks_nil, AV.ok_v, AV.ok_fz, AV.ok_fp, bs_oks]; done)) (by first | omega | exact Nat.le_of_ble_eq_true rfl | (simp; omega) | decide | (simp [*]; done)) rfl | (refine fv_fn trivial ⟨?_, trivial⟩ <;> (first | exact fv_ok rfl | (refine fv_ok ?_; simp [AV.ok, AV.oks]; done) | exact fv_nil | (refine fv_up ?_ ?_ <;> omega) | exact fv_row rfl rfl (by first | rfl | (simp [AV.oks_append, AV.oks_cons, AV.oks_nil, AV.ok_v, AV.ok_fz, AV.ok_fp, bs_oks]; done)) (by first | omega | exact Nat.le_of_ble_eq_true rfl | (simp; omega) | decide | (simp [*]; done)) (by decide) (by first | rfl | (simp; done) | (simp; rfl) | (simp [bs]; done)) | exact fv_ptr rfl rfl (by first | rfl | (simp [AV.oks_append, AV.oks_cons, AV.oks_nil, AV.ok_v, AV.ok_fz, AV.ok_fp, bs_oks]; done)) (by first | omega | exact Nat.le_of_ble_eq_true rfl | (simp; omega) | decide | (simp [*]; done)) rfl)) | (refine fv_fn trivial ⟨?_, ?_, trivial⟩ <;> (first | exact fv_ok rfl | (refine fv_ok ?_; simp [AV.ok, AV.oks]; done) | exact fv_nil | (refine fv_up ?_ ?_ <;> omega) | exact fv_row rfl rfl (by first | rfl | (simp [AV.oks_append, AV.oks_cons, AV.oks_nil, AV.ok_v, AV.ok_fz, AV.ok_fp, bs_oks]; done)) (by first | omega | exact Nat.le_of_ble_eq_true rfl | (simp; omega) | decide | (simp [*]; done)) (by decide) (by first | rfl | (simp; done) | (simp; rfl) | (simp [bs]; done)) | exact fv_ptr rfl rfl (by first | rfl | (simp [AV.oks_append, AV.oks_cons, AV.oks_nil, AV.ok_v, AV.ok_fz, AV.ok_fp, bs_oks]; done)) (by first | omega | exact Nat.le_of_ble_eq_true rfl | (simp; omega) | decide | (simp [*]; done)) rfl)) | (refine fv_fn trivial ⟨?_, ?_, ?_, trivial⟩ <;> (first | exact fv_ok rfl | (refine fv_ok ?_; simp [AV.ok, AV.oks]; done) | exact fv_nil | (refine fv_up ?_ ?_ <;> omega) | exact fv_row rfl rfl (by first | rfl | (simp [AV.oks_append, AV.oks_cons, AV.oks_nil, AV.ok_v, AV.ok_fz, AV.ok_fp, bs_oks]; done)) (by first | omega | exact Nat.le_of_ble_eq_true rfl | (simp; omega) | decide | (simp [*]; done)) (by decide) (by first | rfl | (simp; done) | (simp; rfl) | (simp [bs]; done)) | exact fv_ptr rfl rfl (by first | rfl | (simp [AV.oks_append, AV.oks_cons, AV.oks_nil, AV.ok_v, AV.ok_fz, AV.ok_fp, bs_oks]; done)) (by first | omega | exact Nat.le_of_ble_eq_true rfl | (simp; omega) | decide | (simp [*]; done)) rfl))), (by first | exact fv_ok rfl | (refine fv_ok ?_; simp [AV.ok, AV.oks]; done) | exact fv_nil | (refine fv_up ?_ ?_ <;> omega) | exact fv_row rfl rfl (by first | rfl | (simp [AV.oks_append, AV.oks_cons, AV.oks_nil, AV.ok_v, AV.ok_fz, AV.ok_fp, bs_oks]; done)) (by first | omega | exact Nat.le_of_ble_eq_true rfl | (simp; omega) | decide | (simp [*]; done)) (by decide) (by first | rfl | (simp; done) | (simp; rfl) | (simp [bs]; done)) | exact fv_ptr rfl rfl (by first | rfl | (simp [AV.oks_append, AV.oks_cons, AV.oks_nil, AV.ok_v, AV.ok_fz, AV.ok_fp, bs_oks]; done)) (by first | omega | exact Nat.le_of_ble_eq_true rfl | (simp; omega) | decide | (simp [*]; done)) rfl | (refine fv_fn trivial ⟨?_, trivial⟩ <;> (first | exact fv_ok rfl | (refine fv_ok ?_; simp [AV.ok, AV.oks]; done) | exact fv_nil | (refine fv_up ?_ ?_ <;> omega) | exact fv_row rfl rfl (by first | rfl | (simp [AV.oks_append, AV.oks_cons, AV.oks_nil, AV.ok_v, AV.ok_fz, AV.ok_fp, bs_oks]; done)) (by first | omega | exact Nat.le_of_ble_eq_true rfl | (simp; omega) | decide | (simp [*]; done)) (by decide) (by first | rfl | (simp; done) | (simp; rfl) | (simp [bs]; done)) | exact fv_ptr rfl rfl (by first | rfl | (simp [AV.oks_append, AV.oks_cons, AV.oks_nil, AV.ok_v, AV.ok_fz, AV.ok_fp, bs_oks]; done)) (by first | omega | exact Nat.le_of_ble_eq_true rfl | (simp; omega) | decide | (simp [*]; done)) rfl)) | (refine fv_fn trivial ⟨?_, ?_, trivial⟩ <;> (first | exact fv_ok rfl | (refine fv_ok ?_; simp [AV.ok, AV.oks]; done) | exact fv_nil | (refine fv_up ?_ ?_ <;> omega) | exact fv_row rfl rfl (by first | rfl | (simp [AV.oks_append, AV.oks_cons, AV.oks_nil, AV.ok_v, AV.ok_fz, AV.ok_fp, bs_oks]; done)) (by first | omega | exact Nat.le_of_ble_eq_true rfl | (simp; omega) | decide | (simp [*]; done)) (by decide) (by first | rfl | (simp; done) | (simp; rfl) | (simp [bs]; done)) | exact fv_ptr rfl rfl (by first | rfl | (simp [AV.oks_append, AV.oks_cons, AV.oks_nil, AV.ok_v, AV.ok_fz, AV.ok_fp, bs_oks]; done)) (by first | omega | exact Nat.le_of_ble_eq_true rfl | (simp; omega) | decide | (simp [*]; done)) rfl)) | (refine fv_fn trivial ⟨?_, ?_, ?_, trivial⟩ <;> (first | exact fv_ok rfl | (refine fv_ok ?_; simp [AV.ok, AV.oks]; done) | exact fv_nil | (refine fv_up ?_ ?_ <;> omega) | exact fv_row rfl rfl (by first | rfl | (simp [AV.oks_append, AV.oks_cons, AV.oks_nil, AV.ok_v, AV.ok_fz, AV.ok_fp, bs_oks]; done)) (by first | omega | exact Nat.le_of_ble_eq_true rfl | (simp; omega) | decide | (simp [*]; done)) (by decide) (by first | rfl | (simp; done) | (simp; rfl) | (simp [bs]; done)) | exact fv_ptr rfl rfl (by first | rfl | (simp [AV.oks_append, AV.oks_cons, AV.oks_nil, AV.ok_v, AV.ok_fz, AV.ok_fp, bs_oks]; done)) (by first | omega | exact Nat.le_of_ble_eq_true rfl | (simp; omega) | decide | (simp [*]; done)) rfl))), trivial⟩ (by first | rfl | (simp [AV.ok, AV.oks]; done)) rfl rfl) (fun h1_2 => ?_) (fun h1_2 => ?_)
  · skip
    refine AOps.cons rfl rfl (ok_not rfl rfl rfl rfl) ?_
    refine AOps.nil ?_
    refine AWp.cond_f rfl ?_
    refine AWp.skip ?_
    refine AWp.seq ?_
    obtain ⟨hid, hop, hco, hc0, hc1, hc2, hc3⟩ := id h1_2
    have b1 : 0 ≤ (if h.resp then (2 : Int) ^ 15 else 0) ∧ (if h.resp then (2 : Int) ^ 15 else 0) ≤ 65536 := by split <;> decide
    have b2 : 0 ≤ (if h.aa then (2 : Int) ^ 10 else 0) ∧ (if h.aa then (2 : Int) ^ 10 else 0) ≤ 65536 := by split <;> decide
    have b3 : 0 ≤ (if h.tc then (2 : Int) ^ 9 else 0) ∧ (if h.tc then (2 : Int) ^ 9 else 0) ≤ 65536 := by split <;> decide
    have b4 : 0 ≤ (if h.rd then (2 : Int) ^ 8 else 0) ∧ (if h.rd then (2 : Int) ^ 8 else 0) ≤ 65536 := by split <;> decide
    have b5 : 0 ≤ (if h.ra then (2 : Int) ^ 7 else 0) ∧ (if h.ra then (2 : Int) ^ 7 else 0) ≤ 65536 := by split <;> decide
    refine AWp.draws [⟨0, [2], [100], some 14, _, none⟩,
        ⟨1, [14], [100], some 15, _, none⟩,
        ⟨2, [15], [], some 16, _, none⟩,
        ⟨3, [2], [100], some 17, _, none⟩,
        ⟨4, [17], [100], some 18, _, none⟩,
        ⟨5, [18], [], some 19, _, none⟩,
        ⟨6, [16, 19], [], some 20, _, none⟩,
        ⟨7, [2], [100], some 21, _, none⟩,
        ⟨8, [21], [100], some 22, _, none⟩,
        ⟨9, [22], [], some 23, _, none⟩,
        ⟨10, [20, 23], [], some 24, _, none⟩,
        ⟨11, [2], [100], some 25, _, none⟩,
        ⟨12, [25], [100], some 26, _, none⟩,
        ⟨13, [26], [], some 27, _, none⟩,
        ⟨14, [24, 27], [], some 28, _, none⟩,
        ⟨15, [2], [100], some 29, _, none⟩,
        ⟨16, [29], [100], some 30, _, none⟩,
        ⟨17, [30], [], some 31, _, none⟩,
        ⟨18, [28, 31], [], some 32, _, none⟩,
        ⟨19, [2], [100], some 33, _, none⟩,
        ⟨20, [33], [100], some 34, _, none⟩,
        ⟨21, [34], [], some 35, _, none⟩,
        ⟨22, [32, 35], [], some 36, _, none⟩,
        ⟨23, [2], [100], some 37, _, none⟩,
        ⟨24, [37], [100], some 38, _, none⟩,
        ⟨25, [36, 38], [], some 39, _, none⟩,
        ⟨26, [39], [], some 6, _, none⟩]
      [⟨0, [2], [100], some 14, .any, none⟩,
          ⟨1, [14], [100], some 15, .any, none⟩,
          ⟨2, [15], [], some 16, .any, none⟩,
          ⟨3, [2], [100], some 17, .any, none⟩,
          ⟨4, [17], [100], some 18, .any, none⟩,
          ⟨5, [18], [], some 19, .any, none⟩,
          ⟨6, [16, 19], [], some 20, .any, none⟩,
          ⟨7, [2], [100], some 21, .any, none⟩,
          ⟨8, [21], [100], some 22, .any, none⟩,
          ⟨9, [22], [], some 23, .any, none⟩,
          ⟨10, [20, 23], [], some 24, .any, none⟩,
          ⟨11, [2], [100], some 25, .any, none⟩,
          ⟨12, [25], [100], some 26, .any, none⟩,
          ⟨13, [26], [], some 27, .any, none⟩,
          ⟨14, [24, 27], [], some 28, .any, none⟩,
          ⟨15, [2], [100], some 29, .any, none⟩,
          ⟨16, [29], [100], some 30, .any, none⟩,
          ⟨17, [30], [], some 31, .any, none⟩,
          ⟨18, [28, 31], [], some 32, .any, none⟩,
          ⟨19, [2], [100], some 33, .any, none⟩,
          ⟨20, [33], [100], some 34, .any, none⟩,
          ⟨21, [34], [], some 35, .any, none⟩,
          ⟨22, [32, 35], [], some 36, .any, none⟩,
          ⟨23, [2], [100], some 37, .any, none⟩,
          ⟨24, [37], [100], some 38, .any, none⟩,
          ⟨25, [36, 38], [], some 39, .any, none⟩,
          ⟨26, [39], [], some 6, .any, none⟩]
      mixed_ok rfl (by kernel_rfl) ⟨DS.ok_over fun s0 => OpAt.go rfl rfl (by first | exact ok_fieldAddr_ptr te_ok rfl rfl rfl rfl rfl rfl (by decide) ⟨_, rfl, rfl⟩ rfl rfl | exact ok_fieldAddr_fp te_ok rfl rfl rfl rfl rfl rfl (by decide) rfl rfl rfl rfl),
          DS.ok_over fun s0 => OpAt.go rfl rfl (by first | exact ok_load_ptr te_ok rfl rfl rfl rfl rfl rfl rfl (by decide) (by conv => lhs; whnf) rfl rfl | exact ok_load_fp te_ok rfl rfl rfl rfl (by decide) (by conv => lhs; whnf) rfl rfl),
          DS.ok_over fun s0 => OpAt.go rfl rfl (ok_call 0 rfl rfl (c_ciceroneref02_bit h.resp 15 (by decide)) ⟨(by first | exact fv_ok rfl | (refine fv_ok ?_; simp [AV.ok, AV.oks]; done) | exact fv_nil | (refine fv_up ?_ ?_ <;> omega) | exact fv_row rfl rfl (by first | rfl | (simp [AV.oks_append, AV.oks_cons, AV.oks_nil, AV.ok_v, AV.ok_fz, AV.ok_fp, bs_oks]; done)) (by first | omega | exact Nat.le_of_ble_eq_true rfl | (simp; omega) | decide | (simp [*]; done)) (by decide) (by first | rfl | (simp; done) | (simp; rfl) | (simp [bs]; done)) | exact fv_ptr rfl rfl (by first | rfl | (simp [AV.oks_append, AV.oks_cons, AV.oks_nil, AV.ok_v, AV.ok_fz, AV.ok_fp, bs_oks]; done)) (by first | omega | exact Nat.le_of_ble_eq_true rfl | (simp; omega) | decide | (simp [*]; done)) rfl | (refine fv_fn trivial ⟨?_, trivial⟩ <;> (first | exact fv_ok rfl | (refine fv_ok ?_; simp [AV.ok, AV.oks]; done) | exact fv_nil | (refine fv_up ?_ ?_ <;> omega) | exact fv_row rfl rfl (by first | rfl | (simp [AV.oks_append, AV.oks_cons, AV.oks_nil, AV.ok_v, AV.ok_fz, AV.ok_fp, bs_oks]; done)) (by first | omega | exact Nat.le_of_ble_eq_true rfl | (simp; omega) | decide | (simp [*]; done)) (by decide) (by first | rfl | (simp; done) | (simp; rfl) | (simp [bs]; done)) | exact fv_ptr rfl rfl (by first | rfl | (simp [AV.oks_append, AV.oks_cons, AV.oks_nil, AV.ok_v, AV.ok_fz, AV.ok_fp, bs_oks]; done)) (by first | omega | exact Nat.le_of_ble_eq_true rfl | (simp; omega) | decide | (simp [*]; done)) rfl)) | (refine fv_fn trivial ⟨?_, ?_, trivial⟩ <;> (first | exact fv_ok rfl | (refine fv_ok ?_; simp [AV.ok, AV.oks]; done) | exact fv_nil | (refine fv_up ?_ ?_ <;> omega) | exact fv_row rfl rfl (by first | rfl | (simp [AV.oks_append, AV.oks_cons, AV.oks_nil, AV.ok_v, AV.ok_fz, AV.ok_fp, bs_oks]; done)) (by first | omega | exact Nat.le_of_ble_eq_true rfl | (simp; omega) | decide | (simp [*]; done)) (by decide) (by first | rfl | (simp; done) | (simp; rfl) | (simp [bs]; done)) | exact fv_ptr rfl rfl (by first | rfl | (simp [AV.oks_append, AV.oks_cons, AV.oks_nil, AV.ok_v, AV.ok_fz, AV.ok_fp, bs_oks]; done)) (by first | omega | exact Nat.le_of_ble_eq_true rfl | (simp; omega) | decide | (simp [*]; done)) rfl)) | (refine fv_fn trivial ⟨?_, ?_, ?_, trivial⟩ <;> (first | exact fv_ok rfl | (refine fv_ok ?_; simp [AV.ok, AV.oks]; done) | exact fv_nil | (refine fv_up ?_ ?_ <;> omega) | exact fv_row rfl rfl (by first | rfl | (simp [AV.oks_append, AV.oks_cons, AV.oks_nil, AV.ok_v, AV.ok_fz, AV.ok_fp, bs_oks]; done)) (by first | omega | exact Nat.le_of_ble_eq_true rfl | (simp; omega) | decide | (simp [*]; done)) (by decide) (by first | rfl | (simp; done) | (simp; rfl) | (simp [bs]; done)) | exact fv_ptr rfl rfl (by first | rfl | (simp [AV.oks_append, AV.oks_cons, AV.oks_nil, AV.ok_v, AV.ok_fz, AV.ok_fp, bs_oks]; done)) (by first | omega | exact Nat.le_of_ble_eq_true rfl | (simp; omega) | decide | (simp [*]; done)) rfl))), (by first | exact fv_ok rfl | (refine fv_ok ?_; simp [AV.ok, AV.oks]; done) | exact fv_nil | (refine fv_up ?_ ?_ <;> omega) | exact fv_row rfl rfl (by first | rfl | (simp [AV.oks_append, AV.oks_cons, AV.oks_nil, AV.ok_v, AV.ok_fz, AV.ok_fp, bs_oks]; done)) (by first | omega | exact Nat.le_of_ble_eq_true rfl | (simp; omega) | decide | (simp [*]; done)) (by decide) (by first | rfl | (simp; done) | (simp; rfl) | (simp [bs]; done)) | exact fv_ptr rfl rfl (by first | rfl | (simp [AV.oks_append, AV.oks_cons, AV.oks_nil, AV.ok_v, AV.ok_fz, AV.ok_fp, bs_oks]; done)) (by first | omega | exact Nat.le_of_ble_eq_true rfl | (simp; omega) | decide | (simp [*]; done)) rfl | (refine fv_fn trivial ⟨?_, trivial⟩ <;> (first | exact fv_ok rfl | (refine fv_ok ?_; simp [AV.ok, AV.oks]; done) | exact fv_nil | (refine fv_up ?_ ?_ <;> omega) | exact fv_row rfl rfl (by first | rfl | (simp [AV.oks_append, AV.oks_cons, AV.oks_nil, AV.ok_v, AV.ok_fz, AV.ok_fp, bs_oks]; done)) (by first | omega | exact Nat.le_of_ble_eq_true rfl | (simp; omega) | decide | (simp [*]; done)) (by decide) (by first | rfl | (simp; done) | (simp; rfl) | (simp [bs]; done)) | exact fv_ptr rfl rfl (by first | rfl | (simp [AV.oks_append, AV.oks_cons, AV.oks_nil, AV.ok_v, AV.ok_fz, AV.ok_fp, bs_oks]; done)) (by first | omega | exact Nat.le_of_ble_eq_true rfl | (simp; omega) | decide | (simp [*]; done)) rfl)) | (refine fv_fn trivial ⟨?_, ?_, trivial⟩ <;> (first | exact fv_ok rfl | (refine fv_ok ?_; simp [AV.ok, AV.oks]; done) | exact fv_nil | (refine fv_up ?_ ?_ <;> omega) | exact fv_row rfl rfl (by first | rfl | (simp [AV.oks_append, AV.oks_cons, AV.oks_nil, AV.ok_v, AV.ok_fz, AV.ok_fp, bs_oks]; done)) (by first | omega | exact Nat.le_of_ble_eq_true rfl | (simp; omega) | decide | (simp [*]; done)) (by decide) (by first | rfl | (simp; done) | (simp; rfl) | (simp [bs]; done)) | exact fv_ptr rfl rfl (by first | rfl | (simp [AV.oks_append, AV.oks_cons, AV.oks_nil, AV.ok_v, AV.ok_fz, AV.ok_fp, bs_oks]; done)) (by first | omega | exact Nat.le_of_ble_eq_true rfl | (simp; omega) | decide | (simp [*]; done)) rfl)) | (refine fv_fn trivial ⟨?_, ?_, ?_, trivial⟩ <;> (first | exact fv_ok rfl | (refine fv_ok ?_; simp [AV.ok, AV.oks]; done) | exact fv_nil | (refine fv_up ?_ ?_ <;> omega) | exact fv_row rfl rfl (by first | rfl | (simp [AV.oks_append, AV.oks_cons, AV.oks_nil, AV.ok_v, AV.ok_fz, AV.ok_fp, bs_oks]; done)) (by first | omega | exact Nat.le_of_ble_eq_true rfl | (simp; omega) | decide | (simp [*]; done)) (by decide) (by first | rfl | (simp; done) | (simp; rfl) | (simp [bs]; done)) | exact fv_ptr rfl rfl (by first | rfl | (simp [AV.oks_append, AV.oks_cons, AV.oks_nil, AV.ok_v, AV.ok_fz, AV.ok_fp, bs_oks]; done)) (by first | omega | exact Nat.le_of_ble_eq_true rfl | (simp; omega) | decide | (simp [*]; done)) rfl))), trivial⟩ (by first | rfl | (simp [AV.ok, AV.oks]; done)) rfl rfl),
          DS.ok_over fun s0 => OpAt.go rfl rfl (by first | exact ok_fieldAddr_ptr te_ok rfl rfl rfl rfl rfl rfl (by decide) ⟨_, rfl, rfl⟩ rfl rfl | exact ok_fieldAddr_fp te_ok rfl rfl rfl rfl rfl rfl (by decide) rfl rfl rfl rfl),
          DS.ok_over fun s0 => OpAt.go rfl rfl (by first | exact ok_load_ptr te_ok rfl rfl rfl rfl rfl rfl rfl (by decide) (by conv => lhs; whnf) rfl rfl | exact ok_load_fp te_ok rfl rfl rfl rfl (by decide) (by conv => lhs; whnf) rfl rfl),
          DS.ok_over fun s0 => OpAt.go rfl rfl (ok_bin rfl rfl rfl (bi_shl (m := 11) rfl (by decide) (by first | omega | exact Nat.le_of_ble_eq_true rfl | (simp; omega) | decide | (simp [*]; done)) (by first | omega | exact Nat.le_of_ble_eq_true rfl | (simp; omega) | decide | (simp [*]; done))) rfl rfl),
          DS.ok_over fun s0 => OpAt.go rfl rfl (ok_bin rfl rfl rfl (bi_add (by first | omega | exact Nat.le_of_ble_eq_true rfl | (simp; omega) | decide | (simp [*]; done)) (by first | omega | exact Nat.le_of_ble_eq_true rfl | (simp; omega) | decide | (simp [*]; done))) rfl rfl),
          DS.ok_over fun s0 => OpAt.go rfl rfl (by first | exact ok_fieldAddr_ptr te_ok rfl rfl rfl rfl rfl rfl (by decide) ⟨_, rfl, rfl⟩ rfl rfl | exact ok_fieldAddr_fp te_ok rfl rfl rfl rfl rfl rfl (by decide) rfl rfl rfl rfl),
          DS.ok_over fun s0 => OpAt.go rfl rfl (by first | exact ok_load_ptr te_ok rfl rfl rfl rfl rfl rfl rfl (by decide) (by conv => lhs; whnf) rfl rfl | exact ok_load_fp te_ok rfl rfl rfl rfl (by decide) (by conv => lhs; whnf) rfl rfl),
          DS.ok_over fun s0 => OpAt.go rfl rfl (ok_call 0 rfl rfl (c_ciceroneref02_bit h.aa 10 (by decide)) ⟨(by first | exact fv_ok rfl | (refine fv_ok ?_; simp [AV.ok, AV.oks]; done) | exact fv_nil | (refine fv_up ?_ ?_ <;> omega) | exact fv_row rfl rfl (by first | rfl | (simp [AV.oks_append, AV.oks_cons, AV.oks_nil, AV.ok_v, AV.ok_fz, AV.ok_fp, bs_oks]; done)) (by first | omega | exact Nat.le_of_ble_eq_true rfl | (simp; omega) | decide | (simp [*]; done)) (by decide) (by first | rfl | (simp; done) | (simp; rfl) | (simp [bs]; done)) | exact fv_ptr rfl rfl (by first | rfl | (simp [AV.oks_append, AV.oks_cons, AV.oks_nil, AV.ok_v, AV.ok_fz, AV.ok_fp, bs_oks]; done)) (by first | omega | exact Nat.le_of_ble_eq_true rfl | (simp; omega) | decide | (simp [*]; done)) rfl | (refine fv_fn trivial ⟨?_, trivial⟩ <;> (first | exact fv_ok rfl | (refine fv_ok ?_; simp [AV.ok, AV.oks]; done) | exact fv_nil | (refine fv_up ?_ ?_ <;> omega) | exact fv_row rfl rfl (by first | rfl | (simp [AV.oks_append, AV.oks_cons, AV.oks_nil, AV.ok_v, AV.ok_fz, AV.ok_fp, bs_oks]; done)) (by first | omega | exact Nat.le_of_ble_eq_true rfl | (simp; omega) | decide | (simp [*]; done)) (by decide) (by first | rfl | (simp; done) | (simp; rfl) | (simp [bs]; done)) | exact fv_ptr rfl rfl (by first | rfl | (simp [AV.oks_append, AV.oks_cons, AV.oks_nil, AV.ok_v, AV.ok_fz, AV.ok_fp, bs_oks]; done)) (by first | omega | exact Nat.le_of_ble_eq_true rfl | (simp; omega) | decide | (simp [*]; done)) rfl)) | (refine fv_fn trivial ⟨?_, ?_, trivial⟩ <;> (first | exact fv_ok rfl | (refine fv_ok ?_; simp [AV.ok, AV.oks]; done) | exact fv_nil | (refine fv_up ?_ ?_ <;> omega) | exact fv_row rfl rfl (by first | rfl | (simp [AV.oks_append, AV.oks_cons, AV.oks_nil, AV.ok_v, AV.ok_fz, AV.ok_fp, bs_oks]; done)) (by first | omega | exact Nat.le_of_ble_eq_true rfl | (simp; omega) | decide | (simp [*]; done)) (by decide) (by first | rfl | (simp; done) | (simp; rfl) | (simp [bs]; done)) | exact fv_ptr rfl rfl (by first | rfl | (simp [AV.oks_append, AV.oks_cons, AV.oks_nil, AV.ok_v, AV.ok_fz, AV.ok_fp, bs_oks]; done)) (by first | omega | exact Nat.le_of_ble_eq_true rfl | (simp; omega) | decide | (simp [*]; done)) rfl)) | (refine fv_fn trivial ⟨?_, ?_, ?_, trivial⟩ <;> (first | exact fv_ok rfl | (refine fv_ok ?_; simp [AV.ok, AV.oks]; done) | exact fv_nil | (refine fv_up ?_ ?_ <;> omega) | exact fv_row rfl rfl (by first | rfl | (simp [AV.oks_append, AV.oks_cons, AV.oks_nil, AV.ok_v, AV.ok_fz, AV.ok_fp, bs_oks]; done)) (by first | omega | exact Nat.le_of_ble_eq_true rfl | (simp; omega) | decide | (simp [*]; done)) (by decide) (by first | rfl | (simp; done) | (simp; rfl) | (simp [bs]; done)) | exact fv_ptr rfl rfl (by first | rfl | (simp [AV.oks_append, AV.oks_cons, AV.oks_nil, AV.ok_v, AV.ok_fz, AV.ok_fp, bs_oks]; done)) (by first | omega | exact Nat.le_of_ble_eq_true rfl | (simp; omega) | decide | (simp [*]; done)) rfl))), (by first | exact fv_ok rfl | (refine fv_ok ?_; simp [AV.ok, AV.oks]; done) | exact fv_nil | (refine fv_up ?_ ?_ <;> omega) | exact fv_row rfl rfl (by first | rfl | (simp [AV.oks_append, AV.oks_cons, AV.oks_nil, AV.ok_v, AV.ok_fz, AV.ok_fp, bs_oks]; done)) (by first | omega | exact Nat.le_of_ble_eq_true rfl | (simp; omega) | decide | (simp [*]; done)) (by decide) (by first | rfl | (simp; done) | (simp; rfl) | (simp [bs]; done)) | exact fv_ptr rfl rfl (by first | rfl | (simp [AV.oks_append, AV.oks_cons, AV.oks_nil, AV.ok_v, AV.ok_fz, AV.ok_fp, bs_oks]; done)) (by first | omega | exact Nat.le_of_ble_eq_true rfl | (simp; omega) | decide | (simp [*]; done)) rfl | (refine fv_fn trivial ⟨?_, trivial⟩ <;> (first | exact fv_ok rfl | (refine fv_ok ?_; simp [AV.ok, AV.oks]; done) | exact fv_nil | (refine fv_up ?_ ?_ <;> omega) | exact fv_row rfl rfl (by first | rfl | (simp [AV.oks_append, AV.oks_cons, AV.oks_nil, AV.ok_v, AV.ok_fz, AV.ok_fp, bs_oks]; done)) (by first | omega | exact Nat.le_of_ble_eq_true rfl | (simp; omega) | decide | (simp [*]; done)) (by decide) (by first | rfl | (simp; done) | (simp; rfl) | (simp [bs]; done)) | exact fv_ptr rfl rfl (by first | rfl | (simp [AV.oks_append, AV.oks_cons, AV.oks_nil, AV.ok_v, AV.ok_fz, AV.ok_fp, bs_oks]; done)) (by first | omega | exact Nat.le_of_ble_eq_true rfl | (simp; omega) | decide | (simp [*]; done)) rfl)) | (refine fv_fn trivial ⟨?_, ?_, trivial⟩ <;> (first | exact fv_ok rfl | (refine fv_ok ?_; simp [AV.ok, AV.oks]; done) | exact fv_nil | (refine fv_up ?_ ?_ <;> omega) | exact fv_row rfl rfl (by first | rfl | (simp [AV.oks_append, AV.oks_cons, AV.oks_nil, AV.ok_v, AV.ok_fz, AV.ok_fp, bs_oks]; done)) (by first | omega | exact Nat.le_of_ble_eq_true rfl | (simp; omega) | decide | (simp [*]; done)) (by decide) (by first | rfl | (simp; done) | (simp; rfl) | (simp [bs]; done)) | exact fv_ptr rfl rfl (by first | rfl | (simp [AV.oks_append, AV.oks_cons, AV.oks_nil, AV.ok_v, AV.ok_fz, AV.ok_fp, bs_oks]; done)) (by first | omega | exact Nat.le_of_ble_eq_true rfl | (simp; omega) | decide | (simp [*]; done)) rfl)) | (refine fv_fn trivial ⟨?_, ?_, ?_, trivial⟩ <;> (first | exact fv_ok rfl | (refine fv_ok ?_; simp [AV.ok, AV.oks]; done) | exact fv_nil | (refine fv_up ?_ ?_ <;> omega) | exact fv_row rfl rfl (by first | rfl | (simp [AV.oks_append, AV.oks_cons, AV.oks_nil, AV.ok_v, AV.ok_fz, AV.ok_fp, bs_oks]; done)) (by first | omega | exact Nat.le_of_ble_eq_true rfl | (simp; omega) | decide | (simp [*]; done)) (by decide) (by first | rfl | (simp; done) | (simp; rfl) | (simp [bs]; done)) | exact fv_ptr rfl rfl (by first | rfl | (simp [AV.oks_append, AV.oks_cons, AV.oks_nil, AV.ok_v, AV.ok_fz, AV.ok_fp, bs_oks]; done)) (by first | omega | exact Nat.le_of_ble_eq_true rfl | (simp; omega) | decide | (simp [*]; done)) rfl))), trivial⟩ (by first | rfl | (simp [AV.ok, AV.oks]; done)) rfl rfl),
          DS.ok_over fun s0 => OpAt.go rfl rfl (ok_bin rfl rfl rfl (bi_add (by first | omega | exact Nat.le_of_ble_eq_true rfl | (simp; omega) | decide | (simp [*]; done)) (by first | omega | exact Nat.le_of_ble_eq_true rfl | (simp; omega) | decide | (simp [*]; done))) rfl rfl),
          DS.ok_over fun s0 => OpAt.go rfl rfl (by first | exact ok_fieldAddr_ptr te_ok rfl rfl rfl rfl rfl rfl (by decide) ⟨_, rfl, rfl⟩ rfl rfl | exact ok_fieldAddr_fp te_ok rfl rfl rfl rfl rfl rfl (by decide) rfl rfl rfl rfl),
          DS.ok_over fun s0 => OpAt.go rfl rfl (by first | exact ok_load_ptr te_ok rfl rfl rfl rfl rfl rfl rfl (by decide) (by conv => lhs; whnf) rfl rfl | exact ok_load_fp te_ok rfl rfl rfl rfl (by decide) (by conv => lhs; whnf) rfl rfl),
          DS.ok_over fun s0 => OpAt.go rfl rfl (ok_call 0 rfl rfl (c_ciceroneref02_bit h.tc 9 (by decide)) ⟨(by first | exact fv_ok rfl | (refine fv_ok ?_; simp [AV.ok, AV.oks]; done) | exact fv_nil | (refine fv_up ?_ ?_ <;> omega) | exact fv_row rfl rfl (by first | rfl | (simp [AV.oks_append, AV.oks_cons, AV.oks_nil, AV.ok_v, AV.ok_fz, AV.ok_fp, bs_oks]; done)) (by first | omega | exact Nat.le_of_ble_eq_true rfl | (simp; omega) | decide | (simp [*]; done)) (by decide) (by first | rfl | (simp; done) | (simp; rfl) | (simp [bs]; done)) | exact fv_ptr rfl rfl (by first | rfl | (simp [AV.oks_append, AV.oks_cons, AV.oks_nil, AV.ok_v, AV.ok_fz, AV.ok_fp, bs_oks]; done)) (by first | omega | exact Nat.le_of_ble_eq_true rfl | (simp; omega) | decide | (simp [*]; done)) rfl | (refine fv_fn trivial ⟨?_, trivial⟩ <;> (first | exact fv_ok rfl | (refine fv_ok ?_; simp [AV.ok, AV.oks]; done) | exact fv_nil | (refine fv_up ?_ ?_ <;> omega) | exact fv_row rfl rfl (by first | rfl | (simp [AV.oks_append, AV.oks_cons, AV.oks_nil, AV.ok_v, AV.ok_fz, AV.ok_fp, bs_oks]; done)) (by first | omega | exact Nat.le_of_ble_eq_true rfl | (simp; omega) | decide | (simp [*]; done)) (by decide) (by first | rfl | (simp; done) | (simp; rfl) | (simp [bs]; done)) | exact fv_ptr rfl rfl (by first | rfl | (simp [AV.oks_append, AV.oks_cons, AV.oks_nil, AV.ok_v, AV.ok_fz, AV.ok_fp, bs_oks]; done)) (by first | omega | exact Nat.le_of_ble_eq_true rfl | (simp; omega) | decide | (simp [*]; done)) rfl)) | (refine fv_fn trivial ⟨?_, ?_, trivial⟩ <;> (first | exact fv_ok rfl | (refine fv_ok ?_; simp [AV.ok, AV.oks]; done) | exact fv_nil | (refine fv_up ?_ ?_ <;> omega) | exact fv_row rfl rfl (by first | rfl | (simp [AV.oks_append, AV.oks_cons, AV.oks_nil, AV.ok_v, AV.ok_fz, AV.ok_fp, bs_oks]; done)) (by first | omega | exact Nat.le_of_ble_eq_true rfl | (simp; omega) | decide | (simp [*]; done)) (by decide) (by first | rfl | (simp; done) | (simp; rfl) | (simp [bs]; done)) | exact fv_ptr rfl rfl (by first | rfl | (simp [AV.oks_append, AV.oks_cons, AV.oks_nil, AV.ok_v, AV.ok_fz, AV.ok_fp, bs_oks]; done)) (by first | omega | exact Nat.le_of_ble_eq_true rfl | (simp; omega) | decide | (simp [*]; done)) rfl)) | (refine fv_fn trivial ⟨?_, ?_, ?_, trivial⟩ <;> (first | exact fv_ok rfl | (refine fv_ok ?_; simp [AV.ok, AV.oks]; done) | exact fv_nil | (refine fv_up ?_ ?_ <;> omega) | exact fv_row rfl rfl (by first | rfl | (simp [AV.oks_append, AV.oks_cons, AV.oks_nil, AV.ok_v, AV.ok_fz, AV.ok_fp, bs_oks]; done)) (by first | omega | exact Nat.le_of_ble_eq_true rfl | (simp; omega) | decide | (simp [*]; done)) (by decide) (by first | rfl | (simp; done) | (simp; rfl) | (simp [bs]; done)) | exact fv_ptr rfl rfl (by first | rfl | (simp [AV.oks_append, AV.oks_cons, AV.oks_nil, AV.ok_v, AV.ok_fz, AV.ok_fp, bs_oks]; done)) (by first | omega | exact Nat.le_of_ble_eq_true rfl | (simp; omega) | decide | (simp [*]; done)) rfl))), (by first | exact fv_ok rfl | (refine fv_ok ?_; simp [AV.ok, AV.oks]; done) | exact fv_nil | (refine fv_up ?_ ?_ <;> omega) | exact fv_row rfl rfl (by first | rfl | (simp [AV.oks_append, AV.oks_cons, AV.oks_nil, AV.ok_v, AV.ok_fz, AV.ok_fp, bs_oks]; done)) (by first | omega | exact Nat.le_of_ble_eq_true rfl | (simp; omega) | decide | (simp [*]; done)) (by decide) (by first | rfl | (simp; done) | (simp; rfl) | (simp [bs]; done)) | exact fv_ptr rfl rfl (by first | rfl | (simp [AV.oks_append, AV.oks_cons, AV.oks_nil, AV.ok_v, AV.ok_fz, AV.ok_fp, bs_oks]; done)) (by first | omega | exact Nat.le_of_ble_eq_true rfl | (simp; omega) | decide | (simp [*]; done)) rfl | (refine fv_fn trivial ⟨?_, trivial⟩ <;> (first | exact fv_ok rfl | (refine fv_ok ?_; simp [AV.ok, AV.oks]; done) | exact fv_nil | (refine fv_up ?_ ?_ <;> omega) | exact fv_row rfl rfl (by first | rfl | (simp [AV.oks_append, AV.oks_cons, AV.oks_nil, AV.ok_v, AV.ok_fz, AV.ok_fp, bs_oks]; done)) (by first | omega | exact Nat.le_of_ble_eq_true rfl | (simp; omega) | decide | (simp [*]; done)) (by decide) (by first | rfl | (simp; done) | (simp; rfl) | (simp [bs]; done)) | exact fv_ptr rfl rfl (by first | rfl | (simp [AV.oks_append, AV.oks_cons, AV.oks_nil, AV.ok_v, AV.ok_fz, AV.ok_fp, bs_oks]; done)) (by first | omega | exact Nat.le_of_ble_eq_true rfl | (simp; omega) | decide | (simp [*]; done)) rfl)) | (refine fv_fn trivial ⟨?_, ?_, trivial⟩ <;> (first | exact fv_ok rfl | (refine fv_ok ?_; simp [AV.ok, AV.oks]; done) | exact fv_nil | (refine fv_up ?_ ?_ <;> omega) | exact fv_row rfl rfl (by first | rfl | (simp [AV.oks_append, AV.oks_cons, AV.oks_nil, AV.ok_v, AV.ok_fz, AV.ok_fp, bs_oks]; done)) (by first | omega | exact Nat.le_of_ble_eq_true rfl | (simp; omega) | decide | (simp [*]; done)) (by decide) (by first | rfl | (simp; done) | (simp; rfl) | (simp [bs]; done)) | exact fv_ptr rfl rfl (by first | rfl | (simp [AV.oks_append, AV.oks_cons, AV.oks_nil, AV.ok_v, AV.ok_fz, AV.ok_fp, bs_oks]; done)) (by first | omega | exact Nat.le_of_ble_eq_true rfl | (simp; omega) | decide | (simp [*]; done)) rfl)) | (refine fv_fn trivial ⟨?_, ?_, ?_, trivial⟩ <;> (first | exact fv_ok rfl | (refine fv_ok ?_; simp [AV.ok, AV.oks]; done) | exact fv_nil | (refine fv_up ?_ ?_ <;> omega) | exact fv_row rfl rfl (by first | rfl | (simp [AV.oks_append, AV.oks_cons, AV.oks_nil, AV.ok_v, AV.ok_fz, AV.ok_fp, bs_oks]; done)) (by first | omega | exact Nat.le_of_ble_eq_true rfl | (simp; omega) | decide | (simp [*]; done)) (by decide) (by first | rfl | (simp; done) | (simp; rfl) | (simp [bs]; done)) | exact fv_ptr rfl rfl (by first | rfl | (simp [AV.oks_append, AV.oks_cons, AV.oks_nil, AV.ok_v, AV.ok_fz, AV.ok_fp, bs_oks]; done)) (by first | omega | exact Nat.le_of_ble_eq_true rfl | (simp; omega) | decide | (simp [*]; done)) rfl))), trivial⟩ (by first | rfl | (simp [AV.ok, AV.oks]; done)) rfl rfl),
          DS.ok_over fun s0 => OpAt.go rfl rfl (ok_bin rfl rfl rfl (bi_add (by first | omega | exact Nat.le_of_ble_eq_true rfl | (simp; omega) | decide | (simp [*]; done)) (by first | omega | exact Nat.le_of_ble_eq_true rfl | (simp; omega) | decide | (simp [*]; done))) rfl rfl),
          DS.ok_over fun s0 => OpAt.go rfl rfl (by first | exact ok_fieldAddr_ptr te_ok rfl rfl rfl rfl rfl rfl (by decide) ⟨_, rfl, rfl⟩ rfl rfl | exact ok_fieldAddr_fp te_ok rfl rfl rfl rfl rfl rfl (by decide) rfl rfl rfl rfl),
          DS.ok_over fun s0 => OpAt.go rfl rfl (by first | exact ok_load_ptr te_ok rfl rfl rfl rfl rfl rfl rfl (by decide) (by conv => lhs; whnf) rfl rfl | exact ok_load_fp te_ok rfl rfl rfl rfl (by decide) (by conv => lhs; whnf) rfl rfl),
          DS.ok_over fun s0 => OpAt.go rfl rfl (ok_call 0 rfl rfl (c_ciceroneref02_bit h.rd 8 (by decide)) ⟨(by first | exact fv_ok rfl | (refine fv_ok ?_; simp [AV.ok, AV.oks]; done) | exact fv_nil | (refine fv_up ?_ ?_ <;> omega) | exact fv_row rfl rfl (by first | rfl | (simp [AV.oks_append, AV.oks_cons, AV.oks_nil, AV.ok_v, AV.ok_fz, AV.ok_fp, bs_oks]; done)) (by first | omega | exact Nat.le_of_ble_eq_true rfl | (simp; omega) | decide | (simp [*]; done)) (by decide) (by first | rfl | (simp; done) | (simp; rfl) | (simp [bs]; done)) | exact fv_ptr rfl rfl (by first | rfl | (simp [AV.oks_append, AV.oks_cons, AV.oks_nil, AV.ok_v, AV.ok_fz, AV.ok_fp, bs_oks]; done)) (by first | omega | exact Nat.le_of_ble_eq_true rfl | (simp; omega) | decide | (simp [*]; done)) rfl | (refine fv_fn trivial ⟨?_, trivial⟩ <;> (first | exact fv_ok rfl | (refine fv_ok ?_; simp [AV.ok, AV.oks]; done) | exact fv_nil | (refine fv_up ?_ ?_ <;> omega) | exact fv_row rfl rfl (by first | rfl | (simp [AV.oks_append, AV.oks_cons, AV.oks_nil, AV.ok_v, AV.ok_fz, AV.ok_fp, bs_oks]; done)) (by first | omega | exact Nat.le_of_ble_eq_true rfl | (simp; omega) | decide | (simp [*]; done)) (by decide) (by first | rfl | (simp; done) | (simp; rfl) | (simp [bs]; done)) | exact fv_ptr rfl rfl (by first | rfl | (simp [AV.oks_append, AV.oks_cons, AV.oks_nil, AV.ok_v, AV.ok_fz, AV.ok_fp, bs_oks]; done)) (by first | omega | exact Nat.le_of_ble_eq_true rfl | (simp; omega) | decide | (simp [*]; done)) rfl)) | (refine fv_fn trivial ⟨?_, ?_, trivial⟩ <;> (first | exact fv_ok rfl | (refine fv_ok ?_; simp [AV.ok, AV.oks]; done) | exact fv_nil | (refine fv_up ?_ ?_ <;> omega) | exact fv_row rfl rfl (by first | rfl | (simp [AV.oks_append, AV.oks_cons, AV.oks_nil, AV.ok_v, AV.ok_fz, AV.ok_fp, bs_oks]; done)) (by first | omega | exact Nat.le_of_ble_eq_true rfl | (simp; omega) | decide | (simp [*]; done)) (by decide) (by first | rfl | (simp; done) | (simp; rfl) | (simp [bs]; done)) | exact fv_ptr rfl rfl (by first | rfl | (simp [AV.oks_append, AV.oks_cons, AV.oks_nil, AV.ok_v, AV.ok_fz, AV.ok_fp, bs_oks]; done)) (by first | omega | exact Nat.le_of_ble_eq_true rfl | (simp; omega) | decide | (simp [*]; done)) rfl)) | (refine fv_fn trivial ⟨?_, ?_, ?_, trivial⟩ <;> (first | exact fv_ok rfl | (refine fv_ok ?_; simp [AV.ok, AV.oks]; done) | exact fv_nil | (refine fv_up ?_ ?_ <;> omega) | exact fv_row rfl rfl (by first | rfl | (simp [AV.oks_append, AV.oks_cons, AV.oks_nil, AV.ok_v, AV.ok_fz, AV.ok_fp, bs_oks]; done)) (by first | omega | exact Nat.le_of_ble_eq_true rfl | (simp; omega) | decide | (simp [*]; done)) (by decide) (by first | rfl | (simp; done) | (simp; rfl) | (simp [bs]; done)) | exact fv_ptr rfl rfl (by first | rfl | (simp [AV.oks_append, AV.oks_cons, AV.oks_nil, AV.ok_v, AV.ok_fz, AV.ok_fp, bs_oks]; done)) (by first | omega | exact Nat.le_of_ble_eq_true rfl | (simp; omega) | decide | (simp [*]; done)) rfl))), (by first | exact fv_ok rfl | (refine fv_ok ?_; simp [AV.ok, AV.oks]; done) | exact fv_nil | (refine fv_up ?_ ?_ <;> omega) | exact fv_row rfl rfl (by first | rfl | (simp [AV.oks_append, AV.oks_cons, AV.oks_nil, AV.ok_v, AV.ok_fz, AV.ok_fp, bs_oks]; done)) (by first | omega | exact Nat.le_of_ble_eq_true rfl | (simp; omega) | decide | (simp [*]; done)) (by decide) (by first | rfl | (simp; done) | (simp; rfl) | (simp [bs]; done)) | exact fv_ptr rfl rfl (by first | rfl | (simp [AV.oks_append, AV.oks_cons, AV.oks_nil, AV.ok_v, AV.ok_fz, AV.ok_fp, bs_oks]; done)) (by first | omega | exact Nat.le_of_ble_eq_true rfl | (simp; omega) | decide | (simp [*]; done)) rfl | (refine fv_fn trivial ⟨?_, trivial⟩ <;> (first | exact fv_ok rfl | (refine fv_ok ?_; simp [AV.ok, AV.oks]; done) | exact fv_nil | (refine fv_up ?_ ?_ <;> omega) | exact fv_row rfl rfl (by first | rfl | (simp [AV.oks_append, AV.oks_cons, AV.oks_nil, AV.ok_v, AV.ok_fz, AV.ok_fp, bs_oks]; done)) (by first | omega | exact Nat.le_of_ble_eq_true rfl | (simp; omega) | decide | (simp [*]; done)) (by decide) (by first | rfl | (simp; done) | (simp; rfl) | (simp [bs]; done)) | exact fv_ptr rfl rfl (by first | rfl | (simp [AV.oks_append, AV.oks_cons, AV.oks_nil, AV.ok_v, AV.ok_fz, AV.ok_fp, bs_oks]; done)) (by first | omega | exact Nat.le_of_ble_eq_true rfl | (simp; omega) | decide | (simp [*]; done)) rfl)) | (refine fv_fn trivial ⟨?_, ?_, trivial⟩ <;> (first | exact fv_ok rfl | (refine fv_ok ?_; simp [AV.ok, AV.oks]; done) | exact fv_nil | (refine fv_up ?_ ?_ <;> omega) | exact fv_row rfl rfl (by first | rfl | (simp [AV.oks_append, AV.oks_cons, AV.oks_nil, AV.ok_v, AV.ok_fz, AV.ok_fp, bs_oks]; done)) (by first | omega | exact Nat.le_of_ble_eq_true rfl | (simp; omega) | decide | (simp [*]; done)) (by decide) (by first | rfl | (simp; done) | (simp; rfl) | (simp [bs]; done)) | exact fv_ptr rfl rfl (by first | rfl | (simp [AV.oks_append, AV.oks_cons, AV.oks_nil, AV.ok_v, AV.ok_fz, AV.ok_fp, bs_oks]; done)) (by first | omega | exact Nat.le_of_ble_eq_true rfl | (simp; omega) | decide | (simp [*]; done)) rfl)) | (refine fv_fn trivial ⟨?_, ?_, ?_, trivial⟩ <;> (first | exact fv_ok rfl | (refine fv_ok ?_; simp [AV.ok, AV.oks]; done) | exact fv_nil | (refine fv_up ?_ ?_ <;> omega) | exact fv_row rfl rfl (by first | rfl | (simp [AV.oks_append, AV.oks_cons, AV.oks_nil, AV.ok_v, AV.ok_fz, AV.ok_fp, bs_oks]; done)) (by first | omega | exact Nat.le_of_ble_eq_true rfl | (simp; omega) | decide | (simp [*]; done)) (by decide) (by first | rfl | (simp; done) | (simp; rfl) | (simp [bs]; done)) | exact fv_ptr rfl rfl (by first | rfl | (simp [AV.oks_append, AV.oks_cons, AV.oks_nil, AV.ok_v, AV.ok_fz, AV.ok_fp, bs_oks]; done)) (by first | omega | exact Nat.le_of_ble_eq_true rfl | (simp; omega) | decide | (simp [*]; done)) rfl))), trivial⟩ (by first | rfl | (simp [AV.ok, AV.oks]; done)) rfl rfl),
          DS.ok_over fun s0 => OpAt.go rfl rfl (ok_bin rfl rfl rfl (bi_add (by first | omega | exact Nat.le_of_ble_eq_true rfl | (simp; omega) | decide | (simp [*]; done)) (by first | omega | exact Nat.le_of_ble_eq_true rfl | (simp; omega) | decide | (simp [*]; done))) rfl rfl),
          DS.ok_over fun s0 => OpAt.go rfl rfl (by first | exact ok_fieldAddr_ptr te_ok rfl rfl rfl rfl rfl rfl (by decide) ⟨_, rfl, rfl⟩ rfl rfl | exact ok_fieldAddr_fp te_ok rfl rfl rfl rfl rfl rfl (by decide) rfl rfl rfl rfl),
          DS.ok_over fun s0 => OpAt.go rfl rfl (by first | exact ok_load_ptr te_ok rfl rfl rfl rfl rfl rfl rfl (by decide) (by conv => lhs; whnf) rfl rfl | exact ok_load_fp te_ok rfl rfl rfl rfl (by decide) (by conv => lhs; whnf) rfl rfl),
          DS.ok_over fun s0 => OpAt.go rfl rfl (ok_call 0 rfl rfl (c_ciceroneref02_bit h.ra 7 (by decide)) ⟨(by first | exact fv_ok rfl | (refine fv_ok ?_; simp [AV.ok, AV.oks]; done) | exact fv_nil | (refine fv_up ?_ ?_ <;> omega) | exact fv_row rfl rfl (by first | rfl | (simp [AV.oks_append, AV.oks_cons, AV.oks_nil, AV.ok_v, AV.ok_fz, AV.ok_fp, bs_oks]; done)) (by first | omega | exact Nat.le_of_ble_eq_true rfl | (simp; omega) | decide | (simp [*]; done)) (by decide) (by first | rfl | (simp; done) | (simp; rfl) | (simp [bs]; done)) | exact fv_ptr rfl rfl (by first | rfl | (simp [AV.oks_append, AV.oks_cons, AV.oks_nil, AV.ok_v, AV.ok_fz, AV.ok_fp, bs_oks]; done)) (by first | omega | exact Nat.le_of_ble_eq_true rfl | (simp; omega) | decide | (simp [*]; done)) rfl | (refine fv_fn trivial ⟨?_, trivial⟩ <;> (first | exact fv_ok rfl | (refine fv_ok ?_; simp [AV.ok, AV.oks]; done) | exact fv_nil | (refine fv_up ?_ ?_ <;> omega) | exact fv_row rfl rfl (by first | rfl | (simp [AV.oks_append, AV.oks_cons, AV.oks_nil, AV.ok_v, AV.ok_fz, AV.ok_fp, bs_oks]; done)) (by first | omega | exact Nat.le_of_ble_eq_true rfl | (simp; omega) | decide | (simp [*]; done)) (by decide) (by first | rfl | (simp; done) | (simp; rfl) | (simp [bs]; done)) | exact fv_ptr rfl rfl (by first | rfl | (simp [AV.oks_append, AV.oks_cons, AV.oks_nil, AV.ok_v, AV.ok_fz, AV.ok_fp, bs_oks]; done)) (by first | omega | exact Nat.le_of_ble_eq_true rfl | (simp; omega) | decide | (simp [*]; done)) rfl)) | (refine fv_fn trivial ⟨?_, ?_, trivial⟩ <;> (first | exact fv_ok rfl | (refine fv_ok ?_; simp [AV.ok, AV.oks]; done) | exact fv_nil | (refine fv_up ?_ ?_ <;> omega) | exact fv_row rfl rfl (by first | rfl | (simp [AV.oks_append, AV.oks_cons, AV.oks_nil, AV.ok_v, AV.ok_fz, AV.ok_fp, bs_oks]; done)) (by first | omega | exact Nat.le_of_ble_eq_true rfl | (simp; omega) | decide | (simp [*]; done)) (by decide) (by first | rfl | (simp; done) | (simp; rfl) | (simp [bs]; done)) | exact fv_ptr rfl rfl (by first | rfl | (simp [AV.oks_append, AV.oks_cons, AV.oks_nil, AV.ok_v, AV.ok_fz, AV.ok_fp, bs_oks]; done)) (by first | omega | exact Nat.le_of_ble_eq_true rfl | (simp; omega) | decide | (simp [*]; done)) rfl)) | (refine fv_fn trivial ⟨?_, ?_, ?_, trivial⟩ <;> (first | exact fv_ok rfl | (refine fv_ok ?_; simp [AV.ok, AV.oks]; done) | exact fv_nil | (refine fv_up ?_ ?_ <;> omega) | exact fv_row rfl rfl (by first | rfl | (simp [AV.oks_append, AV.oks_cons, AV.oks_nil, AV.ok_v, AV.ok_fz, AV.ok_fp, bs_oks]; done)) (by first | omega | exact Nat.le_of_ble_eq_true rfl | (simp; omega) | decide | (simp [*]; done)) (by decide) (by first | rfl | (simp; done) | (simp; rfl) | (simp [bs]; done)) | exact fv_ptr rfl rfl (by first | rfl | (simp [AV.oks_append, AV.oks_cons, AV.oks_nil, AV.ok_v, AV.ok_fz, AV.ok_fp, bs_oks]; done)) (by first | omega | exact Nat.le_of_ble_eq_true rfl | (simp; omega) | decide | (simp [*]; done)) rfl))), (by first | exact fv_ok rfl | (refine fv_ok ?_; simp [AV.ok, AV.oks]; done) | exact fv_nil | (refine fv_up ?_ ?_ <;> omega) | exact fv_row rfl rfl (by first | rfl | (simp [AV.oks_append, AV.oks_cons, AV.oks_nil, AV.ok_v, AV.ok_fz, AV.ok_fp, bs_oks]; done)) (by first | omega | exact Nat.le_of_ble_eq_true rfl | (simp; omega) | decide | (simp [*]; done)) (by decide) (by first | rfl | (simp; done) | (simp; rfl) | (simp [bs]; done)) | exact fv_ptr rfl rfl (by first | rfl | (simp [AV.oks_append, AV.oks_cons, AV.oks_nil, AV.ok_v, AV.ok_fz, AV.ok_fp, bs_oks]; done)) (by first | omega | exact Nat.le_of_ble_eq_true rfl | (simp; omega) | decide | (simp [*]; done)) rfl | (refine fv_fn trivial ⟨?_, trivial⟩ <;> (first | exact fv_ok rfl | (refine fv_ok ?_; simp [AV.ok, AV.oks]; done) | exact fv_nil | (refine fv_up ?_ ?_ <;> omega) | exact fv_row rfl rfl (by first | rfl | (simp [AV.oks_append, AV.oks_cons, AV.oks_nil, AV.ok_v, AV.ok_fz, AV.ok_fp, bs_oks]; done)) (by first | omega | exact Nat.le_of_ble_eq_true rfl | (simp; omega) | decide | (simp [*]; done)) (by decide) (by first | rfl | (simp; done) | (simp; rfl) | (simp [bs]; done)) | exact fv_ptr rfl rfl (by first | rfl | (simp [AV.oks_append, AV.oks_cons, AV.oks_nil, AV.ok_v, AV.ok_fz, AV.ok_fp, bs_oks]; done)) (by first | omega | exact Nat.le_of_ble_eq_true rfl | (simp; omega) | decide | (simp [*]; done)) rfl)) | (refine fv_fn trivial ⟨?_, ?_, trivial⟩ <;> (first | exact fv_ok rfl | (refine fv_ok ?_; simp [AV.ok, AV.oks]; done) | exact fv_nil | (refine fv_up ?_ ?_ <;> omega) | exact fv_row rfl rfl (by first | rfl | (simp [AV.oks_append, AV.oks_cons, AV.oks_nil, AV.ok_v, AV.ok_fz, AV.ok_fp, bs_oks]; done)) (by first | omega | exact Nat.le_of_ble_eq_true rfl | (simp; omega) | decide | (simp [*]; done)) (by decide) (by first | rfl | (simp; done) | (simp; rfl) | (simp [bs]; done)) | exact fv_ptr rfl rfl (by first | rfl | (simp [AV.oks_append, AV.oks_cons, AV.oks_nil, AV.ok_v, AV.ok_fz, AV.ok_fp, bs_oks]; done)) (by first | omega | exact Nat.le_of_ble_eq_true rfl | (simp; omega) | decide | (simp [*]; done)) rfl)) | (refine fv_fn trivial ⟨?_, ?_, ?_, trivial⟩ <;> (first | exact fv_ok rfl | (refine fv_ok ?_; simp [AV.ok, AV.oks]; done) | exact fv_nil | (refine fv_up ?_ ?_ <;> omega) | exact fv_row rfl rfl (by first | rfl | (simp [AV.oks_append, AV.oks_cons, AV.oks_nil, AV.ok_v, AV.ok_fz, AV.ok_fp, bs_oks]; done)) (by first | omega | exact Nat.le_of_ble_eq_true rfl | (simp; omega) | decide | (simp [*]; done)) (by decide) (by first | rfl | (simp; done) | (simp; rfl) | (simp [bs]; done)) | exact fv_ptr rfl rfl (by first | rfl | (simp [AV.oks_append, AV.oks_cons, AV.oks_nil, AV.ok_v, AV.ok_fz, AV.ok_fp, bs_oks]; done)) (by first | omega | exact Nat.le_of_ble_eq_true rfl | (simp; omega) | decide | (simp [*]; done)) rfl))), trivial⟩ (by first | rfl | (simp [AV.ok, AV.oks]; done)) rfl rfl),
          DS.ok_over fun s0 => OpAt.go rfl rfl (ok_bin rfl rfl rfl (bi_add (by first | omega | exact Nat.le_of_ble_eq_true rfl | (simp; omega) | decide | (simp [*]; done)) (by first | omega | exact Nat.le_of_ble_eq_true rfl | (simp; omega) | decide | (simp [*]; done))) rfl rfl),
          DS.ok_over fun s0 => OpAt.go rfl rfl (by first | exact ok_fieldAddr_ptr te_ok rfl rfl rfl rfl rfl rfl (by decide) ⟨_, rfl, rfl⟩ rfl rfl | exact ok_fieldAddr_fp te_ok rfl rfl rfl rfl rfl rfl (by decide) rfl rfl rfl rfl),
          DS.ok_over fun s0 => OpAt.go rfl rfl (by first | exact ok_load_ptr te_ok rfl rfl rfl rfl rfl rfl rfl (by decide) (by conv => lhs; whnf) rfl rfl | exact ok_load_fp te_ok rfl rfl rfl rfl (by decide) (by conv => lhs; whnf) rfl rfl),
          DS.ok_over fun s0 => OpAt.go rfl rfl (ok_bin rfl rfl rfl (bi_add (by first | omega | exact Nat.le_of_ble_eq_true rfl | (simp; omega) | decide | (simp [*]; done)) (by first | omega | exact Nat.le_of_ble_eq_true rfl | (simp; omega) | decide | (simp [*]; done))) rfl rfl),
          DS.ok_over fun s0 => OpAt.go rfl rfl (ok_assign rfl (by conv => lhs; whnf) rfl rfl), trivial⟩ ?_
    refine AWp.seq ?_
    refine AWp.region ?_
    refine AOps.cons rfl rfl (ok_nilrow 500 1 (.inl rfl) rfl rfl rfl rfl) ?_
    refine AOps.nil ?_
    refine AWp.seq ?_
    refine AWp.seq ?_
    refine AWp.region ?_
    refine AOps.cons rfl rfl (by first | exact ok_fieldAddr_ptr te_ok rfl rfl rfl rfl rfl rfl (by decide) ⟨_, rfl, rfl⟩ rfl rfl | exact ok_fieldAddr_fp te_ok rfl rfl rfl rfl rfl rfl (by decide) rfl rfl rfl rfl) ?_
    refine AOps.cons rfl rfl (by first | exact ok_load_ptr te_ok rfl rfl rfl rfl rfl rfl rfl (by decide) (by conv => lhs; whnf) rfl rfl | exact ok_load_fp te_ok rfl rfl rfl rfl (by decide) (by conv => lhs; whnf) rfl rfl) ?_
    refine AOps.cons rfl rfl (ok_move rfl (by conv => lhs; whnf) rfl rfl) ?_
    refine AOps.cons rfl rfl (by first | exact ok_indexAddr_map te_ok rfl rfl rfl rfl rfl rfl rfl (by first | omega | exact Nat.le_of_ble_eq_true rfl | (simp; omega) | decide | (simp [*]; done)) (by first | omega | exact Nat.le_of_ble_eq_true rfl | (simp; omega) | decide | (simp [*]; done)) rfl rfl | exact ok_indexAddr_ptr te_ok rfl rfl rfl rfl rfl rfl (by first | omega | exact Nat.le_of_ble_eq_true rfl | (simp; omega) | decide | (simp [*]; done)) (by first | omega | exact Nat.le_of_ble_eq_true rfl | (simp; omega) | decide | (simp [*]; done)) rfl rfl rfl rfl | exact ok_indexAddr_sl te_ok rfl rfl rfl rfl rfl rfl (by first | omega | exact Nat.le_of_ble_eq_true rfl | (simp; omega) | decide | (simp [*]; done)) (by first | omega | exact Nat.le_of_ble_eq_true rfl | (simp; omega) | decide | (simp [*]; done)) rfl rfl rfl rfl | exact ok_indexAddr_fz te_ok rfl rfl rfl rfl rfl rfl (by first | omega | exact Nat.le_of_ble_eq_true rfl | (simp; omega) | decide | (simp [*]; done)) (by first | omega | exact Nat.le_of_ble_eq_true rfl | (simp; omega) | decide | (simp [*]; done)) rfl rfl (by decide) rfl rfl) ?_
    refine AOps.cons rfl rfl (by first | exact ok_load_ptr te_ok rfl rfl rfl rfl rfl rfl rfl (by decide) (by conv => lhs; whnf) rfl rfl | exact ok_load_fp te_ok rfl rfl rfl rfl (by decide) (by conv => lhs; whnf) rfl rfl) ?_
    refine AOps.cons rfl rfl (by first | exact ok_indexAddr_map te_ok rfl rfl rfl rfl rfl rfl rfl (by first | omega | exact Nat.le_of_ble_eq_true rfl | (simp; omega) | decide | (simp [*]; done)) (by first | omega | exact Nat.le_of_ble_eq_true rfl | (simp; omega) | decide | (simp [*]; done)) rfl rfl | exact ok_indexAddr_ptr te_ok rfl rfl rfl rfl rfl rfl (by first | omega | exact Nat.le_of_ble_eq_true rfl | (simp; omega) | decide | (simp [*]; done)) (by first | omega | exact Nat.le_of_ble_eq_true rfl | (simp; omega) | decide | (simp [*]; done)) rfl rfl rfl rfl | exact ok_indexAddr_sl te_ok rfl rfl rfl rfl rfl rfl (by first | omega | exact Nat.le_of_ble_eq_true rfl | (simp; omega) | decide | (simp [*]; done)) (by first | omega | exact Nat.le_of_ble_eq_true rfl | (simp; omega) | decide | (simp [*]; done)) rfl rfl rfl rfl | exact ok_indexAddr_fz te_ok rfl rfl rfl rfl rfl rfl (by first | omega | exact Nat.le_of_ble_eq_true rfl | (simp; omega) | decide | (simp [*]; done)) (by first | omega | exact Nat.le_of_ble_eq_true rfl | (simp; omega) | decide | (simp [*]; done)) rfl rfl (by decide) rfl rfl) ?_
    refine AOps.cons rfl rfl (by first | exact ok_load_ptr te_ok rfl rfl rfl rfl rfl rfl rfl (by decide) (by conv => lhs; whnf) rfl rfl | exact ok_load_fp te_ok rfl rfl rfl rfl (by decide) (by conv => lhs; whnf) rfl rfl) ?_
    refine AOps.cons rfl rfl (by first | exact ok_indexAddr_map te_ok rfl rfl rfl rfl rfl rfl rfl (by first | omega | exact Nat.le_of_ble_eq_true rfl | (simp; omega) | decide | (simp [*]; done)) (by first | omega | exact Nat.le_of_ble_eq_true rfl | (simp; omega) | decide | (simp [*]; done)) rfl rfl | exact ok_indexAddr_ptr te_ok rfl rfl rfl rfl rfl rfl (by first | omega | exact Nat.le_of_ble_eq_true rfl | (simp; omega) | decide | (simp [*]; done)) (by first | omega | exact Nat.le_of_ble_eq_true rfl | (simp; omega) | decide | (simp [*]; done)) rfl rfl rfl rfl | exact ok_indexAddr_sl te_ok rfl rfl rfl rfl rfl rfl (by first | omega | exact Nat.le_of_ble_eq_true rfl | (simp; omega) | decide | (simp [*]; done)) (by first | omega | exact Nat.le_of_ble_eq_true rfl | (simp; omega) | decide | (simp [*]; done)) rfl rfl rfl rfl | exact ok_indexAddr_fz te_ok rfl rfl rfl rfl rfl rfl (by first | omega | exact Nat.le_of_ble_eq_true rfl | (simp; omega) | decide | (simp [*]; done)) (by first | omega | exact Nat.le_of_ble_eq_true rfl | (simp; omega) | decide | (simp [*]; done)) rfl rfl (by decide) rfl rfl) ?_
    refine AOps.cons rfl rfl (by first | exact ok_load_ptr te_ok rfl rfl rfl rfl rfl rfl rfl (by decide) (by conv => lhs; whnf) rfl rfl | exact ok_load_fp te_ok rfl rfl rfl rfl (by decide) (by conv => lhs; whnf) rfl rfl) ?_
    refine AOps.cons rfl rfl (by first | exact ok_indexAddr_map te_ok rfl rfl rfl rfl rfl rfl rfl (by first | omega | exact Nat.le_of_ble_eq_true rfl | (simp; omega) | decide | (simp [*]; done)) (by first | omega | exact Nat.le_of_ble_eq_true rfl | (simp; omega) | decide | (simp [*]; done)) rfl rfl | exact ok_indexAddr_ptr te_ok rfl rfl rfl rfl rfl rfl (by first | omega | exact Nat.le_of_ble_eq_true rfl | (simp; omega) | decide | (simp [*]; done)) (by first | omega | exact Nat.le_of_ble_eq_true rfl | (simp; omega) | decide | (simp [*]; done)) rfl rfl rfl rfl | exact ok_indexAddr_sl te_ok rfl rfl rfl rfl rfl rfl (by first | omega | exact Nat.le_of_ble_eq_true rfl | (simp; omega) | decide | (simp [*]; done)) (by first | omega | exact Nat.le_of_ble_eq_true rfl | (simp; omega) | decide | (simp [*]; done)) rfl rfl rfl rfl | exact ok_indexAddr_fz te_ok rfl rfl rfl rfl rfl rfl (by first | omega | exact Nat.le_of_ble_eq_true rfl | (simp; omega) | decide | (simp [*]; done)) (by first | omega | exact Nat.le_of_ble_eq_true rfl | (simp; omega) | decide | (simp [*]; done)) rfl rfl (by decide) rfl rfl) ?_
    refine AOps.cons rfl rfl (by first | exact ok_load_ptr te_ok rfl rfl rfl rfl rfl rfl rfl (by decide) (by conv => lhs; whnf) rfl rfl | exact ok_load_fp te_ok rfl rfl rfl rfl (by decide) (by conv => lhs; whnf) rfl rfl) ?_
    refine AOps.cons rfl rfl (ok_buildSlice2 (id := 611) (vals := [(_, _), (_, _), (_, _), (_, _), (_, _), (_, _)]) te_ok rfl ⟨rfl, (by conv => lhs; whnf), rfl, (by conv => lhs; whnf), rfl, (by conv => lhs; whnf), rfl, (by conv => lhs; whnf), rfl, (by conv => lhs; whnf), rfl, (by conv => lhs; whnf), trivial⟩ rfl rfl rfl rfl rfl (by first | (simp only [List.take_succ_cons, List.take_zero, List.drop_succ_cons, List.drop_zero, List.drop_nil, List.take_nil, List.nil_append, List.cons_append, List.append_nil, List.map_cons, List.map_nil, ZC.val, repZ]; rfl) | rfl) rfl rfl rfl rfl) ?_
    refine AOps.cons rfl rfl (ok_len_sl te_ok rfl rfl rfl rfl rfl rfl rfl) ?_
    refine AOps.cons rfl rfl (ok_move rfl (by conv => lhs; whnf) rfl rfl) ?_
    refine AOps.nil ?_
    refine AWp.block ?_
    refine AWp.loopI (α := Nat) (fun j => mkS [(7, .sl 500 j 0 (2 * j) 1), (51, .sl 611 0 0 6 1), (52, i64 6), (53, i64 j)] [(500, .row (bs (((h.nums c0 c1 c2 c3).take j).flatMap two)) 1 j), (611, .row [i64 h.id, i64 (h.flN 5), i64 c0, i64 c1, i64 c2, i64 c3] 1 0)]) (fun j => j ≤ 6) (fun j => 6 - j) (0) (by decide) ?_ ?_
    · exact Weak.mk ⟨⟨by first | rfl | exact i64_eq (by omega) | exact str_eq (by simp) | (simp; done), by first | rfl | (refine AV.refs_ok (lv := 0) ?_; simp [AV.ok, AV.oks, *]; done)⟩, ⟨by first | rfl | exact i64_eq (by omega) | exact str_eq (by simp) | (simp; done), by first | rfl | (refine AV.refs_ok (lv := 0) ?_; simp [AV.ok, AV.oks, *]; done)⟩, ⟨by first | rfl | exact i64_eq (by omega) | exact str_eq (by simp) | (simp; done), by first | rfl | (refine AV.refs_ok (lv := 0) ?_; simp [AV.ok, AV.oks, *]; done)⟩, ⟨by first | rfl | exact i64_eq (by omega) | exact str_eq (by simp) | (simp; done), by first | rfl | (refine AV.refs_ok (lv := 0) ?_; simp [AV.ok, AV.oks, *]; done)⟩, trivial⟩ ⟨⟨by first | rfl | (simp; done), by exact bs_refs⟩, ⟨by exact congrArg (fun x => some (AObj.row [i64 h.id, i64 x, i64 c0, i64 c1, i64 c2, i64 c3] 1 0)) (by simp [Hd.flN]; omega), by first | rfl | (simp [ObjIn, AV.refss_append, bs_refs, AV.refss]; done)⟩, trivial⟩
    · rintro j hj
      refine AWp.seq ?_
      refine AWp.region ?_
      obtain rfl | rfl | rfl | rfl | rfl | rfl | rfl : j = 0 ∨ j = 1 ∨ j = 2 ∨ j = 3 ∨ j = 4 ∨ j = 5 ∨ j = 6 := by omega
      · skip
        refine AOps.dec rfl rfl (ok_bin rfl rfl rfl br_lss rfl rfl) (fun h6_0 => ?_) (fun h6_0 => ?_)
        · skip
          refine AOps.nil ?_
          refine AWp.seq ?_
          refine AWp.cond_t rfl ?_
          refine AWp.skip ?_
          refine AWp.seq ?_
          refine AWp.block ?_
          refine AWp.seq ?_
          refine AWp.region ?_
          refine AOps.cons rfl rfl (by first | exact ok_indexAddr_map te_ok rfl rfl rfl rfl rfl rfl rfl (by first | omega | exact Nat.le_of_ble_eq_true rfl | (simp; omega) | decide | (simp [*]; done)) (by first | omega | exact Nat.le_of_ble_eq_true rfl | (simp; omega) | decide | (simp [*]; done)) rfl rfl | exact ok_indexAddr_ptr te_ok rfl rfl rfl rfl rfl rfl (by first | omega | exact Nat.le_of_ble_eq_true rfl | (simp; omega) | decide | (simp [*]; done)) (by first | omega | exact Nat.le_of_ble_eq_true rfl | (simp; omega) | decide | (simp [*]; done)) rfl rfl rfl rfl | exact ok_indexAddr_sl te_ok rfl rfl rfl rfl rfl rfl (by first | omega | exact Nat.le_of_ble_eq_true rfl | (simp; omega) | decide | (simp [*]; done)) (by first | omega | exact Nat.le_of_ble_eq_true rfl | (simp; omega) | decide | (simp [*]; done)) rfl rfl rfl rfl | exact ok_indexAddr_fz te_ok rfl rfl rfl rfl rfl rfl (by first | omega | exact Nat.le_of_ble_eq_true rfl | (simp; omega) | decide | (simp [*]; done)) (by first | omega | exact Nat.le_of_ble_eq_true rfl | (simp; omega) | decide | (simp [*]; done)) rfl rfl (by decide) rfl rfl) ?_
          refine AOps.cons rfl rfl (by first | exact ok_load_ptr te_ok rfl rfl rfl rfl rfl rfl rfl (by decide) (by conv => lhs; whnf) rfl rfl | exact ok_load_fp te_ok rfl rfl rfl rfl (by decide) (by conv => lhs; whnf) rfl rfl) ?_
          refine AOps.cons rfl rfl (ok_assign rfl (by conv => lhs; whnf) rfl rfl) ?_
          refine AOps.nil ?_
          refine AWp.region ?_
          have hfl := Hd.fl_pos hop hco 5
          refine AOps.cons rfl rfl (ok_move rfl (by conv => lhs; whnf) rfl rfl) ?_
          refine AOps.cons rfl rfl (ok_move rfl (by conv => lhs; whnf) rfl rfl) ?_
          refine AOps.cons rfl rfl (ok_bin rfl rfl rfl (bi_quo (by first | omega | exact Nat.le_of_ble_eq_true rfl | (simp; omega) | decide | (simp [*]; done)) (by first | omega | exact Nat.le_of_ble_eq_true rfl | (simp; omega) | decide | (simp [*]; done)) (by first | omega | exact Nat.le_of_ble_eq_true rfl | (simp; omega) | decide | (simp [*]; done))) rfl rfl) ?_
          refine AOps.cons rfl rfl (ok_conv_u8 te_ok rfl rfl rfl rfl rfl rfl rfl) ?_
          refine AOps.cons rfl rfl (ok_move rfl (by conv => lhs; whnf) rfl rfl) ?_
          refine AOps.cons rfl rfl (ok_bin rfl rfl rfl (bi_rem (by first | omega | exact Nat.le_of_ble_eq_true rfl | (simp; omega) | decide | (simp [*]; done)) (by first | omega | exact Nat.le_of_ble_eq_true rfl | (simp; omega) | decide | (simp [*]; done))) rfl rfl) ?_
          refine AOps.cons rfl rfl (ok_conv_u8 te_ok rfl rfl rfl rfl rfl rfl rfl) ?_
          refine AOps.cons rfl rfl (ok_buildSlice2 (id := 907) (vals := [(_, _), (_, _)]) te_ok rfl ⟨rfl, (by conv => lhs; whnf), rfl, (by conv => lhs; whnf), trivial⟩ rfl rfl rfl rfl rfl (by first | (simp only [List.take_succ_cons, List.take_zero, List.drop_succ_cons, List.drop_zero, List.drop_nil, List.take_nil, List.nil_append, List.cons_append, List.append_nil, List.map_cons, List.map_nil, ZC.val, repZ]; rfl) | rfl) rfl rfl rfl rfl) ?_
          refine AOps.cons rfl rfl (by first | exact ok_append_sl te_ok rfl rfl rfl (by first | rfl | decide | omega) rfl rfl rfl rfl rfl rfl (by first | exact src_sl rfl rfl rfl rfl rfl | exact src_fz rfl (by first | rfl | decide | omega) | exact src_str rfl rfl | exact src_nil rfl | exact src_sl rfl rfl rfl rfl (by first | rfl | decide | omega)) (by first | (intro c hc; simp at hc; done) | (simp [AV.one, Value.oneCell']; done) | exact bs_one _ | (intro c hc; simp at hc; rcases hc with rfl | rfl <;> rfl)) rfl (by first | rfl | decide | omega) (by first | rfl | decide | omega) rfl rfl | exact ok_append_nil (id := 908) te_ok rfl rfl rfl rfl rfl rfl rfl (by first | exact src_sl rfl rfl rfl rfl rfl | exact src_fz rfl (by first | rfl | decide | omega) | exact src_str rfl rfl | exact src_nil rfl | exact src_sl rfl rfl rfl rfl (by first | rfl | decide | omega)) rfl (by first | rfl | decide | omega) (by first | rfl | decide | omega) rfl rfl) ?_
          refine AOps.cons rfl rfl (ok_assign rfl (by conv => lhs; whnf) rfl rfl) ?_
          refine AOps.nil ?_
          refine AWp.region ?_
          refine AOps.cons rfl rfl (ok_bin rfl rfl rfl (bi_add (by first | omega | exact Nat.le_of_ble_eq_true rfl | (simp; omega) | decide | (simp [*]; done)) (by first | omega | exact Nat.le_of_ble_eq_true rfl | (simp; omega) | decide | (simp [*]; done))) rfl rfl) ?_
          refine AOps.cons rfl rfl (ok_move rfl (by conv => lhs; whnf) rfl rfl) ?_
          refine AOps.nil ?_
          refine ⟨1, (by decide), ?_, (by decide)⟩
          exact Weak.mk ⟨⟨by first | rfl | exact i64_eq (by omega) | exact str_eq (by simp) | (simp; done), by first | rfl | (refine AV.refs_ok (lv := 0) ?_; simp [AV.ok, AV.oks, *]; done)⟩, ⟨by first | rfl | exact i64_eq (by omega) | exact str_eq (by simp) | (simp; done), by first | rfl | (refine AV.refs_ok (lv := 0) ?_; simp [AV.ok, AV.oks, *]; done)⟩, ⟨by first | rfl | exact i64_eq (by omega) | exact str_eq (by simp) | (simp; done), by first | rfl | (refine AV.refs_ok (lv := 0) ?_; simp [AV.ok, AV.oks, *]; done)⟩, ⟨by first | rfl | exact i64_eq (by omega) | exact str_eq (by simp) | (simp; done), by first | rfl | (refine AV.refs_ok (lv := 0) ?_; simp [AV.ok, AV.oks, *]; done)⟩, trivial⟩ ⟨⟨by exact congrArg (fun c => some (AObj.row c 1 1)) (by simp [two, bs, Hd.nums, byte_mod]), by exact bs_refs⟩, ⟨by first | rfl | (simp; done), by first | rfl | (simp [ObjIn, AV.refss_append, bs_refs, AV.refss]; done)⟩, trivial⟩
        · exfalso; omega
      · skip
        refine AOps.dec rfl rfl (ok_bin rfl rfl rfl br_lss rfl rfl) (fun h6_0 => ?_) (fun h6_0 => ?_)
        · skip
          refine AOps.nil ?_
          refine AWp.seq ?_
          refine AWp.cond_t rfl ?_
          refine AWp.skip ?_
          refine AWp.seq ?_
          refine AWp.block ?_
          refine AWp.seq ?_
          refine AWp.region ?_
          refine AOps.cons rfl rfl (by first | exact ok_indexAddr_map te_ok rfl rfl rfl rfl rfl rfl rfl (by first | omega | exact Nat.le_of_ble_eq_true rfl | (simp; omega) | decide | (simp [*]; done)) (by first | omega | exact Nat.le_of_ble_eq_true rfl | (simp; omega) | decide | (simp [*]; done)) rfl rfl | exact ok_indexAddr_ptr te_ok rfl rfl rfl rfl rfl rfl (by first | omega | exact Nat.le_of_ble_eq_true rfl | (simp; omega) | decide | (simp [*]; done)) (by first | omega | exact Nat.le_of_ble_eq_true rfl | (simp; omega) | decide | (simp [*]; done)) rfl rfl rfl rfl | exact ok_indexAddr_sl te_ok rfl rfl rfl rfl rfl rfl (by first | omega | exact Nat.le_of_ble_eq_true rfl | (simp; omega) | decide | (simp [*]; done)) (by first | omega | exact Nat.le_of_ble_eq_true rfl | (simp; omega) | decide | (simp [*]; done)) rfl rfl rfl rfl | exact ok_indexAddr_fz te_ok rfl rfl rfl rfl rfl rfl (by first | omega | exact Nat.le_of_ble_eq_true rfl | (simp; omega) | decide | (simp [*]; done)) (by first | omega | exact Nat.le_of_ble_eq_true rfl | (simp; omega) | decide | (simp [*]; done)) rfl rfl (by decide) rfl rfl) ?_
          refine AOps.cons rfl rfl (by first | exact ok_load_ptr te_ok rfl rfl rfl rfl rfl rfl rfl (by decide) (by conv => lhs; whnf) rfl rfl | exact ok_load_fp te_ok rfl rfl rfl rfl (by decide) (by conv => lhs; whnf) rfl rfl) ?_
          refine AOps.cons rfl rfl (ok_assign rfl (by conv => lhs; whnf) rfl rfl) ?_
          refine AOps.nil ?_
          refine AWp.region ?_
          have hfl := Hd.fl_pos hop hco 5
          refine AOps.cons rfl rfl (ok_move rfl (by conv => lhs; whnf) rfl rfl) ?_
          refine AOps.cons rfl rfl (ok_move rfl (by conv => lhs; whnf) rfl rfl) ?_
          refine AOps.cons rfl rfl (ok_bin rfl rfl rfl (bi_quo (by first | omega | exact Nat.le_of_ble_eq_true rfl | (simp; omega) | decide | (simp [*]; done)) (by first | omega | exact Nat.le_of_ble_eq_true rfl | (simp; omega) | decide | (simp [*]; done)) (by first | omega | exact Nat.le_of_ble_eq_true rfl | (simp; omega) | decide | (simp [*]; done))) rfl rfl) ?_
          refine AOps.cons rfl rfl (ok_conv_u8 te_ok rfl rfl rfl rfl rfl rfl rfl) ?_
          refine AOps.cons rfl rfl (ok_move rfl (by conv => lhs; whnf) rfl rfl) ?_
          refine AOps.cons rfl rfl (ok_bin rfl rfl rfl (bi_rem (by first | omega | exact Nat.le_of_ble_eq_true rfl | (simp; omega) | decide | (simp [*]; done)) (by first | omega | exact Nat.le_of_ble_eq_true rfl | (simp; omega) | decide | (simp [*]; done))) rfl rfl) ?_
          refine AOps.cons rfl rfl (ok_conv_u8 te_ok rfl rfl rfl rfl rfl rfl rfl) ?_
          refine AOps.cons rfl rfl (ok_buildSlice2 (id := 907) (vals := [(_, _), (_, _)]) te_ok rfl ⟨rfl, (by conv => lhs; whnf), rfl, (by conv => lhs; whnf), trivial⟩ rfl rfl rfl rfl rfl (by first | (simp only [List.take_succ_cons, List.take_zero, List.drop_succ_cons, List.drop_zero, List.drop_nil, List.take_nil, List.nil_append, List.cons_append, List.append_nil, List.map_cons, List.map_nil, ZC.val, repZ]; rfl) | rfl) rfl rfl rfl rfl) ?_
          refine AOps.cons rfl rfl (by first | exact ok_append_sl te_ok rfl rfl rfl (by first | rfl | decide | omega) rfl rfl rfl rfl rfl rfl (by first | exact src_sl rfl rfl rfl rfl rfl | exact src_fz rfl (by first | rfl | decide | omega) | exact src_str rfl rfl | exact src_nil rfl | exact src_sl rfl rfl rfl rfl (by first | rfl | decide | omega)) (by first | (intro c hc; simp at hc; done) | (simp [AV.one, Value.oneCell']; done) | exact bs_one _ | (intro c hc; simp at hc; rcases hc with rfl | rfl <;> rfl)) rfl (by first | rfl | decide | omega) (by first | rfl | decide | omega) rfl rfl | exact ok_append_nil (id := 908) te_ok rfl rfl rfl rfl rfl rfl rfl (by first | exact src_sl rfl rfl rfl rfl rfl | exact src_fz rfl (by first | rfl | decide | omega) | exact src_str rfl rfl | exact src_nil rfl | exact src_sl rfl rfl rfl rfl (by first | rfl | decide | omega)) rfl (by first | rfl | decide | omega) (by first | rfl | decide | omega) rfl rfl) ?_
          refine AOps.cons rfl rfl (ok_assign rfl (by conv => lhs; whnf) rfl rfl) ?_
          refine AOps.nil ?_
          refine AWp.region ?_
          refine AOps.cons rfl rfl (ok_bin rfl rfl rfl (bi_add (by first | omega | exact Nat.le_of_ble_eq_true rfl | (simp; omega) | decide | (simp [*]; done)) (by first | omega | exact Nat.le_of_ble_eq_true rfl | (simp; omega) | decide | (simp [*]; done))) rfl rfl) ?_
          refine AOps.cons rfl rfl (ok_move rfl (by conv => lhs; whnf) rfl rfl) ?_
          refine AOps.nil ?_
          refine ⟨2, (by decide), ?_, (by decide)⟩
          exact Weak.mk ⟨⟨by first | rfl | exact i64_eq (by omega) | exact str_eq (by simp) | (simp; done), by first | rfl | (refine AV.refs_ok (lv := 0) ?_; simp [AV.ok, AV.oks, *]; done)⟩, ⟨by first | rfl | exact i64_eq (by omega) | exact str_eq (by simp) | (simp; done), by first | rfl | (refine AV.refs_ok (lv := 0) ?_; simp [AV.ok, AV.oks, *]; done)⟩, ⟨by first | rfl | exact i64_eq (by omega) | exact str_eq (by simp) | (simp; done), by first | rfl | (refine AV.refs_ok (lv := 0) ?_; simp [AV.ok, AV.oks, *]; done)⟩, ⟨by first | rfl | exact i64_eq (by omega) | exact str_eq (by simp) | (simp; done), by first | rfl | (refine AV.refs_ok (lv := 0) ?_; simp [AV.ok, AV.oks, *]; done)⟩, trivial⟩ ⟨⟨by exact congrArg (fun c => some (AObj.row c 1 2)) (by simp [two, bs, Hd.nums, byte_mod]), by exact bs_refs⟩, ⟨by first | rfl | (simp; done), by first | rfl | (simp [ObjIn, AV.refss_append, bs_refs, AV.refss]; done)⟩, trivial⟩
        · exfalso; omega
      · skip
        refine AOps.dec rfl rfl (ok_bin rfl rfl rfl br_lss rfl rfl) (fun h6_0 => ?_) (fun h6_0 => ?_)
        · skip
          refine AOps.nil ?_
          refine AWp.seq ?_
          refine AWp.cond_t rfl ?_
          refine AWp.skip ?_
          refine AWp.seq ?_
          refine AWp.block ?_
          refine AWp.seq ?_
          refine AWp.region ?_
          refine AOps.cons rfl rfl (by first | exact ok_indexAddr_map te_ok rfl rfl rfl rfl rfl rfl rfl (by first | omega | exact Nat.le_of_ble_eq_true rfl | (simp; omega) | decide | (simp [*]; done)) (by first | omega | exact Nat.le_of_ble_eq_true rfl | (simp; omega) | decide | (simp [*]; done)) rfl rfl | exact ok_indexAddr_ptr te_ok rfl rfl rfl rfl rfl rfl (by first | omega | exact Nat.le_of_ble_eq_true rfl | (simp; omega) | decide | (simp [*]; done)) (by first | omega | exact Nat.le_of_ble_eq_true rfl | (simp; omega) | decide | (simp [*]; done)) rfl rfl rfl rfl | exact ok_indexAddr_sl te_ok rfl rfl rfl rfl rfl rfl (by first | omega | exact Nat.le_of_ble_eq_true rfl | (simp; omega) | decide | (simp [*]; done)) (by first | omega | exact Nat.le_of_ble_eq_true rfl | (simp; omega) | decide | (simp [*]; done)) rfl rfl rfl rfl | exact ok_indexAddr_fz te_ok rfl rfl rfl rfl rfl rfl (by first | omega | exact Nat.le_of_ble_eq_true rfl | (simp; omega) | decide | (simp [*]; done)) (by first | omega | exact Nat.le_of_ble_eq_true rfl | (simp; omega) | decide | (simp [*]; done)) rfl rfl (by decide) rfl rfl) ?_
          refine AOps.cons rfl rfl (by first | exact ok_load_ptr te_ok rfl rfl rfl rfl rfl rfl rfl (by decide) (by conv => lhs; whnf) rfl rfl | exact ok_load_fp te_ok rfl rfl rfl rfl (by decide) (by conv => lhs; whnf) rfl rfl) ?_
          refine AOps.cons rfl rfl (ok_assign rfl (by conv => lhs; whnf) rfl rfl) ?_
          refine AOps.nil ?_
          refine AWp.region ?_
          have hfl := Hd.fl_pos hop hco 5
          refine AOps.cons rfl rfl (ok_move rfl (by conv => lhs; whnf) rfl rfl) ?_
          refine AOps.cons rfl rfl (ok_move rfl (by conv => lhs; whnf) rfl rfl) ?_
          refine AOps.cons rfl rfl (ok_bin rfl rfl rfl (bi_quo (by first | omega | exact Nat.le_of_ble_eq_true rfl | (simp; omega) | decide | (simp [*]; done)) (by first | omega | exact Nat.le_of_ble_eq_true rfl | (simp; omega) | decide | (simp [*]; done)) (by first | omega | exact Nat.le_of_ble_eq_true rfl | (simp; omega) | decide | (simp [*]; done))) rfl rfl) ?_
          refine AOps.cons rfl rfl (ok_conv_u8 te_ok rfl rfl rfl rfl rfl rfl rfl) ?_
          refine AOps.cons rfl rfl (ok_move rfl (by conv => lhs; whnf) rfl rfl) ?_
          refine AOps.cons rfl rfl (ok_bin rfl rfl rfl (bi_rem (by first | omega | exact Nat.le_of_ble_eq_true rfl | (simp; omega) | decide | (simp [*]; done)) (by first | omega | exact Nat.le_of_ble_eq_true rfl | (simp; omega) | decide | (simp [*]; done))) rfl rfl) ?_
          refine AOps.cons rfl rfl (ok_conv_u8 te_ok rfl rfl rfl rfl rfl rfl rfl) ?_
          refine AOps.cons rfl rfl (ok_buildSlice2 (id := 907) (vals := [(_, _), (_, _)]) te_ok rfl ⟨rfl, (by conv => lhs; whnf), rfl, (by conv => lhs; whnf), trivial⟩ rfl rfl rfl rfl rfl (by first | (simp only [List.take_succ_cons, List.take_zero, List.drop_succ_cons, List.drop_zero, List.drop_nil, List.take_nil, List.nil_append, List.cons_append, List.append_nil, List.map_cons, List.map_nil, ZC.val, repZ]; rfl) | rfl) rfl rfl rfl rfl) ?_
          refine AOps.cons rfl rfl (by first | exact ok_append_sl te_ok rfl rfl rfl (by first | rfl | decide | omega) rfl rfl rfl rfl rfl rfl (by first | exact src_sl rfl rfl rfl rfl rfl | exact src_fz rfl (by first | rfl | decide | omega) | exact src_str rfl rfl | exact src_nil rfl | exact src_sl rfl rfl rfl rfl (by first | rfl | decide | omega)) (by first | (intro c hc; simp at hc; done) | (simp [AV.one, Value.oneCell']; done) | exact bs_one _ | (intro c hc; simp at hc; rcases hc with rfl | rfl <;> rfl)) rfl (by first | rfl | decide | omega) (by first | rfl | decide | omega) rfl rfl | exact ok_append_nil (id := 908) te_ok rfl rfl rfl rfl rfl rfl rfl (by first | exact src_sl rfl rfl rfl rfl rfl | exact src_fz rfl (by first | rfl | decide | omega) | exact src_str rfl rfl | exact src_nil rfl | exact src_sl rfl rfl rfl rfl (by first | rfl | decide | omega)) rfl (by first | rfl | decide | omega) (by first | rfl | decide | omega) rfl rfl) ?_
          refine AOps.cons rfl rfl (ok_assign rfl (by conv => lhs; whnf) rfl rfl) ?_
          refine AOps.nil ?_
          refine AWp.region ?_
          refine AOps.cons rfl rfl (ok_bin rfl rfl rfl (bi_add (by first | omega | exact Nat.le_of_ble_eq_true rfl | (simp; omega) | decide | (simp [*]; done)) (by first | omega | exact Nat.le_of_ble_eq_true rfl | (simp; omega) | decide | (simp [*]; done))) rfl rfl) ?_
          refine AOps.cons rfl rfl (ok_move rfl (by conv => lhs; whnf) rfl rfl) ?_
          refine AOps.nil ?_
          refine ⟨3, (by decide), ?_, (by decide)⟩
          exact Weak.mk ⟨⟨by first | rfl | exact i64_eq (by omega) | exact str_eq (by simp) | (simp; done), by first | rfl | (refine AV.refs_ok (lv := 0) ?_; simp [AV.ok, AV.oks, *]; done)⟩, ⟨by first | rfl | exact i64_eq (by omega) | exact str_eq (by simp) | (simp; done), by first | rfl | (refine AV.refs_ok (lv := 0) ?_; simp [AV.ok, AV.oks, *]; done)⟩, ⟨by first | rfl | exact i64_eq (by omega) | exact str_eq (by simp) | (simp; done), by first | rfl | (refine AV.refs_ok (lv := 0) ?_; simp [AV.ok, AV.oks, *]; done)⟩, ⟨by first | rfl | exact i64_eq (by omega) | exact str_eq (by simp) | (simp; done), by first | rfl | (refine AV.refs_ok (lv := 0) ?_; simp [AV.ok, AV.oks, *]; done)⟩, trivial⟩ ⟨⟨by exact congrArg (fun c => some (AObj.row c 1 3)) (by simp [two, bs, Hd.nums, byte_mod]), by exact bs_refs⟩, ⟨by first | rfl | (simp; done), by first | rfl | (simp [ObjIn, AV.refss_append, bs_refs, AV.refss]; done)⟩, trivial⟩
        · exfalso; omega
      · skip
        refine AOps.dec rfl rfl (ok_bin rfl rfl rfl br_lss rfl rfl) (fun h6_0 => ?_) (fun h6_0 => ?_)
        · skip
          refine AOps.nil ?_
          refine AWp.seq ?_
          refine AWp.cond_t rfl ?_
          refine AWp.skip ?_
          refine AWp.seq ?_
          refine AWp.block ?_
          refine AWp.seq ?_
          refine AWp.region ?_
          refine AOps.cons rfl rfl (by first | exact ok_indexAddr_map te_ok rfl rfl rfl rfl rfl rfl rfl (by first | omega | exact Nat.le_of_ble_eq_true rfl | (simp; omega) | decide | (simp [*]; done)) (by first | omega | exact Nat.le_of_ble_eq_true rfl | (simp; omega) | decide | (simp [*]; done)) rfl rfl | exact ok_indexAddr_ptr te_ok rfl rfl rfl rfl rfl rfl (by first | omega | exact Nat.le_of_ble_eq_true rfl | (simp; omega) | decide | (simp [*]; done)) (by first | omega | exact Nat.le_of_ble_eq_true rfl | (simp; omega) | decide | (simp [*]; done)) rfl rfl rfl rfl | exact ok_indexAddr_sl te_ok rfl rfl rfl rfl rfl rfl (by first | omega | exact Nat.le_of_ble_eq_true rfl | (simp; omega) | decide | (simp [*]; done)) (by first | omega | exact Nat.le_of_ble_eq_true rfl | (simp; omega) | decide | (simp [*]; done)) rfl rfl rfl rfl | exact ok_indexAddr_fz te_ok rfl rfl rfl rfl rfl rfl (by first | omega | exact Nat.le_of_ble_eq_true rfl | (simp; omega) | decide | (simp [*]; done)) (by first | omega | exact Nat.le_of_ble_eq_true rfl | (simp; omega) | decide | (simp [*]; done)) rfl rfl (by decide) rfl rfl) ?_
          refine AOps.cons rfl rfl (by first | exact ok_load_ptr te_ok rfl rfl rfl rfl rfl rfl rfl (by decide) (by conv => lhs; whnf) rfl rfl | exact ok_load_fp te_ok rfl rfl rfl rfl (by decide) (by conv => lhs; whnf) rfl rfl) ?_
          refine AOps.cons rfl rfl (ok_assign rfl (by conv => lhs; whnf) rfl rfl) ?_
          refine AOps.nil ?_
          refine AWp.region ?_
          have hfl := Hd.fl_pos hop hco 5
          refine AOps.cons rfl rfl (ok_move rfl (by conv => lhs; whnf) rfl rfl) ?_
          refine AOps.cons rfl rfl (ok_move rfl (by conv => lhs; whnf) rfl rfl) ?_
          refine AOps.cons rfl rfl (ok_bin rfl rfl rfl (bi_quo (by first | omega | exact Nat.le_of_ble_eq_true rfl | (simp; omega) | decide | (simp [*]; done)) (by first | omega | exact Nat.le_of_ble_eq_true rfl | (simp; omega) | decide | (simp [*]; done)) (by first | omega | exact Nat.le_of_ble_eq_true rfl | (simp; omega) | decide | (simp [*]; done))) rfl rfl) ?_
          refine AOps.cons rfl rfl (ok_conv_u8 te_ok rfl rfl rfl rfl rfl rfl rfl) ?_
          refine AOps.cons rfl rfl (ok_move rfl (by conv => lhs; whnf) rfl rfl) ?_
          refine AOps.cons rfl rfl (ok_bin rfl rfl rfl (bi_rem (by first | omega | exact Nat.le_of_ble_eq_true rfl | (simp; omega) | decide | (simp [*]; done)) (by first | omega | exact Nat.le_of_ble_eq_true rfl | (simp; omega) | decide | (simp [*]; done))) rfl rfl) ?_
          refine AOps.cons rfl rfl (ok_conv_u8 te_ok rfl rfl rfl rfl rfl rfl rfl) ?_
          refine AOps.cons rfl rfl (ok_buildSlice2 (id := 907) (vals := [(_, _), (_, _)]) te_ok rfl ⟨rfl, (by conv => lhs; whnf), rfl, (by conv => lhs; whnf), trivial⟩ rfl rfl rfl rfl rfl (by first | (simp only [List.take_succ_cons, List.take_zero, List.drop_succ_cons, List.drop_zero, List.drop_nil, List.take_nil, List.nil_append, List.cons_append, List.append_nil, List.map_cons, List.map_nil, ZC.val, repZ]; rfl) | rfl) rfl rfl rfl rfl) ?_
          refine AOps.cons rfl rfl (by first | exact ok_append_sl te_ok rfl rfl rfl (by first | rfl | decide | omega) rfl rfl rfl rfl rfl rfl (by first | exact src_sl rfl rfl rfl rfl rfl | exact src_fz rfl (by first | rfl | decide | omega) | exact src_str rfl rfl | exact src_nil rfl | exact src_sl rfl rfl rfl rfl (by first | rfl | decide | omega)) (by first | (intro c hc; simp at hc; done) | (simp [AV.one, Value.oneCell']; done) | exact bs_one _ | (intro c hc; simp at hc; rcases hc with rfl | rfl <;> rfl)) rfl (by first | rfl | decide | omega) (by first | rfl | decide | omega) rfl rfl | exact ok_append_nil (id := 908) te_ok rfl rfl rfl rfl rfl rfl rfl (by first | exact src_sl rfl rfl rfl rfl rfl | exact src_fz rfl (by first | rfl | decide | omega) | exact src_str rfl rfl | exact src_nil rfl | exact src_sl rfl rfl rfl rfl (by first | rfl | decide | omega)) rfl (by first | rfl | decide | omega) (by first | rfl | decide | omega) rfl rfl) ?_
          refine AOps.cons rfl rfl (ok_assign rfl (by conv => lhs; whnf) rfl rfl) ?_
          refine AOps.nil ?_
          refine AWp.region ?_
          refine AOps.cons rfl rfl (ok_bin rfl rfl rfl (bi_add (by first | omega | exact Nat.le_of_ble_eq_true rfl | (simp; omega) | decide | (simp [*]; done)) (by first | omega | exact Nat.le_of_ble_eq_true rfl | (simp; omega) | decide | (simp [*]; done))) rfl rfl) ?_
          refine AOps.cons rfl rfl (ok_move rfl (by conv => lhs; whnf) rfl rfl) ?_
          refine AOps.nil ?_
          refine ⟨4, (by decide), ?_, (by decide)⟩
          exact Weak.mk ⟨⟨by first | rfl | exact i64_eq (by omega) | exact str_eq (by simp) | (simp; done), by first | rfl | (refine AV.refs_ok (lv := 0) ?_; simp [AV.ok, AV.oks, *]; done)⟩, ⟨by first | rfl | exact i64_eq (by omega) | exact str_eq (by simp) | (simp; done), by first | rfl | (refine AV.refs_ok (lv := 0) ?_; simp [AV.ok, AV.oks, *]; done)⟩, ⟨by first | rfl | exact i64_eq (by omega) | exact str_eq (by simp) | (simp; done), by first | rfl | (refine AV.refs_ok (lv := 0) ?_; simp [AV.ok, AV.oks, *]; done)⟩, ⟨by first | rfl | exact i64_eq (by omega) | exact str_eq (by simp) | (simp; done), by first | rfl | (refine AV.refs_ok (lv := 0) ?_; simp [AV.ok, AV.oks, *]; done)⟩, trivial⟩ ⟨⟨by exact congrArg (fun c => some (AObj.row c 1 4)) (by simp [two, bs, Hd.nums, byte_mod]), by exact bs_refs⟩, ⟨by first | rfl | (simp; done), by first | rfl | (simp [ObjIn, AV.refss_append, bs_refs, AV.refss]; done)⟩, trivial⟩
        · exfalso; omega
      · skip
        refine AOps.dec rfl rfl (ok_bin rfl rfl rfl br_lss rfl rfl) (fun h6_0 => ?_) (fun h6_0 => ?_)
        · skip
          refine AOps.nil ?_
          refine AWp.seq ?_
          refine AWp.cond_t rfl ?_
          refine AWp.skip ?_
          refine AWp.seq ?_
          refine AWp.block ?_
          refine AWp.seq ?_
          refine AWp.region ?_
          refine AOps.cons rfl rfl (by first | exact ok_indexAddr_map te_ok rfl rfl rfl rfl rfl rfl rfl (by first | omega | exact Nat.le_of_ble_eq_true rfl | (simp; omega) | decide | (simp [*]; done)) (by first | omega | exact Nat.le_of_ble_eq_true rfl | (simp; omega) | decide | (simp [*]; done)) rfl rfl | exact ok_indexAddr_ptr te_ok rfl rfl rfl rfl rfl rfl (by first | omega | exact Nat.le_of_ble_eq_true rfl | (simp; omega) | decide | (simp [*]; done)) (by first | omega | exact Nat.le_of_ble_eq_true rfl | (simp; omega) | decide | (simp [*]; done)) rfl rfl rfl rfl | exact ok_indexAddr_sl te_ok rfl rfl rfl rfl rfl rfl (by first | omega | exact Nat.le_of_ble_eq_true rfl | (simp; omega) | decide | (simp [*]; done)) (by first | omega | exact Nat.le_of_ble_eq_true rfl | (simp; omega) | decide | (simp [*]; done)) rfl rfl rfl rfl | exact ok_indexAddr_fz te_ok rfl rfl rfl rfl rfl rfl (by first | omega | exact Nat.le_of_ble_eq_true rfl | (simp; omega) | decide | (simp [*]; done)) (by first | omega | exact Nat.le_of_ble_eq_true rfl | (simp; omega) | decide | (simp [*]; done)) rfl rfl (by decide) rfl rfl) ?_
          refine AOps.cons rfl rfl (by first | exact ok_load_ptr te_ok rfl rfl rfl rfl rfl rfl rfl (by decide) (by conv => lhs; whnf) rfl rfl | exact ok_load_fp te_ok rfl rfl rfl rfl (by decide) (by conv => lhs; whnf) rfl rfl) ?_
          refine AOps.cons rfl rfl (ok_assign rfl (by conv => lhs; whnf) rfl rfl) ?_
          refine AOps.nil ?_
          refine AWp.region ?_
          have hfl := Hd.fl_pos hop hco 5
          refine AOps.cons rfl rfl (ok_move rfl (by conv => lhs; whnf) rfl rfl) ?_
          refine AOps.cons rfl rfl (ok_move rfl (by conv => lhs; whnf) rfl rfl) ?_
          refine AOps.cons rfl rfl (ok_bin rfl rfl rfl (bi_quo (by first | omega | exact Nat.le_of_ble_eq_true rfl | (simp; omega) | decide | (simp [*]; done)) (by first | omega | exact Nat.le_of_ble_eq_true rfl | (simp; omega) | decide | (simp [*]; done)) (by first | omega | exact Nat.le_of_ble_eq_true rfl | (simp; omega) | decide | (simp [*]; done))) rfl rfl) ?_
          refine AOps.cons rfl rfl (ok_conv_u8 te_ok rfl rfl rfl rfl rfl rfl rfl) ?_
          refine AOps.cons rfl rfl (ok_move rfl (by conv => lhs; whnf) rfl rfl) ?_
          refine AOps.cons rfl rfl (ok_bin rfl rfl rfl (bi_rem (by first | omega | exact Nat.le_of_ble_eq_true rfl | (simp; omega) | decide | (simp [*]; done)) (by first | omega | exact Nat.le_of_ble_eq_true rfl | (simp; omega) | decide | (simp [*]; done))) rfl rfl) ?_
          refine AOps.cons rfl rfl (ok_conv_u8 te_ok rfl rfl rfl rfl rfl rfl rfl) ?_
          refine AOps.cons rfl rfl (ok_buildSlice2 (id := 907) (vals := [(_, _), (_, _)]) te_ok rfl ⟨rfl, (by conv => lhs; whnf), rfl, (by conv => lhs; whnf), trivial⟩ rfl rfl rfl rfl rfl (by first | (simp only [List.take_succ_cons, List.take_zero, List.drop_succ_cons, List.drop_zero, List.drop_nil, List.take_nil, List.nil_append, List.cons_append, List.append_nil, List.map_cons, List.map_nil, ZC.val, repZ]; rfl) | rfl) rfl rfl rfl rfl) ?_
          refine AOps.cons rfl rfl (by first | exact ok_append_sl te_ok rfl rfl rfl (by first | rfl | decide | omega) rfl rfl rfl rfl rfl rfl (by first | exact src_sl rfl rfl rfl rfl rfl | exact src_fz rfl (by first | rfl | decide | omega) | exact src_str rfl rfl | exact src_nil rfl | exact src_sl rfl rfl rfl rfl (by first | rfl | decide | omega)) (by first | (intro c hc; simp at hc; done) | (simp [AV.one, Value.oneCell']; done) | exact bs_one _ | (intro c hc; simp at hc; rcases hc with rfl | rfl <;> rfl)) rfl (by first | rfl | decide | omega) (by first | rfl | decide | omega) rfl rfl | exact ok_append_nil (id := 908) te_ok rfl rfl rfl rfl rfl rfl rfl (by first | exact src_sl rfl rfl rfl rfl rfl | exact src_fz rfl (by first | rfl | decide | omega) | exact src_str rfl rfl | exact src_nil rfl | exact src_sl rfl rfl rfl rfl (by first | rfl | decide | omega)) rfl (by first | rfl | decide | omega) (by first | rfl | decide | omega) rfl rfl) ?_
          refine AOps.cons rfl rfl (ok_assign rfl (by conv => lhs; whnf) rfl rfl) ?_
          refine AOps.nil ?_
          refine AWp.region ?_
          refine AOps.cons rfl rfl (ok_bin rfl rfl rfl (bi_add (by first | omega | exact Nat.le_of_ble_eq_true rfl | (simp; omega) | decide | (simp [*]; done)) (by first | omega | exact Nat.le_of_ble_eq_true rfl | (simp; omega) | decide | (simp [*]; done))) rfl rfl) ?_
          refine AOps.cons rfl rfl (ok_move rfl (by conv => lhs; whnf) rfl rfl) ?_
          refine AOps.nil ?_
          refine ⟨5, (by decide), ?_, (by decide)⟩
          exact Weak.mk ⟨⟨by first | rfl | exact i64_eq (by omega) | exact str_eq (by simp) | (simp; done), by first | rfl | (refine AV.refs_ok (lv := 0) ?_; simp [AV.ok, AV.oks, *]; done)⟩, ⟨by first | rfl | exact i64_eq (by omega) | exact str_eq (by simp) | (simp; done), by first | rfl | (refine AV.refs_ok (lv := 0) ?_; simp [AV.ok, AV.oks, *]; done)⟩, ⟨by first | rfl | exact i64_eq (by omega) | exact str_eq (by simp) | (simp; done), by first | rfl | (refine AV.refs_ok (lv := 0) ?_; simp [AV.ok, AV.oks, *]; done)⟩, ⟨by first | rfl | exact i64_eq (by omega) | exact str_eq (by simp) | (simp; done), by first | rfl | (refine AV.refs_ok (lv := 0) ?_; simp [AV.ok, AV.oks, *]; done)⟩, trivial⟩ ⟨⟨by exact congrArg (fun c => some (AObj.row c 1 5)) (by simp [two, bs, Hd.nums, byte_mod]), by exact bs_refs⟩, ⟨by first | rfl | (simp; done), by first | rfl | (simp [ObjIn, AV.refss_append, bs_refs, AV.refss]; done)⟩, trivial⟩
        · exfalso; omega
      · skip
        refine AOps.dec rfl rfl (ok_bin rfl rfl rfl br_lss rfl rfl) (fun h6_0 => ?_) (fun h6_0 => ?_)
        · skip
          refine AOps.nil ?_
          refine AWp.seq ?_
          refine AWp.cond_t rfl ?_
          refine AWp.skip ?_
          refine AWp.seq ?_
          refine AWp.block ?_
          refine AWp.seq ?_
          refine AWp.region ?_
          refine AOps.cons rfl rfl (by first | exact ok_indexAddr_map te_ok rfl rfl rfl rfl rfl rfl rfl (by first | omega | exact Nat.le_of_ble_eq_true rfl | (simp; omega) | decide | (simp [*]; done)) (by first | omega | exact Nat.le_of_ble_eq_true rfl | (simp; omega) | decide | (simp [*]; done)) rfl rfl | exact ok_indexAddr_ptr te_ok rfl rfl rfl rfl rfl rfl (by first | omega | exact Nat.le_of_ble_eq_true rfl | (simp; omega) | decide | (simp [*]; done)) (by first | omega | exact Nat.le_of_ble_eq_true rfl | (simp; omega) | decide | (simp [*]; done)) rfl rfl rfl rfl | exact ok_indexAddr_sl te_ok rfl rfl rfl rfl rfl rfl (by first | omega | exact Nat.le_of_ble_eq_true rfl | (simp; omega) | decide | (simp [*]; done)) (by first | omega | exact Nat.le_of_ble_eq_true rfl | (simp; omega) | decide | (simp [*]; done)) rfl rfl rfl rfl | exact ok_indexAddr_fz te_ok rfl rfl rfl rfl rfl rfl (by first | omega | exact Nat.le_of_ble_eq_true rfl | (simp; omega) | decide | (simp [*]; done)) (by first | omega | exact Nat.le_of_ble_eq_true rfl | (simp; omega) | decide | (simp [*]; done)) rfl rfl (by decide) rfl rfl) ?_
          refine AOps.cons rfl rfl (by first | exact ok_load_ptr te_ok rfl rfl rfl rfl rfl rfl rfl (by decide) (by conv => lhs; whnf) rfl rfl | exact ok_load_fp te_ok rfl rfl rfl rfl (by decide) (by conv => lhs; whnf) rfl rfl) ?_
          refine AOps.cons rfl rfl (ok_assign rfl (by conv => lhs; whnf) rfl rfl) ?_
          refine AOps.nil ?_
          refine AWp.region ?_
          have hfl := Hd.fl_pos hop hco 5
          refine AOps.cons rfl rfl (ok_move rfl (by conv => lhs; whnf) rfl rfl) ?_
          refine AOps.cons rfl rfl (ok_move rfl (by conv => lhs; whnf) rfl rfl) ?_
          refine AOps.cons rfl rfl (ok_bin rfl rfl rfl (bi_quo (by first | omega | exact Nat.le_of_ble_eq_true rfl | (simp; omega) | decide | (simp [*]; done)) (by first | omega | exact Nat.le_of_ble_eq_true rfl | (simp; omega) | decide | (simp [*]; done)) (by first | omega | exact Nat.le_of_ble_eq_true rfl | (simp; omega) | decide | (simp [*]; done))) rfl rfl) ?_
          refine AOps.cons rfl rfl (ok_conv_u8 te_ok rfl rfl rfl rfl rfl rfl rfl) ?_
          refine AOps.cons rfl rfl (ok_move rfl (by conv => lhs; whnf) rfl rfl) ?_
          refine AOps.cons rfl rfl (ok_bin rfl rfl rfl (bi_rem (by first | omega | exact Nat.le_of_ble_eq_true rfl | (simp; omega) | decide | (simp [*]; done)) (by first | omega | exact Nat.le_of_ble_eq_true rfl | (simp; omega) | decide | (simp [*]; done))) rfl rfl) ?_
          refine AOps.cons rfl rfl (ok_conv_u8 te_ok rfl rfl rfl rfl rfl rfl rfl) ?_
          refine AOps.cons rfl rfl (ok_buildSlice2 (id := 907) (vals := [(_, _), (_, _)]) te_ok rfl ⟨rfl, (by conv => lhs; whnf), rfl, (by conv => lhs; whnf), trivial⟩ rfl rfl rfl rfl rfl (by first | (simp only [List.take_succ_cons, List.take_zero, List.drop_succ_cons, List.drop_zero, List.drop_nil, List.take_nil, List.nil_append, List.cons_append, List.append_nil, List.map_cons, List.map_nil, ZC.val, repZ]; rfl) | rfl) rfl rfl rfl rfl) ?_
          refine AOps.cons rfl rfl (by first | exact ok_append_sl te_ok rfl rfl rfl (by first | rfl | decide | omega) rfl rfl rfl rfl rfl rfl (by first | exact src_sl rfl rfl rfl rfl rfl | exact src_fz rfl (by first | rfl | decide | omega) | exact src_str rfl rfl | exact src_nil rfl | exact src_sl rfl rfl rfl rfl (by first | rfl | decide | omega)) (by first | (intro c hc; simp at hc; done) | (simp [AV.one, Value.oneCell']; done) | exact bs_one _ | (intro c hc; simp at hc; rcases hc with rfl | rfl <;> rfl)) rfl (by first | rfl | decide | omega) (by first | rfl | decide | omega) rfl rfl | exact ok_append_nil (id := 908) te_ok rfl rfl rfl rfl rfl rfl rfl (by first | exact src_sl rfl rfl rfl rfl rfl | exact src_fz rfl (by first | rfl | decide | omega) | exact src_str rfl rfl | exact src_nil rfl | exact src_sl rfl rfl rfl rfl (by first | rfl | decide | omega)) rfl (by first | rfl | decide | omega) (by first | rfl | decide | omega) rfl rfl) ?_
          refine AOps.cons rfl rfl (ok_assign rfl (by conv => lhs; whnf) rfl rfl) ?_
          refine AOps.nil ?_
          refine AWp.region ?_
          refine AOps.cons rfl rfl (ok_bin rfl rfl rfl (bi_add (by first | omega | exact Nat.le_of_ble_eq_true rfl | (simp; omega) | decide | (simp [*]; done)) (by first | omega | exact Nat.le_of_ble_eq_true rfl | (simp; omega) | decide | (simp [*]; done))) rfl rfl) ?_
          refine AOps.cons rfl rfl (ok_move rfl (by conv => lhs; whnf) rfl rfl) ?_
          refine AOps.nil ?_
          refine ⟨6, (by decide), ?_, (by decide)⟩
          exact Weak.mk ⟨⟨by first | rfl | exact i64_eq (by omega) | exact str_eq (by simp) | (simp; done), by first | rfl | (refine AV.refs_ok (lv := 0) ?_; simp [AV.ok, AV.oks, *]; done)⟩, ⟨by first | rfl | exact i64_eq (by omega) | exact str_eq (by simp) | (simp; done), by first | rfl | (refine AV.refs_ok (lv := 0) ?_; simp [AV.ok, AV.oks, *]; done)⟩, ⟨by first | rfl | exact i64_eq (by omega) | exact str_eq (by simp) | (simp; done), by first | rfl | (refine AV.refs_ok (lv := 0) ?_; simp [AV.ok, AV.oks, *]; done)⟩, ⟨by first | rfl | exact i64_eq (by omega) | exact str_eq (by simp) | (simp; done), by first | rfl | (refine AV.refs_ok (lv := 0) ?_; simp [AV.ok, AV.oks, *]; done)⟩, trivial⟩ ⟨⟨by exact congrArg (fun c => some (AObj.row c 1 6)) (by simp [two, bs, Hd.nums, byte_mod]), by exact bs_refs⟩, ⟨by first | rfl | (simp; done), by first | rfl | (simp [ObjIn, AV.refss_append, bs_refs, AV.refss]; done)⟩, trivial⟩
        · exfalso; omega
      · skip
        refine AOps.dec rfl rfl (ok_bin rfl rfl rfl br_lss rfl rfl) (fun h6_0 => ?_) (fun h6_0 => ?_)
        · exfalso; omega
        · skip
          refine AOps.nil ?_
          refine AWp.seq ?_
          refine AWp.cond_f rfl ?_
          refine AWp.exit ?_
          refine AWp.seq ?_
          refine AWp.region ?_
          refine AOps.cons rfl rfl (ok_move rfl (by conv => lhs; whnf) rfl rfl) ?_
          refine AOps.cons rfl rfl (ok_assign rfl (by conv => lhs; whnf) rfl rfl) ?_
          refine AOps.cons rfl rfl (ok_assign rfl (by conv => lhs; whnf) rfl rfl) ?_
          refine AOps.nil ?_
          refine AWp.ret ?_
          show Fin te Try.f17 _ _
          refine Fin.ret2 (xs := [_, _]) (ys := [_, _]) 0 ⟨res_tmp (by conv => lhs; whnf), res_tmp (by conv => lhs; whnf), trivial⟩ ⟨(by first | exact fv_ok rfl | (refine fv_ok ?_; simp [AV.ok, AV.oks]; done) | exact fv_row rfl rfl (by first | rfl | (simp [AV.oks_append, AV.oks_cons, AV.oks_nil, AV.ok_v, AV.ok_fz, AV.ok_fp, bs_oks]; done)) (by first | omega | exact Nat.le_of_ble_eq_true rfl | (simp; omega) | decide | (simp [*]; done)) (by decide) rfl), (by first | exact fv_ok rfl | (refine fv_ok ?_; simp [AV.ok, AV.oks]; done) | exact fv_row rfl rfl (by first | rfl | (simp [AV.oks_append, AV.oks_cons, AV.oks_nil, AV.ok_v, AV.ok_fz, AV.ok_fp, bs_oks]; done)) (by first | omega | exact Nat.le_of_ble_eq_true rfl | (simp; omega) | decide | (simp [*]; done)) (by decide) rfl), trivial⟩ ?_
          rw [hEnc, if_pos h1_2]; rfl
  · skip
    refine AOps.cons rfl rfl (ok_not rfl rfl rfl rfl) ?_
    refine AOps.nil ?_
    refine AWp.cond_t rfl ?_
    refine AWp.seq ?_
    refine AWp.region ?_
    refine AOps.cons rfl rfl (ok_nilfz 0 (.inl rfl) rfl rfl rfl) ?_
    refine AOps.cons rfl rfl (ok_assign rfl (by conv => lhs; whnf) rfl rfl) ?_
    refine AOps.nil ?_
    refine AWp.ret ?_
    show Fin te Try.f17 _ _
    refine Fin.ret2 (xs := [_, _]) (ys := [_, _]) 0 ⟨res_tmp (by conv => lhs; whnf), res_tmp (by conv => lhs; whnf), trivial⟩ ⟨(by first | exact fv_ok rfl | (refine fv_ok ?_; simp [AV.ok, AV.oks]; done) | exact fv_row rfl rfl (by first | rfl | (simp [AV.oks_append, AV.oks_cons, AV.oks_nil, AV.ok_v, AV.ok_fz, AV.ok_fp, bs_oks]; done)) (by first | omega | exact Nat.le_of_ble_eq_true rfl | (simp; omega) | decide | (simp [*]; done)) (by decide) rfl), (by first | exact fv_ok rfl | (refine fv_ok ?_; simp [AV.ok, AV.oks]; done) | exact fv_row rfl rfl (by first | rfl | (simp [AV.oks_append, AV.oks_cons, AV.oks_nil, AV.ok_v, AV.ok_fz, AV.ok_fp, bs_oks]; done)) (by first | omega | exact Nat.le_of_ble_eq_true rfl | (simp; omega) | decide | (simp [*]; done)) (by decide) rfl), trivial⟩ ?_
    rw [hEnc, if_neg h1_2]; rfl

set_option maxRecDepth 20000 in
theorem c_bytes_Equal (l m : List UInt8) (lv lw : Nat) : AC Try.prog 15 [.fz lv l.length (bs l), .fz lw m.length (bs m)] emp (Ret (tf (decide (l = m)))) := by
  refine AC.intro te_ok (fn := Try.f15) ⟨Try.func15, rfl, rfl⟩ (Nat.le_of_ble_eq_true rfl) ?_
  refine AWp.seq ?_
  refine AWp.region ?_
  refine AOps.cons rfl rfl (ok_assign rfl (by conv => lhs; whnf) rfl rfl) ?_
  refine AOps.nil ?_
  refine AWp.seq ?_
  refine AWp.region ?_
  refine AOps.cons rfl rfl (ok_move rfl (by conv => lhs; whnf) rfl rfl) ?_
  refine AOps.cons rfl rfl (by first | exact ok_conv_bytes te_ok rfl rfl (.inr (.inl ⟨_, rfl⟩)) rfl rfl rfl rfl rfl rfl rfl rfl | exact ok_conv_bytes te_ok rfl rfl (.inr (.inr ⟨_, _, _, _, _, rfl, rfl, rfl, (by first | omega | exact Nat.le_of_ble_eq_true rfl | (simp; omega) | decide | (simp [*]; done))⟩)) rfl rfl rfl rfl rfl rfl rfl rfl) ?_
  refine AOps.cons rfl rfl (ok_move rfl (by conv => lhs; whnf) rfl rfl) ?_
  refine AOps.cons rfl rfl (by first | exact ok_conv_bytes te_ok rfl rfl (.inr (.inl ⟨_, rfl⟩)) rfl rfl rfl rfl rfl rfl rfl rfl | exact ok_conv_bytes te_ok rfl rfl (.inr (.inr ⟨_, _, _, _, _, rfl, rfl, rfl, (by first | omega | exact Nat.le_of_ble_eq_true rfl | (simp; omega) | decide | (simp [*]; done))⟩)) rfl rfl rfl rfl rfl rfl rfl rfl) ?_
  refine AOps.cons rfl rfl (ok_bin rfl rfl rfl bd_seql rfl rfl) ?_
  refine AOps.cons rfl rfl (ok_assign rfl (by conv => lhs; whnf) rfl rfl) ?_
  refine AOps.nil ?_
  refine AWp.ret ?_
  show Fin te Try.f15 _ _
  refine Fin.ret2 (xs := [_]) (ys := [_]) 0 ⟨res_tmp (by conv => lhs; whnf), trivial⟩ ⟨(by first | exact fv_ok rfl | (refine fv_ok ?_; simp [AV.ok, AV.oks]; done) | exact fv_row rfl rfl (by first | rfl | (simp [AV.oks_append, AV.oks_cons, AV.oks_nil, AV.ok_v, AV.ok_fz, AV.ok_fp, bs_oks]; done)) (by first | omega | exact Nat.le_of_ble_eq_true rfl | (simp; omega) | decide | (simp [*]; done)) (by decide) rfl), trivial⟩ ?_
  rfl


theorem hEnc_yes {h : Hd} {c0 c1 c2 c3 : Int} (k : h.can c0 c1 c2 c3) : hEnc h c0 c1 c2 c3 = .tup [.fz 0 12 (bs (h.bytes c0 c1 c2 c3)), i64 0] := by rw [hEnc, if_pos k]
theorem hEnc_no {h : Hd} {c0 c1 c2 c3 : Int} (k : ¬ h.can c0 c1 c2 c3) : hEnc h c0 c1 c2 c3 = .tup [.fz 0 0 [], i64 1] := by rw [hEnc, if_neg k]
theorem henc_yes (h : Hd) (c0 c1 c2 c3 : Int) (k : h.can c0 c1 c2 c3) : AC Try.prog 16 [.agg h.cells, .agg [i64 c0, i64 c1, i64 c2, i64 c3]] emp (Ret (.tup [.fz 0 12 (bs (h.bytes c0 c1 c2 c3)), i64 0])) := hEnc_yes k ▸ c_header_Encode h c0 c1 c2 c3
theorem henc_no (h : Hd) (c0 c1 c2 c3 : Int) (k : ¬ h.can c0 c1 c2 c3) : AC Try.prog 16 [.agg h.cells, .agg [i64 c0, i64 c1, i64 c2, i64 c3]] emp (Ret (.tup [.fz 0 0 [], i64 1])) := hEnc_no k ▸ c_header_Encode h c0 c1 c2 c3
theorem hrenc_yes (h : Hd) (c0 c1 c2 c3 : Int) (k : h.can c0 c1 c2 c3) : AC Try.prog 17 [.agg h.cells, .agg [i64 c0, i64 c1, i64 c2, i64 c3]] emp (Ret (.tup [.fz 0 12 (bs (h.bytes c0 c1 c2 c3)), i64 0])) := hEnc_yes k ▸ c_ciceroneref02_Encode h c0 c1 c2 c3
theorem hrenc_no (h : Hd) (c0 c1 c2 c3 : Int) (k : ¬ h.can c0 c1 c2 c3) : AC Try.prog 17 [.agg h.cells, .agg [i64 c0, i64 c1, i64 c2, i64 c3]] emp (Ret (.tup [.fz 0 0 [], i64 1])) := hEnc_no k ▸ c_ciceroneref02_Encode h c0 c1 c2 c3

set_option maxRecDepth 20000 in
theorem c_ciceronelaw02_awake  : AC Try.prog 18 [] emp (Ret (tf true)) := by
  refine AC.intro te_ok (fn := Try.f18) ⟨Try.func18, rfl, rfl⟩ (Nat.le_of_ble_eq_true rfl) ?_
  refine AWp.seq ?_
  refine AWp.region ?_
  refine AOps.cons rfl rfl (ok_assign rfl (by conv => lhs; whnf) rfl rfl) ?_
  refine AOps.nil ?_
  refine AWp.seq ?_
  refine AWp.region ?_
  refine AOps.cons rfl rfl (ok_build_struct2 (vals := [(_, _)]) te_ok rfl ⟨rfl, (by conv => lhs; whnf), trivial⟩ rfl rfl rfl rfl (by first | (simp only [List.take_succ_cons, List.take_zero, List.drop_succ_cons, List.drop_zero, List.drop_nil, List.take_nil, List.nil_append, List.cons_append, List.append_nil, List.map_cons, List.map_nil, ZC.val, repZ]; rfl) | rfl) rfl rfl) ?_
  refine AOps.cons rfl rfl (ok_build_arr2 (vals := [(_, _), (_, _), (_, _), (_, _)]) te_ok rfl ⟨rfl, (by conv => lhs; whnf), rfl, (by conv => lhs; whnf), rfl, (by conv => lhs; whnf), rfl, (by conv => lhs; whnf), trivial⟩ rfl rfl rfl rfl (by first | (simp only [List.take_succ_cons, List.take_zero, List.drop_succ_cons, List.drop_zero, List.drop_nil, List.take_nil, List.nil_append, List.cons_append, List.append_nil, List.map_cons, List.map_nil, ZC.val, repZ]; rfl) | rfl) rfl rfl) ?_
  refine AOps.cons rfl rfl (ok_call 0 rfl rfl (henc_yes ⟨1, false, 0, false, false, false, false, 0⟩ 1 0 0 0 (by decide)) ⟨(by first | exact fv_ok rfl | (refine fv_ok ?_; simp [AV.ok, AV.oks]; done) | exact fv_nil | (refine fv_up ?_ ?_ <;> omega) | exact fv_row rfl rfl (by first | rfl | (simp [AV.oks_append, AV.oks_cons, AV.oks_nil, AV.ok_v, AV.ok_fz, AV.ok_fp, bs_oks]; done)) (by first | omega | exact Nat.le_of_ble_eq_true rfl | (simp; omega) | decide | (simp [*]; done)) (by decide) (by first | rfl | (simp; done) | (simp; rfl) | (simp [bs]; done)) | exact fv_ptr rfl rfl (by first | rfl | (simp [AV.oks_append, AV.oks_cons, AV.oks_nil, AV.ok_v, AV.ok_fz, AV.ok_fp, bs_oks]; done)) (by first | omega | exact Nat.le_of_ble_eq_true rfl | (simp; omega) | decide | (simp [*]; done)) rfl | (refine fv_fn trivial ⟨?_, trivial⟩ <;> (first | exact fv_ok rfl | (refine fv_ok ?_; simp [AV.ok, AV.oks]; done) | exact fv_nil | (refine fv_up ?_ ?_ <;> omega) | exact fv_row rfl rfl (by first | rfl | (simp [AV.oks_append, AV.oks_cons, AV.oks_nil, AV.ok_v, AV.ok_fz, AV.ok_fp, bs_oks]; done)) (by first | omega | exact Nat.le_of_ble_eq_true rfl | (simp; omega) | decide | (simp [*]; done)) (by decide) (by first | rfl | (simp; done) | (simp; rfl) | (simp [bs]; done)) | exact fv_ptr rfl rfl (by first | rfl | (simp [AV.oks_append, AV.oks_cons, AV.oks_nil, AV.ok_v, AV.ok_fz, AV.ok_fp, bs_oks]; done)) (by first | omega | exact Nat.le_of_ble_eq_true rfl | (simp; omega) | decide | (simp [*]; done)) rfl)) | (refine fv_fn trivial ⟨?_, ?_, trivial⟩ <;> (first | exact fv_ok rfl | (refine fv_ok ?_; simp [AV.ok, AV.oks]; done) | exact fv_nil | (refine fv_up ?_ ?_ <;> omega) | exact fv_row rfl rfl (by first | rfl | (simp [AV.oks_append, AV.oks_cons, AV.oks_nil, AV.ok_v, AV.ok_fz, AV.ok_fp, bs_oks]; done)) (by first | omega | exact Nat.le_of_ble_eq_true rfl | (simp; omega) | decide | (simp [*]; done)) (by decide) (by first | rfl | (simp; done) | (simp; rfl) | (simp [bs]; done)) | exact fv_ptr rfl rfl (by first | rfl | (simp [AV.oks_append, AV.oks_cons, AV.oks_nil, AV.ok_v, AV.ok_fz, AV.ok_fp, bs_oks]; done)) (by first | omega | exact Nat.le_of_ble_eq_true rfl | (simp; omega) | decide | (simp [*]; done)) rfl)) | (refine fv_fn trivial ⟨?_, ?_, ?_, trivial⟩ <;> (first | exact fv_ok rfl | (refine fv_ok ?_; simp [AV.ok, AV.oks]; done) | exact fv_nil | (refine fv_up ?_ ?_ <;> omega) | exact fv_row rfl rfl (by first | rfl | (simp [AV.oks_append, AV.oks_cons, AV.oks_nil, AV.ok_v, AV.ok_fz, AV.ok_fp, bs_oks]; done)) (by first | omega | exact Nat.le_of_ble_eq_true rfl | (simp; omega) | decide | (simp [*]; done)) (by decide) (by first | rfl | (simp; done) | (simp; rfl) | (simp [bs]; done)) | exact fv_ptr rfl rfl (by first | rfl | (simp [AV.oks_append, AV.oks_cons, AV.oks_nil, AV.ok_v, AV.ok_fz, AV.ok_fp, bs_oks]; done)) (by first | omega | exact Nat.le_of_ble_eq_true rfl | (simp; omega) | decide | (simp [*]; done)) rfl))), (by first | exact fv_ok rfl | (refine fv_ok ?_; simp [AV.ok, AV.oks]; done) | exact fv_nil | (refine fv_up ?_ ?_ <;> omega) | exact fv_row rfl rfl (by first | rfl | (simp [AV.oks_append, AV.oks_cons, AV.oks_nil, AV.ok_v, AV.ok_fz, AV.ok_fp, bs_oks]; done)) (by first | omega | exact Nat.le_of_ble_eq_true rfl | (simp; omega) | decide | (simp [*]; done)) (by decide) (by first | rfl | (simp; done) | (simp; rfl) | (simp [bs]; done)) | exact fv_ptr rfl rfl (by first | rfl | (simp [AV.oks_append, AV.oks_cons, AV.oks_nil, AV.ok_v, AV.ok_fz, AV.ok_fp, bs_oks]; done)) (by first | omega | exact Nat.le_of_ble_eq_true rfl | (simp; omega) | decide | (simp [*]; done)) rfl | (refine fv_fn trivial ⟨?_, trivial⟩ <;> (first | exact fv_ok rfl | (refine fv_ok ?_; simp [AV.ok, AV.oks]; done) | exact fv_nil | (refine fv_up ?_ ?_ <;> omega) | exact fv_row rfl rfl (by first | rfl | (simp [AV.oks_append, AV.oks_cons, AV.oks_nil, AV.ok_v, AV.ok_fz, AV.ok_fp, bs_oks]; done)) (by first | omega | exact Nat.le_of_ble_eq_true rfl | (simp; omega) | decide | (simp [*]; done)) (by decide) (by first | rfl | (simp; done) | (simp; rfl) | (simp [bs]; done)) | exact fv_ptr rfl rfl (by first | rfl | (simp [AV.oks_append, AV.oks_cons, AV.oks_nil, AV.ok_v, AV.ok_fz, AV.ok_fp, bs_oks]; done)) (by first | omega | exact Nat.le_of_ble_eq_true rfl | (simp; omega) | decide | (simp [*]; done)) rfl)) | (refine fv_fn trivial ⟨?_, ?_, trivial⟩ <;> (first | exact fv_ok rfl | (refine fv_ok ?_; simp [AV.ok, AV.oks]; done) | exact fv_nil | (refine fv_up ?_ ?_ <;> omega) | exact fv_row rfl rfl (by first | rfl | (simp [AV.oks_append, AV.oks_cons, AV.oks_nil, AV.ok_v, AV.ok_fz, AV.ok_fp, bs_oks]; done)) (by first | omega | exact Nat.le_of_ble_eq_true rfl | (simp; omega) | decide | (simp [*]; done)) (by decide) (by first | rfl | (simp; done) | (simp; rfl) | (simp [bs]; done)) | exact fv_ptr rfl rfl (by first | rfl | (simp [AV.oks_append, AV.oks_cons, AV.oks_nil, AV.ok_v, AV.ok_fz, AV.ok_fp, bs_oks]; done)) (by first | omega | exact Nat.le_of_ble_eq_true rfl | (simp; omega) | decide | (simp [*]; done)) rfl)) | (refine fv_fn trivial ⟨?_, ?_, ?_, trivial⟩ <;> (first | exact fv_ok rfl | (refine fv_ok ?_; simp [AV.ok, AV.oks]; done) | exact fv_nil | (refine fv_up ?_ ?_ <;> omega) | exact fv_row rfl rfl (by first | rfl | (simp [AV.oks_append, AV.oks_cons, AV.oks_nil, AV.ok_v, AV.ok_fz, AV.ok_fp, bs_oks]; done)) (by first | omega | exact Nat.le_of_ble_eq_true rfl | (simp; omega) | decide | (simp [*]; done)) (by decide) (by first | rfl | (simp; done) | (simp; rfl) | (simp [bs]; done)) | exact fv_ptr rfl rfl (by first | rfl | (simp [AV.oks_append, AV.oks_cons, AV.oks_nil, AV.ok_v, AV.ok_fz, AV.ok_fp, bs_oks]; done)) (by first | omega | exact Nat.le_of_ble_eq_true rfl | (simp; omega) | decide | (simp [*]; done)) rfl))), trivial⟩ (by first | rfl | (simp [AV.ok, AV.oks]; done)) rfl rfl) ?_
  refine AOps.cons rfl rfl (ok_move rfl (by conv => lhs; whnf) rfl rfl) ?_
  refine AOps.cons rfl rfl (ok_extract rfl rfl rfl rfl rfl) ?_
  refine AOps.cons rfl rfl (ok_extract rfl rfl rfl rfl rfl) ?_
  refine AOps.cons rfl rfl (ok_assign rfl (by conv => lhs; whnf) rfl rfl) ?_
  refine AOps.cons rfl rfl (ok_assign rfl (by conv => lhs; whnf) rfl rfl) ?_
  refine AOps.nil ?_
  refine AWp.seq ?_
  refine AWp.region ?_
  refine AOps.cons rfl rfl (ok_move rfl (by conv => lhs; whnf) rfl rfl) ?_
  refine AOps.dec rfl rfl (ok_bin rfl rfl rfl bd_eql rfl rfl) (fun h2_1 => ?_) (fun h2_1 => ?_)
  · skip
    refine AOps.cons rfl rfl (ok_move rfl (by conv => lhs; whnf) rfl rfl) ?_
    refine AOps.gcons rfl rfl rfl rfl rfl (ok_move rfl (by conv => lhs; whnf) rfl rfl) ?_
    refine AOps.gcons rfl rfl rfl rfl rfl (ok_buildSlice2 (id := 304) (vals := [(_, _), (_, _), (_, _), (_, _), (_, _), (_, _), (_, _), (_, _), (_, _), (_, _), (_, _), (_, _)]) te_ok rfl ⟨rfl, (by conv => lhs; whnf), rfl, (by conv => lhs; whnf), rfl, (by conv => lhs; whnf), rfl, (by conv => lhs; whnf), rfl, (by conv => lhs; whnf), rfl, (by conv => lhs; whnf), rfl, (by conv => lhs; whnf), rfl, (by conv => lhs; whnf), rfl, (by conv => lhs; whnf), rfl, (by conv => lhs; whnf), rfl, (by conv => lhs; whnf), rfl, (by conv => lhs; whnf), trivial⟩ rfl rfl rfl rfl rfl (by first | (simp only [List.take_succ_cons, List.take_zero, List.drop_succ_cons, List.drop_zero, List.drop_nil, List.take_nil, List.nil_append, List.cons_append, List.append_nil, List.map_cons, List.map_nil, ZC.val, repZ]; rfl) | rfl) rfl rfl rfl rfl) ?_
    refine AOps.gcons rfl rfl rfl rfl rfl (ok_call 0 rfl rfl (c_bytes_Equal (Hd.bytes ⟨1, false, 0, false, false, false, false, 0⟩ 1 0 0 0) [0, 1, 0, 0, 0, 1, 0, 0, 0, 0, 0, 0] 0 1) ⟨(by first | exact fv_ok rfl | (refine fv_ok ?_; simp [AV.ok, AV.oks]; done) | exact fv_nil | (refine fv_up ?_ ?_ <;> omega) | exact fv_row rfl rfl (by first | rfl | (simp [AV.oks_append, AV.oks_cons, AV.oks_nil, AV.ok_v, AV.ok_fz, AV.ok_fp, bs_oks]; done)) (by first | omega | exact Nat.le_of_ble_eq_true rfl | (simp; omega) | decide | (simp [*]; done)) (by decide) (by first | rfl | (simp; done) | (simp; rfl) | (simp [bs]; done)) | exact fv_ptr rfl rfl (by first | rfl | (simp [AV.oks_append, AV.oks_cons, AV.oks_nil, AV.ok_v, AV.ok_fz, AV.ok_fp, bs_oks]; done)) (by first | omega | exact Nat.le_of_ble_eq_true rfl | (simp; omega) | decide | (simp [*]; done)) rfl | (refine fv_fn trivial ⟨?_, trivial⟩ <;> (first | exact fv_ok rfl | (refine fv_ok ?_; simp [AV.ok, AV.oks]; done) | exact fv_nil | (refine fv_up ?_ ?_ <;> omega) | exact fv_row rfl rfl (by first | rfl | (simp [AV.oks_append, AV.oks_cons, AV.oks_nil, AV.ok_v, AV.ok_fz, AV.ok_fp, bs_oks]; done)) (by first | omega | exact Nat.le_of_ble_eq_true rfl | (simp; omega) | decide | (simp [*]; done)) (by decide) (by first | rfl | (simp; done) | (simp; rfl) | (simp [bs]; done)) | exact fv_ptr rfl rfl (by first | rfl | (simp [AV.oks_append, AV.oks_cons, AV.oks_nil, AV.ok_v, AV.ok_fz, AV.ok_fp, bs_oks]; done)) (by first | omega | exact Nat.le_of_ble_eq_true rfl | (simp; omega) | decide | (simp [*]; done)) rfl)) | (refine fv_fn trivial ⟨?_, ?_, trivial⟩ <;> (first | exact fv_ok rfl | (refine fv_ok ?_; simp [AV.ok, AV.oks]; done) | exact fv_nil | (refine fv_up ?_ ?_ <;> omega) | exact fv_row rfl rfl (by first | rfl | (simp [AV.oks_append, AV.oks_cons, AV.oks_nil, AV.ok_v, AV.ok_fz, AV.ok_fp, bs_oks]; done)) (by first | omega | exact Nat.le_of_ble_eq_true rfl | (simp; omega) | decide | (simp [*]; done)) (by decide) (by first | rfl | (simp; done) | (simp; rfl) | (simp [bs]; done)) | exact fv_ptr rfl rfl (by first | rfl | (simp [AV.oks_append, AV.oks_cons, AV.oks_nil, AV.ok_v, AV.ok_fz, AV.ok_fp, bs_oks]; done)) (by first | omega | exact Nat.le_of_ble_eq_true rfl | (simp; omega) | decide | (simp [*]; done)) rfl)) | (refine fv_fn trivial ⟨?_, ?_, ?_, trivial⟩ <;> (first | exact fv_ok rfl | (refine fv_ok ?_; simp [AV.ok, AV.oks]; done) | exact fv_nil | (refine fv_up ?_ ?_ <;> omega) | exact fv_row rfl rfl (by first | rfl | (simp [AV.oks_append, AV.oks_cons, AV.oks_nil, AV.ok_v, AV.ok_fz, AV.ok_fp, bs_oks]; done)) (by first | omega | exact Nat.le_of_ble_eq_true rfl | (simp; omega) | decide | (simp [*]; done)) (by decide) (by first | rfl | (simp; done) | (simp; rfl) | (simp [bs]; done)) | exact fv_ptr rfl rfl (by first | rfl | (simp [AV.oks_append, AV.oks_cons, AV.oks_nil, AV.ok_v, AV.ok_fz, AV.ok_fp, bs_oks]; done)) (by first | omega | exact Nat.le_of_ble_eq_true rfl | (simp; omega) | decide | (simp [*]; done)) rfl))), (by first | exact fv_ok rfl | (refine fv_ok ?_; simp [AV.ok, AV.oks]; done) | exact fv_nil | (refine fv_up ?_ ?_ <;> omega) | exact fv_row rfl rfl (by first | rfl | (simp [AV.oks_append, AV.oks_cons, AV.oks_nil, AV.ok_v, AV.ok_fz, AV.ok_fp, bs_oks]; done)) (by first | omega | exact Nat.le_of_ble_eq_true rfl | (simp; omega) | decide | (simp [*]; done)) (by decide) (by first | rfl | (simp; done) | (simp; rfl) | (simp [bs]; done)) | exact fv_ptr rfl rfl (by first | rfl | (simp [AV.oks_append, AV.oks_cons, AV.oks_nil, AV.ok_v, AV.ok_fz, AV.ok_fp, bs_oks]; done)) (by first | omega | exact Nat.le_of_ble_eq_true rfl | (simp; omega) | decide | (simp [*]; done)) rfl | (refine fv_fn trivial ⟨?_, trivial⟩ <;> (first | exact fv_ok rfl | (refine fv_ok ?_; simp [AV.ok, AV.oks]; done) | exact fv_nil | (refine fv_up ?_ ?_ <;> omega) | exact fv_row rfl rfl (by first | rfl | (simp [AV.oks_append, AV.oks_cons, AV.oks_nil, AV.ok_v, AV.ok_fz, AV.ok_fp, bs_oks]; done)) (by first | omega | exact Nat.le_of_ble_eq_true rfl | (simp; omega) | decide | (simp [*]; done)) (by decide) (by first | rfl | (simp; done) | (simp; rfl) | (simp [bs]; done)) | exact fv_ptr rfl rfl (by first | rfl | (simp [AV.oks_append, AV.oks_cons, AV.oks_nil, AV.ok_v, AV.ok_fz, AV.ok_fp, bs_oks]; done)) (by first | omega | exact Nat.le_of_ble_eq_true rfl | (simp; omega) | decide | (simp [*]; done)) rfl)) | (refine fv_fn trivial ⟨?_, ?_, trivial⟩ <;> (first | exact fv_ok rfl | (refine fv_ok ?_; simp [AV.ok, AV.oks]; done) | exact fv_nil | (refine fv_up ?_ ?_ <;> omega) | exact fv_row rfl rfl (by first | rfl | (simp [AV.oks_append, AV.oks_cons, AV.oks_nil, AV.ok_v, AV.ok_fz, AV.ok_fp, bs_oks]; done)) (by first | omega | exact Nat.le_of_ble_eq_true rfl | (simp; omega) | decide | (simp [*]; done)) (by decide) (by first | rfl | (simp; done) | (simp; rfl) | (simp [bs]; done)) | exact fv_ptr rfl rfl (by first | rfl | (simp [AV.oks_append, AV.oks_cons, AV.oks_nil, AV.ok_v, AV.ok_fz, AV.ok_fp, bs_oks]; done)) (by first | omega | exact Nat.le_of_ble_eq_true rfl | (simp; omega) | decide | (simp [*]; done)) rfl)) | (refine fv_fn trivial ⟨?_, ?_, ?_, trivial⟩ <;> (first | exact fv_ok rfl | (refine fv_ok ?_; simp [AV.ok, AV.oks]; done) | exact fv_nil | (refine fv_up ?_ ?_ <;> omega) | exact fv_row rfl rfl (by first | rfl | (simp [AV.oks_append, AV.oks_cons, AV.oks_nil, AV.ok_v, AV.ok_fz, AV.ok_fp, bs_oks]; done)) (by first | omega | exact Nat.le_of_ble_eq_true rfl | (simp; omega) | decide | (simp [*]; done)) (by decide) (by first | rfl | (simp; done) | (simp; rfl) | (simp [bs]; done)) | exact fv_ptr rfl rfl (by first | rfl | (simp [AV.oks_append, AV.oks_cons, AV.oks_nil, AV.ok_v, AV.ok_fz, AV.ok_fp, bs_oks]; done)) (by first | omega | exact Nat.le_of_ble_eq_true rfl | (simp; omega) | decide | (simp [*]; done)) rfl))), trivial⟩ (by first | rfl | (simp [AV.ok, AV.oks]; done)) rfl rfl) ?_
    refine AOps.cons rfl rfl (ok_pick rfl rfl (by conv => lhs; whnf) rfl rfl) ?_
    refine AOps.cons rfl rfl (ok_assign rfl (by conv => lhs; whnf) rfl rfl) ?_
    refine AOps.nil ?_
    refine AWp.ret ?_
    show Fin te Try.f18 _ _
    refine Fin.ret2 (xs := [_]) (ys := [_]) 0 ⟨res_tmp (by conv => lhs; whnf), trivial⟩ ⟨(by first | exact fv_ok rfl | (refine fv_ok ?_; simp [AV.ok, AV.oks]; done) | exact fv_row rfl rfl (by first | rfl | (simp [AV.oks_append, AV.oks_cons, AV.oks_nil, AV.ok_v, AV.ok_fz, AV.ok_fp, bs_oks]; done)) (by first | omega | exact Nat.le_of_ble_eq_true rfl | (simp; omega) | decide | (simp [*]; done)) (by decide) rfl), trivial⟩ ?_
    rfl
  · exfalso; omega

end Go.Proofs.Ytahkngplohnliaa.Fw
