/- Walks of layer 11: what each comes to; its conditions stand ahead of it. -/
import Derived.Test.YtahkngplohnliaaQ6
set_option linter.unusedVariables false
set_option linter.unusedSimpArgs false
namespace Go.Proofs.Ytahkngplohnliaa.Fw
open Go.RowKit


/-- A frame: two bytes of length, and the bytes. -/
def frame (l : List UInt8) : List UInt8 := [byte ((l.length : Int) / 256), byte (l.length : Int)] ++ l
def encB (l : List UInt8) : List UInt8 := if 65535 < l.length then [] else frame l
def encE (l : List UInt8) : Int := if 65535 < l.length then 1 else 0
/-- How many bytes the first frame has, and whether they are there. -/
def szN (q : List UInt8) : Int := if q.length < 2 then 0 else 2 + ((q.getD 0 0).toNat * 256 + (q.getD 1 0).toNat : Nat)
def szB (q : List UInt8) : Bool := decide (2 ≤ q.length ∧ szN q ≤ q.length)
theorem szN_lt (q : List UInt8) : 0 ≤ szN q ∧ szN q ≤ 65537 := by
  unfold szN
  have h0 := (q.getD 0 0).toNat_lt
  have h1 := (q.getD 1 0).toNat_lt
  split <;> omega
/-- The frames that are whole, and the rest. -/
def feed (b : List UInt8) : List (List UInt8) × List UInt8 :=
  if h : szB b = true then
    let r := feed (b.drop (szN b).toNat)
    (((b.take (szN b).toNat).drop 2) :: r.1, r.2)
  else ([], b)
termination_by b.length
decreasing_by
  have h1 : 2 ≤ b.length ∧ szN b ≤ b.length := by simpa [szB] using h
  have h2 : 2 ≤ szN b := by unfold szN; rw [if_neg (by omega)]; omega
  simp only [List.length_drop]
  omega
theorem feed_yes {b : List UInt8} (h : szB b = true) : feed b = (((b.take (szN b).toNat).drop 2) :: (feed (b.drop (szN b).toNat)).1, (feed (b.drop (szN b).toNat)).2) := by
  rw [feed, dif_pos h]
theorem feed_no {b : List UInt8} (h : szB b = false) : feed b = ([], b) := by
  rw [feed, dif_neg (by simp [h])]
theorem szB_iff {q : List UInt8} : szB q = true ↔ 2 ≤ q.length ∧ szN q ≤ q.length := by simp [szB]
theorem szN_ge {q : List UInt8} (h : szB q = true) : 2 ≤ szN q ∧ szN q ≤ q.length := by
  have h1 := szB_iff.1 h
  refine ⟨?_, h1.2⟩
  unfold szN
  rw [if_neg (by omega)]
  omega
theorem or8 (a b : UInt8) : ((((a.toNat : Int) * 2 ^ 8).toNat ||| ((b.toNat : Int)).toNat : Nat) : Int) = ((a.toNat * 256 + b.toNat : Nat) : Int) := by
  have hb := b.toNat_lt
  have e : ((a.toNat : Int) * 2 ^ 8).toNat = 2 ^ 8 * a.toNat := by omega
  rw [e, Int.toNat_natCast, ← Nat.two_pow_add_eq_or_of_lt (by omega : b.toNat < 2 ^ 8) a.toNat]
  omega
theorem q_or_bytes {n : Nat} {s : AS} {o : Oper} {d : Option Tmp} {t u : TypeId} {x y : Operand} {p q : UInt8} (ho : o.op = .binOp .or t x y u := by exact rfl) (hx : s.ev x = i64 ((p.toNat : Int) * 2 ^ 8) := by exact rfl) (hy : s.ev y = i64 q.toNat := by exact rfl)
    (hdd : o.dst = d := by conv => lhs; whnf) (hd : d.all (Nat.blt · n) = true := by exact rfl) : OpOk Try.prog n o s (s.put d (i64 ((p.toNat * 256 + q.toNat : Nat) : Int))) := by
  have hp := p.toNat_lt
  have hq := q.toNat_lt
  rw [← or8]
  exact q_or ho hx hy (by omega) (by omega) hdd hd
theorem getD_drop0 (w : List UInt8) (a k : Nat) : w.getD (a + k) 0 = (w.drop a).getD k 0 := by simp [List.getD_eq_getElem?_getD]
theorem szN_at {w : List UInt8} {off m : Nat} (hm : off + m = w.length) (h : ¬ (m : Int) < 2) : szN (w.drop off) = 2 + (((w.getD (off + Int.toNat 0 * 1) default).toNat * 256 + (w.getD (off + Int.toNat 1 * 1) default).toNat : Nat) : Int) := by
  have e0 := getD_drop0 w off 0
  have e1 := getD_drop0 w off 1
  rw [szN, if_neg (by simp; omega), ← e0, ← e1]
  rfl
theorem szB_at {w : List UInt8} {off m : Nat} (hm : off + m = w.length) (h : ¬ (m : Int) < 2) : szB (w.drop off) = decide (szN (w.drop off) ≤ (m : Int)) := by
  rw [szB, List.length_drop, show w.length - off = m by omega]
  have : 2 ≤ m := by omega
  simp [this]
theorem box_sl {id v a b e a' b' : Nat} {r : List AV} (h : a = a') (h2 : b = b') : some (AObj.box (.sl id v a b e :: r)) = some (AObj.box (.sl id v a' b' e :: r)) := by rw [h, h2]
/-- Element by element. -/
def eqF {α : Type} (g : α → α → Bool) : List α → List α → Bool
  | [], [] => true
  | a :: l, b :: m => g a b && eqF g l m
  | _, _ => false
theorem eqF_len {α : Type} {g : α → α → Bool} : ∀ {l m : List α}, l.length ≠ m.length → eqF g l m = false
  | [], [], h => absurd rfl h
  | [], _ :: _, _ => rfl
  | _ :: _, [], _ => rfl
  | a :: l, b :: m, h => by simp [eqF, eqF_len (l := l) (m := m) (by simpa using h)]
theorem eqF_at {α : Type} [Inhabited α] {g : α → α → Bool} : ∀ {l m : List α} {i : Nat}, l.length = m.length → i < l.length → g (l.getD i default) (m.getD i default) = false → eqF g l m = false
  | a :: l, b :: m, 0, _, _, h => by simp_all [eqF]
  | a :: l, b :: m, i + 1, h1, h2, h => by
    simp [eqF, eqF_at (l := l) (m := m) (i := i) (by simpa using h1) (by simpa using h2) (by simpa using h)]
theorem eqF_all {α : Type} [Inhabited α] {g : α → α → Bool} : ∀ {l m : List α}, l.length = m.length → (∀ i, i < l.length → g (l.getD i default) (m.getD i default) = true) → eqF g l m = true
  | [], [], _, _ => rfl
  | a :: l, b :: m, h, k => by
    have h0 := k 0 (by simp)
    simp only [eqF, Bool.and_eq_true]
    exact ⟨by simpa using h0, eqF_all (by simpa using h) fun i hi => by simpa using k (i + 1) (by simpa using hi)⟩
theorem eqF_dec {α : Type} [DecidableEq α] : ∀ {l m : List α}, eqF (fun a b => decide (a = b)) l m = decide (l = m)
  | [], [] => rfl
  | [], _ :: _ => rfl
  | _ :: _, [] => rfl
  | a :: l, b :: m => by simp [eqF, eqF_dec (l := l) (m := m)]

set_option maxRecDepth 20000 in
theorem c_prefix_Encode (l : List UInt8) (lv : Nat) (h : l.length ≤ 140737488351232) : AC Try.prog 13 [.fz lv l.length (cl bc l)] emp (Ret (.tup [.fz 0 (encB l).length (cl bc (encB l)), i64 (encE l)])) := by
  refine AC.intro te_ok (fn := Try.f13) ⟨Try.func13, rfl, rfl⟩ (Nat.le_of_ble_eq_true rfl) ?_
  refine AWp.seq ?_
  refine AWp.region ?_
  refine AOps.cons rfl rfl (q_nilz 0 bc) ?_
  refine AOps.cons rfl rfl (q_assign) ?_
  refine AOps.nil ?_
  refine AWp.seq ?_
  refine AWp.seq ?_
  refine AWp.region ?_
  refine AOps.cons rfl rfl (q_move) ?_
  refine AOps.cons rfl rfl (q_len) ?_
  refine AOps.dec rfl rfl (q_gtr) (fun h1_2 => ?_) (fun h1_2 => ?_)
  · skip
    refine AOps.nil ?_
    refine AWp.cond_t rfl ?_
    refine AWp.seq ?_
    refine AWp.region ?_
    refine AOps.cons rfl rfl (q_nilz 0 bc) ?_
    refine AOps.cons rfl rfl (q_assign) ?_
    refine AOps.nil ?_
    refine AWp.ret ?_
    show Fin te Try.f13 _ _
    refine q_ret (0) [_, _] [_, _] ?_
    simp only [encB, encE]; rw [if_pos (by omega), if_pos (by omega)]; rfl
  · skip
    refine AOps.nil ?_
    refine AWp.cond_f rfl ?_
    refine AWp.skip ?_
    refine AWp.seq ?_
    refine AWp.region ?_
    refine AOps.cons rfl rfl (q_move) ?_
    refine AOps.cons rfl rfl (q_len) ?_
    refine AOps.cons rfl rfl (q_shr 8) ?_
    refine AOps.cons rfl rfl (q_conv_u8) ?_
    refine AOps.cons rfl rfl (q_move) ?_
    refine AOps.cons rfl rfl (q_len) ?_
    refine AOps.cons rfl rfl (q_conv_u8) ?_
    refine AOps.cons rfl rfl (q_bs 407 bc [_, _] [(_, _), (_, _)]) ?_
    refine AOps.cons rfl rfl (q_move) ?_
    refine AOps.cons rfl rfl (q_app) ?_
    refine AOps.cons rfl rfl (q_assign) ?_
    refine AOps.cons rfl rfl (q_assign) ?_
    refine AOps.nil ?_
    refine AWp.ret ?_
    show Fin te Try.f13 _ _
    refine q_ret (0) [_, _] [_, _] ?_
    simp only [encB, encE]; rw [if_neg (by omega), if_neg (by omega)]; rfl

set_option maxRecDepth 20000 in
theorem c_ciceroneref11_Encode (l : List UInt8) (lv : Nat) (h : l.length ≤ 140737488351232) : AC Try.prog 14 [.fz lv l.length (cl bc l)] emp (Ret (.tup [.fz 0 (encB l).length (cl bc (encB l)), i64 (encE l)])) := by
  refine AC.intro te_ok (fn := Try.f14) ⟨Try.func14, rfl, rfl⟩ (Nat.le_of_ble_eq_true rfl) ?_
  refine AWp.seq ?_
  refine AWp.region ?_
  refine AOps.cons rfl rfl (q_nilz 0 bc) ?_
  refine AOps.cons rfl rfl (q_assign) ?_
  refine AOps.nil ?_
  refine AWp.seq ?_
  refine AWp.seq ?_
  refine AWp.region ?_
  refine AOps.cons rfl rfl (q_move) ?_
  refine AOps.cons rfl rfl (q_len) ?_
  refine AOps.dec rfl rfl (q_gtr) (fun h1_2 => ?_) (fun h1_2 => ?_)
  · skip
    refine AOps.nil ?_
    refine AWp.cond_t rfl ?_
    refine AWp.seq ?_
    refine AWp.region ?_
    refine AOps.cons rfl rfl (q_nilz 0 bc) ?_
    refine AOps.cons rfl rfl (q_assign) ?_
    refine AOps.nil ?_
    refine AWp.ret ?_
    show Fin te Try.f14 _ _
    refine q_ret (0) [_, _] [_, _] ?_
    simp only [encB, encE]; rw [if_pos (by omega), if_pos (by omega)]; rfl
  · skip
    refine AOps.nil ?_
    refine AWp.cond_f rfl ?_
    refine AWp.skip ?_
    refine AWp.seq ?_
    refine AWp.region ?_
    refine AOps.cons rfl rfl (q_move) ?_
    refine AOps.cons rfl rfl (q_len) ?_
    refine AOps.cons rfl rfl (q_quo) ?_
    refine AOps.cons rfl rfl (q_conv_u8) ?_
    refine AOps.cons rfl rfl (q_move) ?_
    refine AOps.cons rfl rfl (q_len) ?_
    refine AOps.cons rfl rfl (q_rem) ?_
    refine AOps.cons rfl rfl (q_conv_u8) ?_
    refine AOps.cons rfl rfl (q_bs 408 bc [_, _] [(_, _), (_, _)]) ?_
    refine AOps.cons rfl rfl (q_move) ?_
    refine AOps.cons rfl rfl (q_app) ?_
    refine AOps.cons rfl rfl (q_assign) ?_
    refine AOps.cons rfl rfl (q_assign) ?_
    refine AOps.nil ?_
    refine AWp.ret ?_
    show Fin te Try.f14 _ _
    refine q_ret (0) [_, _] [_, _] ?_
    simp only [encB, encE, byte_mod]; rw [if_neg (by omega), if_neg (by omega)]; rfl

set_option maxRecDepth 20000 in
theorem c_bytes_Equal (l m : List UInt8) (lv lw : Nat) : AC Try.prog 15 [.fz lv l.length (cl bc l), .fz lw m.length (cl bc m)] emp (Ret (tf (decide (l = m)))) := by
  refine AC.intro te_ok (fn := Try.f15) ⟨Try.func15, rfl, rfl⟩ (Nat.le_of_ble_eq_true rfl) ?_
  refine AWp.seq ?_
  refine AWp.region ?_
  refine AOps.cons rfl rfl (q_assign) ?_
  refine AOps.nil ?_
  refine AWp.seq ?_
  refine AWp.region ?_
  refine AOps.cons rfl rfl (q_move) ?_
  refine AOps.cons rfl rfl (by first | exact q_conv_zs | exact q_conv_ls) ?_
  refine AOps.cons rfl rfl (q_move) ?_
  refine AOps.cons rfl rfl (by first | exact q_conv_zs | exact q_conv_ls) ?_
  refine AOps.cons rfl rfl (q_seql) ?_
  refine AOps.cons rfl rfl (q_assign) ?_
  refine AOps.nil ?_
  refine AWp.ret ?_
  show Fin te Try.f15 _ _
  refine q_ret (0) [_] [_] ?_
  first | rfl | (simp; done)

set_option maxRecDepth 20000 in
theorem c_bytes_Clone (l : List UInt8) (lv : Nat) (h : l.length ≤ 140737488351232) : AC Try.prog 22 [.fz lv l.length (cl bc l)] emp (Ret (.fz 0 l.length (cl bc l))) := by
  refine AC.intro te_ok (fn := Try.f22) ⟨Try.func22, rfl, rfl⟩ (Nat.le_of_ble_eq_true rfl) ?_
  refine AWp.seq ?_
  refine AWp.region ?_
  refine AOps.cons rfl rfl (q_nilz 0 bc) ?_
  refine AOps.nil ?_
  refine AWp.seq ?_
  refine AWp.seq ?_
  refine AWp.region ?_
  refine AOps.cons rfl rfl (q_move) ?_
  refine AOps.snil (fun h1_1 => ?_) ?_
  · skip
    refine AOps.nil ?_
    refine AWp.cond_t rfl ?_
    refine AWp.seq ?_
    refine AWp.region ?_
    refine AOps.cons rfl rfl (q_nilz 0 bc) ?_
    refine AOps.nil ?_
    refine AWp.ret ?_
    show Fin te Try.f22 _ _
    refine q_ret (0) [_] [_] ?_
    obtain rfl := List.eq_nil_of_length_eq_zero h1_1
    rfl
  · skip
    refine AOps.nil ?_
    refine AWp.cond_f rfl ?_
    refine AWp.skip ?_
    refine AWp.seq ?_
    refine AWp.region ?_
    refine AOps.cons rfl rfl (q_bs 400 bc [] []) ?_
    refine AOps.cons rfl rfl (q_move) ?_
    refine AOps.cons rfl rfl (q_app) ?_
    refine AOps.cons rfl rfl (q_assign) ?_
    refine AOps.nil ?_
    refine AWp.ret ?_
    show Fin te Try.f22 _ _
    refine q_ret (0) [_] [_] ?_
    rfl

set_option maxRecDepth 20000 in
theorem co_Clone (l : List UInt8) (lv : Nat) (h : l.length ≤ 140737488351232) : AC Try.prog 22 [.fz lv l.length (cl bc l)] (hlook []) (RetH (.sl 8 0 0 l.length 1) [(8, .row (cl bc l) 1 0)]) := by
  refine AC.intro te_ok (fn := Try.f22) ⟨Try.func22, rfl, rfl⟩ (Nat.le_of_ble_eq_true rfl) ?_
  refine AWp.seq ?_
  refine AWp.region ?_
  refine AOps.cons rfl rfl (q_nilz 0 bc) ?_
  refine AOps.nil ?_
  refine AWp.seq ?_
  refine AWp.seq ?_
  refine AWp.region ?_
  refine AOps.cons rfl rfl (q_move) ?_
  refine AOps.snil (fun h1_1 => ?_) ?_
  · skip
    refine AOps.nil ?_
    refine AWp.cond_t rfl ?_
    refine AWp.seq ?_
    refine AWp.region ?_
    refine AOps.cons rfl rfl (q_nilrow 8 1 bc) ?_
    refine AOps.nil ?_
    refine AWp.ret ?_
    show Fin te Try.f22 _ _
    obtain rfl := List.eq_nil_of_length_eq_zero h1_1
    refine q_retH (0) [8] [_] [.sl 8 0 0 _ 1] [(8, .row (cl bc _) 1 0)] ?_
    rfl
  · skip
    refine AOps.nil ?_
    refine AWp.cond_f rfl ?_
    refine AWp.skip ?_
    refine AWp.seq ?_
    refine AWp.region ?_
    refine AOps.cons rfl rfl (q_bs 8 bc [] []) ?_
    refine AOps.cons rfl rfl (q_move) ?_
    refine AOps.cons rfl rfl (q_app) ?_
    refine AOps.cons rfl rfl (q_assign) ?_
    refine AOps.nil ?_
    refine AWp.ret ?_
    show Fin te Try.f22 _ _
    refine q_retH (0) [8] [_] [.sl 8 0 0 _ 1] [(8, .row (cl bc _) 1 0)] ?_
    rfl

set_option maxRecDepth 20000 in
theorem c_EqualFunc_bytes (l m : List (List UInt8)) (lv lv' lw lw' : Nat) (g : List UInt8 → List UInt8 → Bool) {fid : Nat} (hl : l.length ≤ 140737488351232) (hg : ∀ x ∈ l, ∀ y ∈ m, AC Try.prog fid [.fz lv' x.length (cl bc x), .fz lw' y.length (cl bc y)] emp (Ret (tf (g x y)))) : AC Try.prog 32 [.fz lv l.length (cl (lc lv' bc) l), .fz lw m.length (cl (lc lw' bc) m), .fn (.func fid) [] []] emp (Ret (tf (eqF g l m))) := by
  refine AC.intro te_ok (fn := Try.f32) ⟨Try.func32, rfl, rfl⟩ (Nat.le_of_ble_eq_true rfl) ?_
  refine AWp.seq ?_
  refine AWp.region ?_
  refine AOps.cons rfl rfl (q_assign) ?_
  refine AOps.nil ?_
  refine AWp.seq ?_
  refine AWp.seq ?_
  refine AWp.region ?_
  refine AOps.cons rfl rfl (q_move) ?_
  refine AOps.cons rfl rfl (q_len) ?_
  refine AOps.cons rfl rfl (q_move) ?_
  refine AOps.cons rfl rfl (q_len) ?_
  refine AOps.dec rfl rfl (q_neq) (fun h1_4 => ?_) (fun h1_4 => ?_)
  · skip
    refine AOps.nil ?_
    refine AWp.cond_t rfl ?_
    refine AWp.seq ?_
    refine AWp.region ?_
    refine AOps.cons rfl rfl (q_assign) ?_
    refine AOps.nil ?_
    refine AWp.ret ?_
    show Fin te Try.f32 _ _
    refine q_ret (0) [_] [_] ?_
    exact congrArg tf (eqF_len (by omega)).symm
  · skip
    refine AOps.nil ?_
    refine AWp.cond_f rfl ?_
    refine AWp.skip ?_
    refine AWp.seq ?_
    refine AWp.seq ?_
    refine AWp.region ?_
    refine AOps.cons rfl rfl (q_move) ?_
    refine AOps.cons rfl rfl (q_len) ?_
    refine AOps.cons rfl rfl (q_move) ?_
    refine AOps.nil ?_
    refine AWp.block ?_
    refine AWp.loopR (α := Nat) [6, 7, 8, 9, 17, 18, 19, 20, 21, 22, 23, 24, 25, 26, 27, 28, 29, 30, 31] (fun i => [(17, i64 i)]) (fun i => []) (fun i => i ≤ l.length ∧ ∀ k, k < i → g (l.getD k default) (m.getD k default) = true) (fun i => l.length - i) 0 ?_ (Back.mk' (HasT.cons HasT.nil) HasH.nil) ?_
    · exact ⟨Nat.zero_le _, fun k h => by omega⟩
    · rintro i ⟨hi, hI⟩
      have hlen : l.length = m.length := by omega
      refine AWp.seq ?_
      refine AWp.region ?_
      refine AOps.dec rfl rfl (q_lss) (fun h4_0 => ?_) (fun h4_0 => ?_)
      · skip
        refine AOps.nil ?_
        refine AWp.seq ?_
        refine AWp.cond_t rfl ?_
        refine AWp.skip ?_
        refine AWp.seq ?_
        refine AWp.block ?_
        refine AWp.seq ?_
        refine AWp.region ?_
        refine AOps.cons rfl rfl (q_move) ?_
        refine AOps.cons rfl rfl (q_ix) ?_
        refine AOps.cons rfl rfl (q_load) ?_
        refine AOps.cons rfl rfl (q_assign) ?_
        refine AOps.cons rfl rfl (q_assign) ?_
        refine AOps.nil ?_
        refine AWp.seq ?_
        refine AWp.region ?_
        refine AOps.cons rfl rfl (q_move) ?_
        refine AOps.cons rfl rfl (q_move) ?_
        refine AOps.cons rfl rfl (q_ix) ?_
        refine AOps.cons rfl rfl (q_load) ?_
        refine AOps.cons rfl rfl (q_assign) ?_
        refine AOps.nil ?_
        refine AWp.seq ?_
        refine AWp.region ?_
        refine AOps.cons rfl rfl (q_move) ?_
        refine AOps.cons rfl rfl (q_move) ?_
        refine AOps.cons rfl rfl (q_move) ?_
        refine AOps.bool rfl rfl (q_call (lv + lv' + lw + lw') (hc := (hg _ (getD_mem (i := i) (by omega)) _ (getD_mem (i := i) (by omega))))) (fun h7_3 => ?_) (fun h7_3 => ?_)
        · skip
          refine AOps.cons rfl rfl (q_not) ?_
          refine AOps.nil ?_
          refine AWp.cond_f rfl ?_
          refine AWp.skip ?_
          refine AWp.region ?_
          refine AOps.cons rfl rfl (q_add) ?_
          refine AOps.cons rfl rfl (q_move) ?_
          refine AOps.nil ?_
          refine ⟨i + 1, ?_, Back.mk' (HasT.cons HasT.nil) HasH.nil, ?_⟩
          · refine ⟨by omega, fun k hk => ?_⟩
            rcases Nat.lt_or_ge k i with h | h
            · exact hI k h
            · obtain rfl : k = i := by omega
              exact h7_3
          · first | omega | (simp; omega)
        · skip
          refine AOps.cons rfl rfl (q_not) ?_
          refine AOps.nil ?_
          refine AWp.cond_t rfl ?_
          refine AWp.seq ?_
          refine AWp.region ?_
          refine AOps.cons rfl rfl (q_assign) ?_
          refine AOps.nil ?_
          refine AWp.ret ?_
          show Fin te Try.f32 _ _
          refine q_ret (0) [_] [_] ?_
          exact congrArg tf (eqF_at (i := i) hlen (by omega) h7_3).symm
      · skip
        refine AOps.nil ?_
        refine AWp.seq ?_
        refine AWp.cond_f rfl ?_
        refine AWp.exit ?_
        refine AWp.seq ?_
        refine AWp.region ?_
        refine AOps.cons rfl rfl (q_assign) ?_
        refine AOps.nil ?_
        refine AWp.ret ?_
        show Fin te Try.f32 _ _
        refine q_ret (0) [_] [_] ?_
        exact congrArg tf (eqF_all hlen fun k hk => hI k (by omega)).symm

set_option maxRecDepth 20000 in
theorem c_ciceroneplain_SameTexts (l m : List (List UInt8)) (lv lv' lw lw' : Nat) (hl : l.length ≤ 140737488351232) : AC Try.prog 23 [.fz lv l.length (cl (lc lv' bc) l), .fz lw m.length (cl (lc lw' bc) m)] emp (Ret (tf (decide (l = m)))) := by
  refine AC.intro te_ok (fn := Try.f23) ⟨Try.func23, rfl, rfl⟩ (Nat.le_of_ble_eq_true rfl) ?_
  refine AWp.seq ?_
  refine AWp.region ?_
  refine AOps.cons rfl rfl (q_assign) ?_
  refine AOps.nil ?_
  refine AWp.seq ?_
  refine AWp.region ?_
  refine AOps.cons rfl rfl (q_move) ?_
  refine AOps.cons rfl rfl (q_move) ?_
  refine AOps.cons rfl rfl (q_call (lv + lv' + lw + lw') (hc := (c_EqualFunc_bytes l m lv lv' lw lw' (fun a b => decide (a = b)) hl (fun x _ y _ => c_bytes_Equal x y lv' lw')))) ?_
  refine AOps.cons rfl rfl (q_assign) ?_
  refine AOps.nil ?_
  refine AWp.ret ?_
  show Fin te Try.f23 _ _
  refine q_ret (0) [_] [_] ?_
  exact congrArg tf eqF_dec

set_option maxRecDepth 20000 in
theorem c_size (w : List UInt8) (v off m : Nat) (b : Bool) (hm : off + m = w.length) (hw : w.length ≤ 140737488355328) : AC Try.prog 31 [.ptr 0 0 0] (hlook [(0, .box [.sl 1 v off m 1, tf b]), (1, .row (cl bc w) 1 v)]) (RetH (.tup [i64 (szN (w.drop off)), tf (szB (w.drop off))]) [(0, .box [.sl 1 v off m 1, tf b]), (1, .row (cl bc w) 1 v)]) := by
  refine AC.intro te_ok (fn := Try.f31) ⟨Try.func31, rfl, rfl⟩ (Nat.le_of_ble_eq_true rfl) ?_
  refine AWp.seq ?_
  refine AWp.region ?_
  refine AOps.cons rfl rfl (q_assign) ?_
  refine AOps.cons rfl rfl (q_assign) ?_
  refine AOps.nil ?_
  refine AWp.seq ?_
  refine AWp.seq ?_
  refine AWp.region ?_
  refine AOps.cons rfl rfl (q_move) ?_
  refine AOps.cons rfl rfl (q_nil) ?_
  refine AOps.cons rfl rfl (q_fa) ?_
  refine AOps.cons rfl rfl (q_load) ?_
  refine AOps.cons rfl rfl (q_len) ?_
  refine AOps.dec rfl rfl (q_lss) (fun h1_5 => ?_) (fun h1_5 => ?_)
  · skip
    refine AOps.nil ?_
    refine AWp.cond_t rfl ?_
    refine AWp.seq ?_
    refine AWp.region ?_
    refine AOps.cons rfl rfl (q_assign) ?_
    refine AOps.cons rfl rfl (q_assign) ?_
    refine AOps.nil ?_
    refine AWp.ret ?_
    show Fin te Try.f31 _ _
    refine q_retH (0) [] [_, _] [_, _] [(0, .box [.sl 1 v off m 1, tf b]), (1, .row (cl bc w) 1 v)] ?_
    rw [szB, szN, if_pos (by simp; omega), decide_eq_false (by simp; omega)]; rfl
  · skip
    refine AOps.nil ?_
    refine AWp.cond_f rfl ?_
    refine AWp.skip ?_
    refine AWp.seq ?_
    have hb0 := (w.getD (off + Int.toNat 0 * 1) default).toNat_lt
    have hb1 := (w.getD (off + Int.toNat 1 * 1) default).toNat_lt
    have hb2 := (w[off]?.getD default).toNat_lt
    have hb3 := (w[off + 1]?.getD default).toNat_lt
    refine AWp.draws [⟨0, [0], [0], some 11, _, none⟩,
        ⟨1, [11], [0], some 12, _, none⟩,
        ⟨2, [12], [0], some 13, _, none⟩,
        ⟨3, [13], [0], some 14, _, none⟩,
        ⟨4, [14], [1], some 15, _, none⟩,
        ⟨5, [15], [1], some 16, _, none⟩,
        ⟨6, [16], [], some 17, _, none⟩,
        ⟨7, [17], [], some 18, _, none⟩,
        ⟨8, [0], [0], some 19, _, none⟩,
        ⟨9, [19], [0], some 20, _, none⟩,
        ⟨10, [20], [0], some 21, _, none⟩,
        ⟨11, [21], [0], some 22, _, none⟩,
        ⟨12, [22], [1], some 23, _, none⟩,
        ⟨13, [23], [1], some 24, _, none⟩,
        ⟨14, [24], [], some 25, _, none⟩,
        ⟨15, [18, 25], [], some 26, _, none⟩,
        ⟨16, [26], [], some 27, _, none⟩,
        ⟨17, [27], [], some 4, _, none⟩]
      [⟨0, [0], [0], some 11, .any, none⟩,
          ⟨1, [11], [0], some 12, .any, none⟩,
          ⟨2, [12], [0], some 13, .any, none⟩,
          ⟨3, [13], [0], some 14, .any, none⟩,
          ⟨4, [14], [1], some 15, .any, none⟩,
          ⟨5, [15], [1], some 16, .any, none⟩,
          ⟨6, [16], [], some 17, .any, none⟩,
          ⟨7, [17], [], some 18, .any, none⟩,
          ⟨8, [0], [0], some 19, .any, none⟩,
          ⟨9, [19], [0], some 20, .any, none⟩,
          ⟨10, [20], [0], some 21, .any, none⟩,
          ⟨11, [21], [0], some 22, .any, none⟩,
          ⟨12, [22], [1], some 23, .any, none⟩,
          ⟨13, [23], [1], some 24, .any, none⟩,
          ⟨14, [24], [], some 25, .any, none⟩,
          ⟨15, [18, 25], [], some 26, .any, none⟩,
          ⟨16, [26], [], some 27, .any, none⟩,
          ⟨17, [27], [], some 4, .any, none⟩]
      mixed_ok rfl (by kernel_rfl) ⟨DS.ok_over fun s0 => OpAt.go rfl rfl (q_move),
          DS.ok_over fun s0 => OpAt.go rfl rfl (q_nil),
          DS.ok_over fun s0 => OpAt.go rfl rfl (q_fa),
          DS.ok_over fun s0 => OpAt.go rfl rfl (q_load),
          DS.ok_over fun s0 => OpAt.go rfl rfl (q_ix),
          DS.ok_over fun s0 => OpAt.go rfl rfl (q_load),
          DS.ok_over fun s0 => OpAt.go rfl rfl (q_conv_8i),
          DS.ok_over fun s0 => OpAt.go rfl rfl (q_shl 8),
          DS.ok_over fun s0 => OpAt.go rfl rfl (q_move),
          DS.ok_over fun s0 => OpAt.go rfl rfl (q_nil),
          DS.ok_over fun s0 => OpAt.go rfl rfl (q_fa),
          DS.ok_over fun s0 => OpAt.go rfl rfl (q_load),
          DS.ok_over fun s0 => OpAt.go rfl rfl (q_ix),
          DS.ok_over fun s0 => OpAt.go rfl rfl (q_load),
          DS.ok_over fun s0 => OpAt.go rfl rfl (q_conv_8i),
          DS.ok_over fun s0 => OpAt.go rfl rfl (q_or_bytes),
          DS.ok_over fun s0 => OpAt.go rfl rfl (q_add),
          DS.ok_over fun s0 => OpAt.go rfl rfl (q_assign), trivial⟩ ?_
    dsimp only [final, DS.upd, AS.seto]
    refine AWp.seq ?_
    refine AWp.draws [⟨0, [4], [], some 28, _, none⟩,
        ⟨1, [4], [], some 29, _, none⟩,
        ⟨2, [0], [0], some 30, _, none⟩,
        ⟨3, [30], [0], some 31, _, none⟩,
        ⟨4, [31], [0], some 32, _, none⟩,
        ⟨5, [32], [0], some 33, _, none⟩,
        ⟨6, [33], [1], some 34, _, none⟩,
        ⟨7, [29, 34], [], some 35, _, none⟩,
        ⟨8, [28], [], some 2, _, none⟩,
        ⟨9, [35], [], some 3, _, none⟩]
      [⟨0, [4], [], some 28, .any, none⟩,
          ⟨1, [4], [], some 29, .any, none⟩,
          ⟨2, [0], [0], some 30, .any, none⟩,
          ⟨3, [30], [0], some 31, .any, none⟩,
          ⟨4, [31], [0], some 32, .any, none⟩,
          ⟨5, [32], [0], some 33, .any, none⟩,
          ⟨6, [33], [1], some 34, .any, none⟩,
          ⟨7, [29, 34], [], some 35, .any, none⟩,
          ⟨8, [28], [], some 2, .any, none⟩,
          ⟨9, [35], [], some 3, .any, none⟩]
      mixed_ok rfl (by kernel_rfl) ⟨DS.ok_over fun s0 => OpAt.go rfl rfl (q_move),
          DS.ok_over fun s0 => OpAt.go rfl rfl (q_move),
          DS.ok_over fun s0 => OpAt.go rfl rfl (q_move),
          DS.ok_over fun s0 => OpAt.go rfl rfl (q_nil),
          DS.ok_over fun s0 => OpAt.go rfl rfl (q_fa),
          DS.ok_over fun s0 => OpAt.go rfl rfl (q_load),
          DS.ok_over fun s0 => OpAt.go rfl rfl (q_len),
          DS.ok_over fun s0 => OpAt.go rfl rfl (q_leq),
          DS.ok_over fun s0 => OpAt.go rfl rfl (q_assign),
          DS.ok_over fun s0 => OpAt.go rfl rfl (q_assign), trivial⟩ ?_
    dsimp only [final, DS.upd, AS.seto]
    refine AWp.ret ?_
    show Fin te Try.f31 _ _
    refine q_retH (0) [] [_, _] [_, _] [(0, .box [.sl 1 v off m 1, tf b]), (1, .row (cl bc w) 1 v)] ?_
    rw [szB_at hm h1_5, szN_at hm h1_5]; rfl

set_option maxRecDepth 20000 in
theorem c_Feed (w c : List UInt8) (v off m lv : Nat) (hm : off + m = w.length) (hw : m + c.length ≤ 11728124029610) : AC Try.prog 20 [.ptr 0 0 0, .fz lv c.length (cl bc c)] (hlook [(0, .box [.sl 1 v off m 1, tf true]), (1, .row (cl bc w) 1 v)]) (RetH (.fz 0 (feed (w.drop off ++ c)).1.length (cl (lc 0 bc) (feed (w.drop off ++ c)).1)) [(0, .box [.sl 1 (v + 1) ((w.drop off ++ c).length - (feed (w.drop off ++ c)).2.length) (feed (w.drop off ++ c)).2.length 1, tf true]), (1, .row (cl bc (w.drop off ++ c)) 1 (v + 1))]) := by
  have hW : (w.drop off ++ c).length = m + c.length := by simp; omega
  refine AC.intro te_ok (fn := Try.f20) ⟨Try.func20, rfl, rfl⟩ (Nat.le_of_ble_eq_true rfl) ?_
  refine AWp.seq ?_
  refine AWp.region ?_
  refine AOps.cons rfl rfl (q_nilz 0 (lc 0 bc)) ?_
  refine AOps.nil ?_
  refine AWp.seq ?_
  refine AWp.seq ?_
  refine AWp.region ?_
  refine AOps.cons rfl rfl (q_move) ?_
  refine AOps.cons rfl rfl (q_pnil) ?_
  refine AOps.cons rfl rfl (q_move) ?_
  refine AOps.gcons rfl rfl rfl rfl rfl (q_move) ?_
  refine AOps.gcons rfl rfl rfl rfl rfl (q_nil) ?_
  refine AOps.gcons rfl rfl rfl rfl rfl (q_fa) ?_
  refine AOps.gcons rfl rfl rfl rfl rfl ((OpOk.bool_is (c := true) (q_load) (rfl))) ?_
  refine AOps.gcons rfl rfl rfl rfl rfl (q_not) ?_
  refine AOps.cons rfl rfl (q_pick) ?_
  refine AOps.nil ?_
  refine AWp.cond_f rfl ?_
  refine AWp.skip ?_
  refine AWp.seq ?_
  refine AWp.region ?_
  refine AOps.cons rfl rfl (q_nilrow 400 1 (lc 0 bc)) ?_
  refine AOps.nil ?_
  refine AWp.seq ?_
  refine AWp.region ?_
  refine AOps.cons rfl rfl (q_move) ?_
  refine AOps.cons rfl rfl (q_move) ?_
  refine AOps.cons rfl rfl (q_nil) ?_
  refine AOps.cons rfl rfl (q_fa) ?_
  refine AOps.cons rfl rfl (q_fa) ?_
  refine AOps.cons rfl rfl (q_load) ?_
  refine AOps.cons rfl rfl (q_move) ?_
  refine AOps.cons rfl rfl (q_appo off) ?_
  refine AOps.cons rfl rfl (q_nil) ?_
  refine AOps.cons rfl rfl (q_fa) ?_
  refine AOps.cons rfl rfl (q_fa) ?_
  refine AOps.cons rfl rfl (q_store) ?_
  refine AOps.nil ?_
  refine AWp.seq ?_
  refine AWp.seq ?_
  refine AWp.region ?_
  refine AOps.cons rfl rfl (q_move) ?_
  refine AOps.cons rfl rfl (q_nil) ?_
  refine AOps.cons rfl rfl (q_fa) ?_
  refine AOps.cons rfl rfl (q_callB (lv) [(0, 0), (1, 1)] [] [(_, _), (_, _)] (hc := c_size (w.drop off ++ c) (v + 1) 0 _ true (by omega) (by omega))) ?_
  refine AOps.cons rfl rfl (q_move) ?_
  refine AOps.cons rfl rfl (q_extract) ?_
  refine AOps.cons rfl rfl (q_extract) ?_
  refine AOps.cons rfl rfl (q_assign) ?_
  refine AOps.cons rfl rfl (q_assign) ?_
  refine AOps.nil ?_
  refine AWp.block ?_
  refine AWp.loopR (α := List (List UInt8) × Nat × Nat × Nat) [5, 6, 7, 35, 36, 37, 38, 39, 40, 41, 42, 43, 44, 45, 46, 47, 48, 49, 50, 51, 52, 53, 54, 55, 56, 57, 58, 59, 60, 61, 62, 63, 64] (fun x_ => [(5, .sl 400 (x_.2.2.2) 0 (x_.1).length 1), (6, i64 (szN ((w.drop off ++ c).drop (x_.2.1)))), (7, tf (szB ((w.drop off ++ c).drop (x_.2.1))))]) (fun x_ => [(0, .box [.sl 1 (v + 1) (x_.2.1) (x_.2.2.1) 1, tf true]), (1, .row (cl bc (w.drop off ++ c)) 1 (v + 1)), (400, .row (cl (lc 0 bc) (x_.1)) 1 (x_.2.2.2))]) (fun x_ => (x_.2.1) + (x_.2.2.1) = (w.drop off ++ c).length ∧ (x_.1).length * 2 ≤ (x_.2.1) ∧ feed (w.drop off ++ c) = ((x_.1) ++ (feed ((w.drop off ++ c).drop (x_.2.1))).1, (feed ((w.drop off ++ c).drop (x_.2.1))).2)) (fun x_ => (w.drop off ++ c).length - (x_.2.1)) ([], 0, (w.drop off ++ c).length, 0) ?_ (Back.mk' (HasT.cons (HasT.cons (HasT.cons HasT.nil))) (HasH.cons (HasH.cons (HasH.cons HasH.nil)))) ?_
  · exact ⟨by simp, by simp, by simp⟩
  · rintro ⟨fs, k, q, vf⟩ hI6
    change k + q = (w.drop off ++ c).length ∧ fs.length * 2 ≤ k ∧ feed (w.drop off ++ c) = (fs ++ (feed ((w.drop off ++ c).drop k)).1, (feed ((w.drop off ++ c).drop k)).2) at hI6
    obtain ⟨hk, hfs, hI⟩ := hI6
    refine AWp.as (s' := AS.over _ [5, 6, 7, 35, 36, 37, 38, 39, 40, 41, 42, 43, 44, 45, 46, 47, 48, 49, 50, 51, 52, 53, 54, 55, 56, 57, 58, 59, 60, 61, 62, 63, 64] [(5, .sl 400 vf 0 fs.length 1), (6, i64 (szN ((w.drop off ++ c).drop k))), (7, tf (szB ((w.drop off ++ c).drop k)))] [(0, .box [.sl 1 (v + 1) k q 1, tf true]), (1, .row (cl bc (w.drop off ++ c)) 1 (v + 1)), (400, .row (cl (lc 0 bc) fs) 1 vf)]) rfl ?_
    refine AWp.seq ?_
    refine AWp.seq ?_
    refine AWp.region ?_
    refine AOps.bool rfl rfl (q_move) (fun h6_0 => ?_) (fun h6_0 => ?_)
    · skip
      refine AOps.nil ?_
      refine AWp.cond_t rfl ?_
      refine AWp.skip ?_
      refine AWp.seq ?_
      refine AWp.block ?_
      refine AWp.seq ?_
      refine AWp.region ?_
      have hn := szN_ge h6_0
      rw [List.length_drop] at hn
      refine AOps.cons rfl rfl (q_move) ?_
      refine AOps.cons rfl rfl (q_move) ?_
      refine AOps.cons rfl rfl (q_nil) ?_
      refine AOps.cons rfl rfl (q_fa) ?_
      refine AOps.cons rfl rfl (q_fa) ?_
      refine AOps.cons rfl rfl (q_load) ?_
      refine AOps.cons rfl rfl (q_move) ?_
      refine AOps.cons rfl rfl (q_sl) ?_
      refine AOps.cons rfl rfl (q_call (lv) (hc := c_bytes_Clone _ _ (by first | assumption | omega | decide | (simp; omega) | (simp [*]; done)))) ?_
      refine AOps.cons rfl rfl (q_bs 909 (lc 0 bc) [_] [(_, _)]) ?_
      refine AOps.cons rfl rfl (q_app) ?_
      refine AOps.cons rfl rfl (q_assign) ?_
      refine AOps.nil ?_
      refine AWp.region ?_
      refine AOps.cons rfl rfl (q_move) ?_
      refine AOps.cons rfl rfl (q_move) ?_
      refine AOps.cons rfl rfl (q_nil) ?_
      refine AOps.cons rfl rfl (q_fa) ?_
      refine AOps.cons rfl rfl (q_fa) ?_
      refine AOps.cons rfl rfl (q_load) ?_
      refine AOps.cons rfl rfl (q_move) ?_
      refine AOps.cons rfl rfl (q_sl) ?_
      refine AOps.cons rfl rfl (q_nil) ?_
      refine AOps.cons rfl rfl (q_fa) ?_
      refine AOps.cons rfl rfl (q_fa) ?_
      refine AOps.cons rfl rfl (q_store) ?_
      refine AOps.nil ?_
      refine AWp.region ?_
      refine AOps.cons rfl rfl (q_move) ?_
      refine AOps.cons rfl rfl (q_nil) ?_
      refine AOps.cons rfl rfl (q_fa) ?_
      refine AOps.cons rfl rfl (q_callB (lv) [(0, 0), (1, 1)] [] [(_, _), (_, _)] (hc := c_size (w.drop off ++ c) (v + 1) _ _ true (by omega) (by omega))) ?_
      refine AOps.cons rfl rfl (q_move) ?_
      refine AOps.cons rfl rfl (q_extract) ?_
      refine AOps.cons rfl rfl (q_extract) ?_
      refine AOps.cons rfl rfl (q_assign) ?_
      refine AOps.cons rfl rfl (q_assign) ?_
      refine AOps.nil ?_
      refine ⟨(_, _, _, _), ?_, Back.mk' (HasT.cons (HasT.cons (HasT.cons HasT.nil))) (HasH.cons (HasH.cons (HasH.cons HasH.nil))), ?_⟩
      · try dsimp only
        rw [feed_yes h6_0, List.drop_drop] at hI
        refine ⟨by omega, by simp only [List.length_append, List.length_cons, List.length_nil]; omega, ?_⟩
        rw [hI, List.append_assoc, List.drop_take, List.drop_drop]
        simp
      · try dsimp only
        omega
    · skip
      refine AOps.nil ?_
      refine AWp.cond_f rfl ?_
      refine AWp.exit ?_
      refine AWp.seq ?_
      refine AWp.region ?_
      refine AOps.cons rfl rfl (q_move) ?_
      refine AOps.cons rfl rfl (q_assign) ?_
      refine AOps.nil ?_
      refine AWp.ret ?_
      show Fin te Try.f20 _ _
      rw [feed_no h6_0] at hI
      obtain rfl : q = (feed (w.drop off ++ c)).2.length := by rw [hI]; simp only [List.length_drop]; omega
      obtain rfl : k = (w.drop off ++ c).length - (feed (w.drop off ++ c)).2.length := by omega
      refine q_retH (0) [] [_] [_] [(0, .box [.sl 1 (v + 1) ((w.drop off ++ c).length - (feed (w.drop off ++ c)).2.length) (feed (w.drop off ++ c)).2.length 1, tf true]), (1, .row (cl bc (w.drop off ++ c)) 1 (v + 1))] ?_
      rw [hI]; simp [resVal]

set_option maxRecDepth 20000 in
theorem c_Left (w : List UInt8) (v off m : Nat) (b : Bool) : AC Try.prog 21 [.ptr 0 0 0] (hlook [(0, .box [.sl 1 v off m 1, tf b]), (1, .row (cl bc w) 1 v)]) (RetH (i64 m) [(0, .box [.sl 1 v off m 1, tf b]), (1, .row (cl bc w) 1 v)]) := by
  refine AC.intro te_ok (fn := Try.f21) ⟨Try.func21, rfl, rfl⟩ (Nat.le_of_ble_eq_true rfl) ?_
  refine AWp.seq ?_
  refine AWp.region ?_
  refine AOps.cons rfl rfl (q_assign) ?_
  refine AOps.nil ?_
  refine AWp.seq ?_
  refine AWp.seq ?_
  refine AWp.region ?_
  refine AOps.cons rfl rfl (q_move) ?_
  refine AOps.cons rfl rfl (q_pnil) ?_
  refine AOps.nil ?_
  refine AWp.cond_f rfl ?_
  refine AWp.skip ?_
  refine AWp.seq ?_
  refine AWp.region ?_
  refine AOps.cons rfl rfl (q_move) ?_
  refine AOps.cons rfl rfl (q_nil) ?_
  refine AOps.cons rfl rfl (q_fa) ?_
  refine AOps.cons rfl rfl (q_fa) ?_
  refine AOps.cons rfl rfl (q_load) ?_
  refine AOps.cons rfl rfl (q_len) ?_
  refine AOps.cons rfl rfl (q_assign) ?_
  refine AOps.nil ?_
  refine AWp.ret ?_
  show Fin te Try.f21 _ _
  refine q_retH (0) [] [_] [_] [(0, .box [.sl 1 v off m 1, tf b]), (1, .row (cl bc w) 1 v)] ?_
  rfl

set_option maxRecDepth 20000 in
theorem c_prefix_New  : AC Try.prog 19 [] (hlook []) (RetH (.ptr 8 0 0) [(8, .box [.sl 9 0 0 0 1, tf true]), (9, .row (cl bc []) 1 0)]) := by
  refine AC.intro te_ok (fn := Try.f19) ⟨Try.func19, rfl, rfl⟩ (Nat.le_of_ble_eq_true rfl) ?_
  refine AWp.seq ?_
  refine AWp.region ?_
  refine AOps.cons rfl rfl (q_assign) ?_
  refine AOps.nil ?_
  refine AWp.seq ?_
  refine AWp.region ?_
  refine AOps.cons rfl rfl (q_build [(_, _)]) ?_
  refine AOps.cons rfl rfl (q_box 8) ?_
  refine AOps.cons rfl rfl (q_assign) ?_
  refine AOps.weak (Weak.nilcell 8 9 0 1 bc) ?_
  refine AOps.nil ?_
  refine AWp.ret ?_
  show Fin te Try.f19 _ _
  refine q_retH (0) [] [_] [.ptr 8 0 0] [(8, .box [.sl 9 0 0 0 1, tf true]), (9, .row (cl bc []) 1 0)] ?_
  rfl

end Go.Proofs.Ytahkngplohnliaa.Fw
