/- The texts V02, V04a, V04b, V04c, V04d, V04e, Q16, V04h, V04i, V04j, one behind the other: what the walks and plain laws need; conditions stand with each theorem. -/
import Derived.Test.YtkfccjbihcbmiaaCat3
set_option linter.unusedVariables false
set_option linter.unusedSimpArgs false
namespace Go.Proofs.Ytkfccjbihcbmiaa.Fw
open Go.RowKit
theorem or8 (a b : UInt8) : ((((a.toNat : Int) * 2 ^ 8).toNat ||| ((b.toNat : Int)).toNat : Nat) : Int) = ((a.toNat * 256 + b.toNat : Nat) : Int) := by
  have hb := b.toNat_lt
  have e : ((a.toNat : Int) * 2 ^ 8).toNat = 2 ^ 8 * a.toNat := by omega
  rw [e, Int.toNat_natCast, ← Nat.two_pow_add_eq_or_of_lt (by omega : b.toNat < 2 ^ 8) a.toNat]
  omega
theorem q_or_bytes {n : Nat} {s : AS} {o : Oper} {d : Option Tmp} {t u : TypeId} {x y : Operand} {p q : UInt8} (ho : o.op = .binOp .or t x y u := by exact rfl) (hx : s.ev x = i64 ((p.toNat : Int) * 2 ^ 8) := by exact rfl) (hy : s.ev y = i64 q.toNat := by exact rfl)
    (hdd : o.dst = d := by conv => lhs; whnf) (hd : d.all (Nat.blt · n) = true := by exact rfl) : OpOk Try.prog n o s (s.put d (i64 ((p.toNat * 256 + q.toNat : Nat) : Int))) := by
  have hp := p.toNat_lt
  have hq := q.toNat_lt
  rw [← or8]
  exact q_or ho hx hy (by omega) (by omega) hdd hd
def wideB (b : Nat) (n : Int) : Bool := decide (n < 0) || decide (n ≥ 1 * 2 ^ b)
theorem wideB4 {n : Int} : wideB 4 n = false ↔ 0 ≤ n ∧ n ≤ 15 := by simp [wideB]; omega
theorem wideB16 {n : Int} : wideB 16 n = false ↔ 0 ≤ n ∧ n ≤ 65535 := by simp [wideB]; omega
theorem pow_le {b : Nat} (hb : b ≤ 16) : 0 ≤ (2 : Int) ^ b ∧ (2 : Int) ^ b ≤ 65536 := by
  have h : ∀ b : _root_.Fin 17, 0 ≤ (2 : Int) ^ b.val ∧ (2 : Int) ^ b.val ≤ 65536 := by decide
  exact h ⟨b, by omega⟩
structure Hd where
  id : Int
  resp : Bool
  op : Int
  aa : Bool
  tc : Bool
  rd : Bool
  ra : Bool
  code : Int
abbrev Hd.cells (h : Hd) : List AV := [i64 h.id, tf h.resp, i64 h.op, tf h.aa, tf h.tc, tf h.rd, tf h.ra, i64 h.code]
def Hd.can (h : Hd) (c0 c1 c2 c3 : Int) : Prop := (0 ≤ h.id ∧ h.id ≤ 65535) ∧ (0 ≤ h.op ∧ h.op ≤ 15) ∧ (0 ≤ h.code ∧ h.code ≤ 15) ∧ (0 ≤ c0 ∧ c0 ≤ 65535) ∧ (0 ≤ c1 ∧ c1 ≤ 65535) ∧ (0 ≤ c2 ∧ c2 ≤ 65535) ∧ (0 ≤ c3 ∧ c3 ≤ 65535)
instance (h : Hd) (c0 c1 c2 c3 : Int) : Decidable (h.can c0 c1 c2 c3) := by unfold Hd.can; infer_instance
def Hd.flN (h : Hd) (i : Nat) : Int := h.op * 2048 + h.code + (if 0 < i ∧ h.resp = true then 32768 else 0) + (if 1 < i ∧ h.aa = true then 1024 else 0) + (if 2 < i ∧ h.tc = true then 512 else 0) + (if 3 < i ∧ h.rd = true then 256 else 0) + (if 4 < i ∧ h.ra = true then 128 else 0)
def two (n : Int) : List UInt8 := [byte (n / 2 ^ 8), byte n]
def Hd.nums (h : Hd) (c0 c1 c2 c3 : Int) : List Int := [h.id, h.flN 5, c0, c1, c2, c3]
def Hd.bytes (h : Hd) (c0 c1 c2 c3 : Int) : List UInt8 := (h.nums c0 c1 c2 c3).flatMap two
theorem Hd.bytes_length (h : Hd) (c0 c1 c2 c3 : Int) : (h.bytes c0 c1 c2 c3).length = 12 := rfl
theorem can_iff {h : Hd} {c0 c1 c2 c3 : Int} : h.can c0 c1 c2 c3 ↔ wideB 16 h.id = false ∧ (wideB 4 h.op = false ∧ wideB 4 h.code = false) ∧ wideB 16 c0 = false ∧ wideB 16 c1 = false ∧ wideB 16 c2 = false ∧ wideB 16 c3 = false := by
  simp only [wideB16, wideB4, Hd.can, and_assoc]
theorem or_pow (x k : Nat) (h : x / 2 ^ k % 2 = 0) : x ||| 2 ^ k = x + 2 ^ k := by
  have h1 : x = 2 ^ (k + 1) * (x / 2 ^ (k + 1)) + x % 2 ^ k := by
    have e1 := Nat.div_add_mod x (2 ^ k)
    have e2 := Nat.div_add_mod (x / 2 ^ k) 2
    rw [h, Nat.add_zero, Nat.div_div_eq_div_mul, ← Nat.pow_succ] at e2
    rw [Nat.pow_succ, Nat.mul_assoc, ← Nat.pow_succ, e2]
    exact e1.symm
  have hlt : x % 2 ^ k < 2 ^ k := Nat.mod_lt _ (Nat.two_pow_pos k)
  generalize hq : x / 2 ^ (k + 1) = q at h1
  generalize hr : x % 2 ^ k = r at h1 hlt
  subst h1
  have e3 : 2 ^ (k + 1) = 2 ^ k * 2 := Nat.pow_succ ..
  rw [Nat.two_pow_add_eq_or_of_lt (by omega : r < 2 ^ (k + 1)) q, Nat.or_assoc]
  have e4 : r ||| 2 ^ k = 2 ^ k * 1 + r := by
    rw [Nat.two_pow_add_eq_or_of_lt hlt 1, Nat.mul_one, Nat.or_comm]
  rw [e4, ← Nat.two_pow_add_eq_or_of_lt (by omega : 2 ^ k * 1 + r < 2 ^ (k + 1)) q, ← Nat.two_pow_add_eq_or_of_lt (by omega : r < 2 ^ (k + 1)) q]
  omega
theorem or_int {x : Int} {k : Nat} {m : Int} (h0 : 0 ≤ x) (hm : m = 2 ^ k) (h : x.toNat / 2 ^ k % 2 = 0) : ((x.toNat ||| m.toNat : Nat) : Int) = x + m := by
  subst hm
  have : ((2 : Int) ^ k).toNat = 2 ^ k := by
    have : (2 : Int) ^ k = ((2 ^ k : Nat) : Int) := by simp
    rw [this, Int.toNat_natCast]
  rw [this, or_pow _ _ h]
  simp
  omega
theorem fl_start {h : Hd} (hop : 0 ≤ h.op ∧ h.op ≤ 15) (hco : 0 ≤ h.code ∧ h.code ≤ 15) : (((h.op * 2 ^ 11).toNat ||| h.code.toNat : Nat) : Int) = h.op * 2048 + h.code := by
  have e : (h.op * 2 ^ 11).toNat = 2 ^ 11 * h.op.toNat := by omega
  rw [e, ← Nat.two_pow_add_eq_or_of_lt (by omega : h.code.toNat < 2 ^ 11) h.op.toNat]
  omega
theorem fl_start' {h : Hd} (hop : 0 ≤ h.op ∧ h.op ≤ 15) (hco : 0 ≤ h.code ∧ h.code ≤ 15) : (((h.op * 2 ^ 11).toNat ||| h.code.toNat : Nat) : Int) = h.flN 0 := by
  rw [fl_start hop hco]
  simp [Hd.flN]
theorem Hd.fl_pos {h : Hd} (hop : 0 ≤ h.op ∧ h.op ≤ 15) (hco : 0 ≤ h.code ∧ h.code ≤ 15) (i : Nat) : 0 ≤ h.flN i ∧ h.flN i ≤ 65535 := by
  unfold Hd.flN
  repeat' split
  all_goals omega
theorem Hd.fl0 {h : Hd} (hop : 0 ≤ h.op ∧ h.op ≤ 15) (hco : 0 ≤ h.code ∧ h.code ≤ 15) (hb : h.resp = true) : (((h.flN 0).toNat ||| (32768 : Int).toNat : Nat) : Int) = h.flN 1 := by
  rw [or_int (k := 15) (hop.1 |> fun _ => (Hd.fl_pos hop hco 0).1) (by decide) (by simp [Hd.flN]; omega)]
  simp [Hd.flN, hb]
theorem Hd.fl1 {h : Hd} (hop : 0 ≤ h.op ∧ h.op ≤ 15) (hco : 0 ≤ h.code ∧ h.code ≤ 15) (hb : h.aa = true) : (((h.flN 1).toNat ||| (1024 : Int).toNat : Nat) : Int) = h.flN 2 := by
  rw [or_int (k := 10) (Hd.fl_pos hop hco 1).1 (by decide) (by cases hr : h.resp <;> simp [Hd.flN, hr] <;> omega)]
  simp [Hd.flN, hb]
theorem Hd.fl2 {h : Hd} (hop : 0 ≤ h.op ∧ h.op ≤ 15) (hco : 0 ≤ h.code ∧ h.code ≤ 15) (hb : h.tc = true) : (((h.flN 2).toNat ||| (512 : Int).toNat : Nat) : Int) = h.flN 3 := by
  rw [or_int (k := 9) (Hd.fl_pos hop hco 2).1 (by decide) (by cases hr : h.resp <;> cases ha : h.aa <;> simp [Hd.flN, hr, ha] <;> omega)]
  simp [Hd.flN, hb]
theorem Hd.fl3 {h : Hd} (hop : 0 ≤ h.op ∧ h.op ≤ 15) (hco : 0 ≤ h.code ∧ h.code ≤ 15) (hb : h.rd = true) : (((h.flN 3).toNat ||| (256 : Int).toNat : Nat) : Int) = h.flN 4 := by
  rw [or_int (k := 8) (Hd.fl_pos hop hco 3).1 (by decide) (by cases hr : h.resp <;> cases ha : h.aa <;> cases ht : h.tc <;> simp [Hd.flN, hr, ha, ht] <;> omega)]
  simp [Hd.flN, hb]
theorem Hd.fl4 {h : Hd} (hop : 0 ≤ h.op ∧ h.op ≤ 15) (hco : 0 ≤ h.code ∧ h.code ≤ 15) (hb : h.ra = true) : (((h.flN 4).toNat ||| (128 : Int).toNat : Nat) : Int) = h.flN 5 := by
  rw [or_int (k := 7) (Hd.fl_pos hop hco 4).1 (by decide) (by cases hr : h.resp <;> cases ha : h.aa <;> cases ht : h.tc <;> cases hd : h.rd <;> simp [Hd.flN, hr, ha, ht, hd] <;> omega)]
  simp [Hd.flN, hb]
theorem Hd.fl_skip {h : Hd} (i : Nat) (hb : (i = 0 → h.resp = false) ∧ (i = 1 → h.aa = false) ∧ (i = 2 → h.tc = false) ∧ (i = 3 → h.rd = false) ∧ (i = 4 → h.ra = false)) : h.flN i = h.flN (i + 1) := by
  obtain ⟨h0, h1, h2, h3, h4⟩ := hb
  rcases i with _ | _ | _ | _ | _ | i
  · simp [Hd.flN, h0 rfl]
  · simp [Hd.flN, h1 rfl]
  · simp [Hd.flN, h2 rfl]
  · simp [Hd.flN, h3 rfl]
  · simp [Hd.flN, h4 rfl]
  · simp [Hd.flN]
def hB (h : Hd) (c0 c1 c2 c3 : Int) : List UInt8 := if h.can c0 c1 c2 c3 then h.bytes c0 c1 c2 c3 else []
def hE (h : Hd) (c0 c1 c2 c3 : Int) : Int := if h.can c0 c1 c2 c3 then 0 else 1
theorem hB_yes {h : Hd} {c0 c1 c2 c3 : Int} (k : h.can c0 c1 c2 c3) : hB h c0 c1 c2 c3 = h.bytes c0 c1 c2 c3 := if_pos k
theorem hE_yes {h : Hd} {c0 c1 c2 c3 : Int} (k : h.can c0 c1 c2 c3) : hE h c0 c1 c2 c3 = 0 := if_pos k
theorem hB_no {h : Hd} {c0 c1 c2 c3 : Int} (k : ¬ h.can c0 c1 c2 c3) : hB h c0 c1 c2 c3 = [] := if_neg k
theorem hE_no {h : Hd} {c0 c1 c2 c3 : Int} (k : ¬ h.can c0 c1 c2 c3) : hE h c0 c1 c2 c3 = 1 := if_neg k
abbrev Hd.flags (h : Hd) : List Bool := [h.resp, h.aa, h.tc, h.rd, h.ra]
abbrev masks : List Int := [32768, 1024, 512, 256, 128]
theorem masks_at (i : Nat) : 0 ≤ masks.getD i default ∧ masks.getD i default ≤ 32768 := by
  match i with
  | 0 | 1 | 2 | 3 | 4 => simp
  | i + 5 => simp
theorem Hd.fl_on {h : Hd} (hop : 0 ≤ h.op ∧ h.op ≤ 15) (hco : 0 ≤ h.code ∧ h.code ≤ 15) {i : Nat} (hi : i < 5) (hb : h.flags.getD i default = true) : (((h.flN i).toNat ||| (masks.getD i default).toNat : Nat) : Int) = h.flN (i + 1) := by
  match i, hi, hb with
  | 0, _, hb => exact Hd.fl0 hop hco hb
  | 1, _, hb => exact Hd.fl1 hop hco hb
  | 2, _, hb => exact Hd.fl2 hop hco hb
  | 3, _, hb => exact Hd.fl3 hop hco hb
  | 4, _, hb => exact Hd.fl4 hop hco hb
theorem Hd.fl_off {h : Hd} {i : Nat} (hi : i < 5) (hb : h.flags.getD i default = false) : h.flN i = h.flN (i + 1) := by
  match i, hi, hb with
  | 0, _, hb => exact Hd.fl_skip 0 (by simp_all)
  | 1, _, hb => exact Hd.fl_skip 1 (by simp_all)
  | 2, _, hb => exact Hd.fl_skip 2 (by simp_all)
  | 3, _, hb => exact Hd.fl_skip 3 (by simp_all)
  | 4, _, hb => exact Hd.fl_skip 4 (by simp_all)
theorem two_step {l : List Int} {j : Nat} (hj : j < l.length) : (l.take (j + 1)).flatMap two = (l.take j).flatMap two ++ [byte (l.getD j default / 2 ^ 8), byte (l.getD j default)] := by
  rw [List.take_succ_eq_append_getElem hj, List.flatMap_append]
  simp [two, List.getD_eq_getElem?_getD, List.getElem?_eq_getElem hj]
theorem two_len : ∀ l : List Int, (l.flatMap two).length = 2 * l.length
  | [] => rfl
  | a :: l => by rw [List.flatMap_cons, List.length_append, two_len l, List.length_cons]; simp [two]; omega
theorem Hd.can_of {h : Hd} {c0 c1 c2 c3 : Int} (h1 : [h.id].any (wideB 16) = false) (h2 : [h.op, h.code].any (wideB 4) = false) (h3 : [c0, c1, c2, c3].any (wideB 16) = false) : h.can c0 c1 c2 c3 := by
  simp only [List.any_cons, List.any_nil, Bool.or_false, Bool.or_eq_false_iff] at h1 h2 h3
  exact can_iff.2 ⟨h1, h2, h3⟩
theorem Hd.not_can1 {h : Hd} {c0 c1 c2 c3 : Int} (h1 : [h.id].any (wideB 16) = true) : ¬ h.can c0 c1 c2 c3 := fun hc => by
  obtain ⟨q1, _⟩ := can_iff.1 hc
  simp [q1] at h1
theorem Hd.not_can2 {h : Hd} {c0 c1 c2 c3 : Int} (h1 : [h.op, h.code].any (wideB 4) = true) : ¬ h.can c0 c1 c2 c3 := fun hc => by
  obtain ⟨_, ⟨q1, q2⟩, _⟩ := can_iff.1 hc
  simp [q1, q2] at h1
theorem Hd.not_can3 {h : Hd} {c0 c1 c2 c3 : Int} (h1 : [c0, c1, c2, c3].any (wideB 16) = true) : ¬ h.can c0 c1 c2 c3 := fun hc => by
  obtain ⟨_, _, q1, q2, q3, q4⟩ := can_iff.1 hc
  simp [q1, q2, q3, q4] at h1
set_option maxRecDepth 20000 in
set_option maxHeartbeats 2000000 in
theorem c_header_wide_1 (n : Int) (b lv : Nat) (hb : b ≤ 16) : AC Try.prog 91 [i64 n, .fp lv [i64 b]] emp (Ret (tf (wideB b n))) := by
 have hp := pow_le hb
 refine AC.intro te_ok (fn := Try.f91) ⟨Try.func91, rfl, rfl⟩ (Nat.le_of_ble_eq_true rfl) ?_
 refine AWp.seq ?_
 refine AWp.region ?_
 refine AOps.cons rfl rfl (q_assign) ?_
 refine AOps.nil ?_
 refine AWp.seq ?_
 refine AWp.region ?_
 refine AOps.cons rfl rfl (q_move) ?_
 refine AOps.dec rfl rfl (q_lss) (fun h1_1 => ?_) (fun h1_1 => ?_)
 ·
  refine AOps.cons rfl rfl (q_move) ?_
  refine AOps.gskip rfl rfl rfl rfl rfl rfl rfl rfl ?_
  refine AOps.gskip rfl rfl rfl rfl rfl rfl rfl rfl ?_
  refine AOps.gskip rfl rfl rfl rfl rfl rfl rfl rfl ?_
  refine AOps.gskip rfl rfl rfl rfl rfl rfl rfl rfl ?_
  refine AOps.cons rfl rfl (q_pick) ?_
  refine AOps.cons rfl rfl (q_assign) ?_
  refine AOps.nil ?_
  refine AWp.ret ?_
  show Fin te Try.f91 _ _
  refine q_ret (0) [_] [_] ?_
  simp [wideB, h1_1, resVal]
 ·
  refine AOps.cons rfl rfl (q_move) ?_
  refine AOps.gcons rfl rfl rfl rfl rfl (q_move) ?_
  refine AOps.gcons rfl rfl rfl rfl rfl (q_load) ?_
  refine AOps.gcons rfl rfl rfl rfl rfl (q_shl b) ?_
  refine AOps.gcons rfl rfl rfl rfl rfl (q_geq) ?_
  refine AOps.cons rfl rfl (q_pick) ?_
  refine AOps.cons rfl rfl (q_assign) ?_
  refine AOps.nil ?_
  refine AWp.ret ?_
  show Fin te Try.f91 _ _
  refine q_ret (0) [_] [_] ?_
  simp [wideB, h1_1, resVal]
set_option maxRecDepth 20000 in
set_option maxHeartbeats 2000000 in
theorem c_header_wide (b : Nat) (l : List Int) (lv : Nat) (hb : b ≤ 16) (hl : l.length ≤ 140737488351232) : AC Try.prog 60 [i64 b, .fz lv l.length (cl ic l)] emp (Ret (tf (l.any (wideB b)))) := by
 refine AC.intro te_ok (fn := Try.f60) ⟨Try.func60, rfl, rfl⟩ (Nat.le_of_ble_eq_true rfl) ?_
 refine AWp.seq ?_
 refine AWp.region ?_
 refine AOps.cons rfl rfl (q_box 100) ?_
 refine AOps.cons rfl rfl (q_assign) ?_
 refine AOps.nil ?_
 refine AWp.seq ?_
 refine AWp.region ?_
 refine AOps.cons rfl rfl (q_move) ?_
 refine AOps.cons rfl rfl (q_makeFunc [] [_]) ?_
 refine AOps.cons rfl rfl (q_call (lv) (hc := (c_ContainsFunc_int l lv 0 (lv + 1) _ (wideB b) hl (by simp [AV.oks, AV.ok]) (fun n _ => c_header_wide_1 n b _ hb)))) ?_
 refine AOps.cons rfl rfl (q_assign) ?_
 refine AOps.nil ?_
 refine AWp.ret ?_
 show Fin te Try.f60 _ _
 refine q_ret (0) [_] [_] ?_
 rfl
set_option maxRecDepth 20000 in
set_option maxHeartbeats 2000000 in
theorem co_header_Encode (h : Hd) (c0 c1 c2 c3 : Int) : AC Try.prog 26 [.agg [i64 h.id, tf h.resp, i64 h.op, tf h.aa, tf h.tc, tf h.rd, tf h.ra, i64 h.code], .agg [i64 c0, i64 c1, i64 c2, i64 c3]] (hlook []) (RetH (.tup [.sl 8 0 0 (hB h c0 c1 c2 c3).length 1, i64 (hE h c0 c1 c2 c3)]) [(8, .row (cl bc (hB h c0 c1 c2 c3)) 1 0)]) := by
 refine AC.intro te_ok (fn := Try.f26) ⟨Try.func26, rfl, rfl⟩ (Nat.le_of_ble_eq_true rfl) ?_
 refine AWp.seq ?_
 refine AWp.region ?_
 refine AOps.cons rfl rfl (q_box 100) ?_
 refine AOps.cons rfl rfl (q_box 101) ?_
 refine AOps.cons rfl rfl (q_nilz (0) bc) ?_
 refine AOps.cons rfl rfl (q_assign) ?_
 refine AOps.nil ?_
 refine AWp.seq ?_
 refine AWp.seq ?_
 refine AWp.region ?_
 refine AOps.cons rfl rfl (q_fa) ?_
 refine AOps.cons rfl rfl (q_load) ?_
 refine AOps.cons rfl rfl (q_bs 202 ic [_] [(_, _)]) ?_
 refine AOps.bool rfl rfl (q_call (0) (hc := (c_header_wide 16 [h.id] _ (by decide) (by simp)))) (fun h1_3 => ?_) (fun h1_3 => ?_)
 ·
  refine AOps.cons rfl rfl (q_move) ?_
  refine AOps.gskip rfl rfl rfl rfl rfl rfl rfl rfl ?_
  refine AOps.gskip rfl rfl rfl rfl rfl rfl rfl rfl ?_
  refine AOps.gskip rfl rfl rfl rfl rfl rfl rfl rfl ?_
  refine AOps.gskip rfl rfl rfl rfl rfl rfl rfl rfl ?_
  refine AOps.gskip rfl rfl rfl rfl rfl rfl rfl rfl ?_
  refine AOps.gskip rfl rfl rfl rfl rfl rfl rfl rfl ?_
  refine AOps.cons rfl rfl (q_pick) ?_
  refine AOps.cons rfl rfl (q_move) ?_
  refine AOps.gskip rfl rfl rfl rfl rfl rfl rfl rfl ?_
  refine AOps.gskip rfl rfl rfl rfl rfl rfl rfl rfl ?_
  refine AOps.cons rfl rfl (q_pick) ?_
  refine AOps.nil ?_
  refine AWp.cond_t rfl ?_
  refine AWp.seq ?_
  refine AWp.region ?_
  refine AOps.cons rfl rfl (q_nilrow 8 1 bc) ?_
  refine AOps.cons rfl rfl (q_assign) ?_
  refine AOps.nil ?_
  refine AWp.ret ?_
  show Fin te Try.f26 _ _
  rw [hB_no (Hd.not_can1 h1_3), hE_no (Hd.not_can1 h1_3)]
  refine q_retH (0) [8] [_, _] [.sl 8 0 0 _ 1, _] [(8, .row (cl bc _) 1 0)] ?_
  rfl
 ·
  refine AOps.cons rfl rfl (q_move) ?_
  refine AOps.gcons rfl rfl rfl rfl rfl (q_fa) ?_
  refine AOps.gcons rfl rfl rfl rfl rfl (q_load) ?_
  refine AOps.gcons rfl rfl rfl rfl rfl (q_fa) ?_
  refine AOps.gcons rfl rfl rfl rfl rfl (q_load) ?_
  refine AOps.gcons rfl rfl rfl rfl rfl (q_bs 209 ic [_, _] [(_, _), (_, _)]) ?_
  refine AOps.gbool rfl rfl rfl rfl rfl (q_call (0) (hc := (c_header_wide 4 [h.op, h.code] _ (by decide) (by simp)))) (fun h1_10 => ?_) (fun h1_10 => ?_)
  ·
   refine AOps.cons rfl rfl (q_pick) ?_
   refine AOps.cons rfl rfl (q_move) ?_
   refine AOps.gskip rfl rfl rfl rfl rfl rfl rfl rfl ?_
   refine AOps.gskip rfl rfl rfl rfl rfl rfl rfl rfl ?_
   refine AOps.cons rfl rfl (q_pick) ?_
   refine AOps.nil ?_
   refine AWp.cond_t rfl ?_
   refine AWp.seq ?_
   refine AWp.region ?_
   refine AOps.cons rfl rfl (q_nilrow 8 1 bc) ?_
   refine AOps.cons rfl rfl (q_assign) ?_
   refine AOps.nil ?_
   refine AWp.ret ?_
   show Fin te Try.f26 _ _
   rw [hB_no (Hd.not_can2 h1_10), hE_no (Hd.not_can2 h1_10)]
   refine q_retH (0) [8] [_, _] [.sl 8 0 0 _ 1, _] [(8, .row (cl bc _) 1 0)] ?_
   rfl
  ·
   refine AOps.cons rfl rfl (q_pick) ?_
   refine AOps.cons rfl rfl (q_move) ?_
   refine AOps.gcons rfl rfl rfl rfl rfl (q_sla) ?_
   refine AOps.gbool rfl rfl rfl rfl rfl (q_call (0) (hA := by exact ⟨fv_ok rfl, fv_row rfl rfl rfl (Nat.le_of_ble_eq_true rfl) (by decide) rfl, trivial⟩) (hc := (c_header_wide 16 [c0, c1, c2, c3] _ (by decide) (by simp)))) (fun h1_14 => ?_) (fun h1_14 => ?_)
   ·
    refine AOps.cons rfl rfl (q_pick) ?_
    refine AOps.nil ?_
    refine AWp.cond_t rfl ?_
    refine AWp.seq ?_
    refine AWp.region ?_
    refine AOps.cons rfl rfl (q_nilrow 8 1 bc) ?_
    refine AOps.cons rfl rfl (q_assign) ?_
    refine AOps.nil ?_
    refine AWp.ret ?_
    show Fin te Try.f26 _ _
    rw [hB_no (Hd.not_can3 h1_14), hE_no (Hd.not_can3 h1_14)]
    refine q_retH (0) [8] [_, _] [.sl 8 0 0 _ 1, _] [(8, .row (cl bc _) 1 0)] ?_
    rfl
   ·
    refine AOps.cons rfl rfl (q_pick) ?_
    refine AOps.nil ?_
    refine AWp.cond_f rfl ?_
    refine AWp.skip ?_
    refine AWp.seq ?_
    refine AWp.region ?_
    have hcan : h.can c0 c1 c2 c3 := Hd.can_of h1_3 h1_10 h1_14
    obtain ⟨hid, hop, hco, hc0, hc1, hc2, hc3⟩ := id hcan
    refine AOps.cons rfl rfl (q_fa) ?_
    refine AOps.cons rfl rfl (q_load) ?_
    refine AOps.cons rfl rfl (q_shl 11) ?_
    refine AOps.cons rfl rfl (q_fa) ?_
    refine AOps.cons rfl rfl (q_load) ?_
    refine AOps.cons rfl rfl (q_or) ?_
    refine AOps.cons rfl rfl (q_assign) ?_
    refine AOps.nil ?_
    refine AWp.seq ?_
    refine AWp.region ?_
    refine AOps.cons rfl rfl (q_buildA ic [32768, 1024, 512, 256, 128] [(_, _), (_, _), (_, _), (_, _), (_, _)]) ?_
    refine AOps.cons rfl rfl (q_alloc 501) ?_
    refine AOps.cons rfl rfl (q_store) ?_
    refine AOps.nil ?_
    refine AWp.seq ?_
    refine AWp.seq ?_
    refine AWp.region ?_
    refine AOps.cons rfl rfl (q_fa) ?_
    refine AOps.cons rfl rfl (q_load) ?_
    refine AOps.cons rfl rfl (q_fa) ?_
    refine AOps.cons rfl rfl (q_load) ?_
    refine AOps.cons rfl rfl (q_fa) ?_
    refine AOps.cons rfl rfl (q_load) ?_
    refine AOps.cons rfl rfl (q_fa) ?_
    refine AOps.cons rfl rfl (q_load) ?_
    refine AOps.cons rfl rfl (q_fa) ?_
    refine AOps.cons rfl rfl (q_load) ?_
    refine AOps.cons rfl rfl (q_buildA tc [_, _, _, _, _] [(_, _), (_, _), (_, _), (_, _), (_, _)]) ?_
    refine AOps.cons rfl rfl (q_move) ?_
    refine AOps.nil ?_
    refine AWp.block ?_
    refine AWp.loopR (α := Nat) [6, 8, 9, 47, 48, 49, 50, 51, 52, 53, 54, 55, 56, 57] (fun i => [(47, i64 i), (6, i64 (h.flN i))]) (fun i => []) (fun i => i ≤ 5) (fun i => 5 - i) 0 ?_ (Back.mk' (HasT.cons (HasT.cons HasT.nil (h1 := by exact i64_eq (fl_start' hop hco)) )) HasH.nil) ?_
    ·
     decide
    ·
     rintro i hi
     refine AWp.seq ?_
     refine AWp.region ?_
     refine AOps.dec rfl rfl (q_lss) (fun h6_0 => ?_) (fun h6_0 => ?_)
     ·
      refine AOps.nil ?_
      refine AWp.seq ?_
      refine AWp.cond_t rfl ?_
      refine AWp.skip ?_
      refine AWp.seq ?_
      refine AWp.block ?_
      refine AWp.seq ?_
      refine AWp.region ?_
      refine AOps.cons rfl rfl (q_move) ?_
      refine AOps.bool rfl rfl (q_ixagg) (fun h7_1 => ?_) (fun h7_1 => ?_)
      ·
       refine AOps.cons rfl rfl (q_assign) ?_
       refine AOps.cons rfl rfl (q_assign) ?_
       refine AOps.nil ?_
       refine AWp.seq ?_
       refine AWp.region ?_
       refine AOps.cons rfl rfl (q_move) ?_
       refine AOps.nil ?_
       refine AWp.cond_t rfl ?_
       refine AWp.region ?_
       have hfl := Hd.fl_pos hop hco i
       have hm : 0 ≤ ([32768, 1024, 512, 256, 128] : List Int).getD (i : Int).toNat default ∧ ([32768, 1024, 512, 256, 128] : List Int).getD (i : Int).toNat default ≤ 32768 := masks_at i
       refine AOps.cons rfl rfl (q_move) ?_
       refine AOps.cons rfl rfl (q_move) ?_
       refine AOps.cons rfl rfl (q_ixa) ?_
       refine AOps.cons rfl rfl (q_load) ?_
       refine AOps.cons rfl rfl (q_or) ?_
       refine AOps.cons rfl rfl (q_assign) ?_
       refine AOps.nil ?_
       refine AWp.region ?_
       refine AOps.cons rfl rfl (q_add) ?_
       refine AOps.cons rfl rfl (q_move) ?_
       refine AOps.nil ?_
       refine ⟨i + 1, ?_, Back.mk' (HasT.cons (HasT.cons HasT.nil (h1 := by exact i64_eq (Hd.fl_on hop hco (by omega) h7_1)) )) HasH.nil, ?_⟩
       ·
        omega
       ·
        first | omega | (simp; omega)
      ·
       refine AOps.cons rfl rfl (q_assign) ?_
       refine AOps.cons rfl rfl (q_assign) ?_
       refine AOps.nil ?_
       refine AWp.seq ?_
       refine AWp.region ?_
       refine AOps.cons rfl rfl (q_move) ?_
       refine AOps.nil ?_
       refine AWp.cond_f rfl ?_
       refine AWp.skip ?_
       refine AWp.region ?_
       refine AOps.cons rfl rfl (q_add) ?_
       refine AOps.cons rfl rfl (q_move) ?_
       refine AOps.nil ?_
       refine ⟨i + 1, ?_, Back.mk' (HasT.cons (HasT.cons HasT.nil (h1 := by exact i64_eq (Hd.fl_off (by omega) h7_1)) )) HasH.nil, ?_⟩
       ·
        omega
       ·
        first | omega | (simp; omega)
     ·
      refine AOps.nil ?_
      refine AWp.seq ?_
      refine AWp.cond_f rfl ?_
      refine AWp.exit ?_
      refine AWp.seq ?_
      refine AWp.region ?_
      obtain rfl : i = 5 := by omega
      refine AOps.cons rfl rfl (q_nilrow 8 1 bc) ?_
      refine AOps.nil ?_
      refine AWp.seq ?_
      refine AWp.seq ?_
      refine AWp.region ?_
      refine AOps.cons rfl rfl (q_fa) ?_
      refine AOps.cons rfl rfl (q_load) ?_
      refine AOps.cons rfl rfl (q_move) ?_
      refine AOps.cons rfl rfl (q_ixa) ?_
      refine AOps.cons rfl rfl (q_load) ?_
      refine AOps.cons rfl rfl (q_ixa) ?_
      refine AOps.cons rfl rfl (q_load) ?_
      refine AOps.cons rfl rfl (q_ixa) ?_
      refine AOps.cons rfl rfl (q_load) ?_
      refine AOps.cons rfl rfl (q_ixa) ?_
      refine AOps.cons rfl rfl (q_load) ?_
      refine AOps.cons rfl rfl (q_buildA ic [_, _, _, _, _, _] [(_, _), (_, _), (_, _), (_, _), (_, _), (_, _)]) ?_
      refine AOps.cons rfl rfl (q_move) ?_
      refine AOps.nil ?_
      refine AWp.block ?_
      refine AWp.loopR (α := Nat × List UInt8 × Nat) [10, 12, 70, 71, 72, 73, 74, 75, 76, 77, 78, 79, 80, 81] (fun x_ => [(70, i64 (x_.1)), (10, .sl 8 (x_.2.2) 0 (x_.2.1).length 1)]) (fun x_ => [(8, .row (cl bc (x_.2.1)) 1 (x_.2.2))]) (fun x_ => (x_.1) ≤ 6 ∧ (x_.2.1) = ((h.nums c0 c1 c2 c3).take (x_.1)).flatMap two) (fun x_ => 6 - (x_.1)) (0, [], 0) ?_ (Back.mk' (HasT.cons (HasT.cons HasT.nil)) (HasH.cons HasH.nil)) ?_
      ·
       exact ⟨by decide, rfl⟩
      ·
       rintro ⟨j, acc, v⟩ hI13
       change j ≤ 6 ∧ acc = ((h.nums c0 c1 c2 c3).take j).flatMap two at hI13
       obtain ⟨hj, hacc⟩ := hI13
       refine AWp.as (s' := AS.over _ [10, 12, 70, 71, 72, 73, 74, 75, 76, 77, 78, 79, 80, 81] [(70, i64 j), (10, .sl 8 v 0 acc.length 1)] [(8, .row (cl bc acc) 1 v)]) rfl ?_
       have hal : acc.length ≤ 1000 := by rw [hacc, two_len, List.length_take]; omega
       refine AWp.seq ?_
       refine AWp.region ?_
       refine AOps.dec rfl rfl (q_lss) (fun h13_0 => ?_) (fun h13_0 => ?_)
       ·
        refine AOps.nil ?_
        refine AWp.seq ?_
        refine AWp.cond_t rfl ?_
        refine AWp.skip ?_
        refine AWp.seq ?_
        refine AWp.block ?_
        refine AWp.seq ?_
        refine AWp.region ?_
        refine AOps.cons rfl rfl (q_ixagg) ?_
        refine AOps.cons rfl rfl (q_assign) ?_
        refine AOps.nil ?_
        refine AWp.region ?_
        refine AOps.cons rfl rfl (q_move) ?_
        refine AOps.cons rfl rfl (q_move) ?_
        refine AOps.cons rfl rfl (q_shr 8) ?_
        refine AOps.cons rfl rfl (q_conv_u8) ?_
        refine AOps.cons rfl rfl (q_move) ?_
        refine AOps.cons rfl rfl (q_conv_u8) ?_
        refine AOps.cons rfl rfl (q_bs 1606 bc [_, _] [(_, _), (_, _)]) ?_
        refine AOps.cons rfl rfl (q_app) ?_
        refine AOps.cons rfl rfl (q_assign) ?_
        refine AOps.nil ?_
        refine AWp.region ?_
        refine AOps.cons rfl rfl (q_add) ?_
        refine AOps.cons rfl rfl (q_move) ?_
        refine AOps.nil ?_
        refine ⟨(j + 1, _, _), ?_, Back.mk' (HasT.cons (HasT.cons HasT.nil)) (HasH.cons HasH.nil), ?_⟩
        ·
         try dsimp only
         exact ⟨by omega, by rw [two_step (by show j < 6; omega), hacc]; rfl⟩
        ·
         try dsimp only
         first | omega | (simp; omega)
       ·
        refine AOps.nil ?_
        refine AWp.seq ?_
        refine AWp.cond_f rfl ?_
        refine AWp.exit ?_
        refine AWp.seq ?_
        refine AWp.region ?_
        refine AOps.cons rfl rfl (q_move) ?_
        refine AOps.cons rfl rfl (q_assign) ?_
        refine AOps.cons rfl rfl (q_assign) ?_
        refine AOps.nil ?_
        refine AWp.ret ?_
        show Fin te Try.f26 _ _
        obtain rfl : j = 6 := by omega
        obtain rfl : acc = h.bytes c0 c1 c2 c3 := hacc
        rw [hB_yes hcan, hE_yes hcan]
        refine q_retH (0) [8] [_, _] [.sl 8 0 0 _ 1, _] [(8, .row (cl bc _) 1 0)] ?_
        rfl
theorem c_header_Encode (h : Hd) (c0 c1 c2 c3 : Int) : AC Try.prog 26 [.agg h.cells, .agg [i64 c0, i64 c1, i64 c2, i64 c3]] emp (Ret (.tup [.fz 0 (hB h c0 c1 c2 c3).length (cl bc (hB h c0 c1 c2 c3)), i64 (hE h c0 c1 c2 c3)])) :=
  (co_header_Encode h c0 c1 c2 c3).fz 0 (fv_tup ⟨fv_row0 rfl .row (fun _ => rfl) (by decide) (fun _ => rfl), fv_ok rfl, trivial⟩)
def hnum (b : List UInt8) (j : Nat) : Int := ((b.getD (2 * j) default).toNat * 256 + (b.getD (2 * j + 1) default).toNat : Nat)
theorem num_lt (b : List UInt8) (j : Nat) : 0 ≤ hnum b j ∧ hnum b j ≤ 65535 := by
  unfold hnum
  have h0 := (b.getD (2 * j) default).toNat_lt
  have h1 := (b.getD (2 * j + 1) default).toNat_lt
  omega
def bitAt (f : Int) (k : Nat) : Bool := decide (f / 2 ^ k % 2 = 1)
def dE (b : List UInt8) : Int := if b.length < 12 then 20 else if hnum b 1 / 16 % 8 = 0 then 0 else 21
def dH (b : List UInt8) : Hd := if dE b = 0 then ⟨hnum b 0, bitAt (hnum b 1) 15, hnum b 1 / 2048 % 16, bitAt (hnum b 1) 10, bitAt (hnum b 1) 9, bitAt (hnum b 1) 8, bitAt (hnum b 1) 7, hnum b 1 % 16⟩ else ⟨0, false, 0, false, false, false, false, 0⟩
def dC (b : List UInt8) (j : Nat) : Int := if dE b = 0 then hnum b j else 0
theorem dE_short {b : List UInt8} (h : b.length < 12) : dE b = 20 := if_pos h
theorem dE_bits {b : List UInt8} (h : ¬ b.length < 12) (k : ¬ hnum b 1 / 16 % 8 = 0) : dE b = 21 := by rw [dE, if_neg h, if_neg k]
theorem dE_ok {b : List UInt8} (h : ¬ b.length < 12) (k : hnum b 1 / 16 % 8 = 0) : dE b = 0 := by rw [dE, if_neg h, if_pos k]
theorem and_mask (x m k : Nat) : x &&& (m * 2 ^ k) = (x / 2 ^ k &&& m) * 2 ^ k := by
  apply Nat.eq_of_testBit_eq
  intro i
  simp only [Nat.testBit_and, Nat.testBit_mul_two_pow, Nat.testBit_div_two_pow]
  by_cases h : k ≤ i
  · simp only [h, decide_true, Bool.true_and]
    rw [show i - k + k = i by omega]
  · simp [h]
theorem and_bit (f : Int) (h : 0 ≤ f) (k : Nat) {m : Int} (hm : m = 2 ^ k) : ((f.toNat &&& m.toNat : Nat) : Int) = f / 2 ^ k % 2 * 2 ^ k := by
  subst hm
  have e : ((2 : Int) ^ k).toNat = 1 * 2 ^ k := by
    have : (2 : Int) ^ k = ((2 ^ k : Nat) : Int) := by simp
    rw [this, Int.toNat_natCast, Nat.one_mul]
  rw [e, and_mask, Nat.and_one_is_mod]
  obtain ⟨f, rfl⟩ := Int.eq_ofNat_of_zero_le h
  simp
theorem dec_bit (f : Int) (h : 0 ≤ f) (k : Nat) {m : Int} (hm : m = 2 ^ k) : decide (¬ ((f.toNat &&& m.toNat : Nat) : Int) = 0) = bitAt f k := by
  rw [and_bit f h k hm, bitAt]
  have hp : (0 : Int) < 2 ^ k := Int.pow_pos (by decide)
  generalize f / 2 ^ k = y
  rcases (show y % 2 = 0 ∨ y % 2 = 1 by omega) with hz | hz
  · simp [hz]
  · have hne : ¬ (1 : Int) * 2 ^ k = 0 := by omega
    simp [hz]
    omega
theorem and_15 (f : Int) (h : 0 ≤ f) : ((f.toNat &&& (15 : Int).toNat : Nat) : Int) = f % 16 := by
  obtain ⟨f, rfl⟩ := Int.eq_ofNat_of_zero_le h
  have := Nat.and_two_pow_sub_one_eq_mod f 4
  simp at this ⊢
  omega
theorem and_7 (f : Int) (h : 0 ≤ f) : ((f.toNat &&& (7 : Int).toNat : Nat) : Int) = f % 8 := by
  obtain ⟨f, rfl⟩ := Int.eq_ofNat_of_zero_le h
  have := Nat.and_two_pow_sub_one_eq_mod f 3
  simp at this ⊢
  omega
theorem and_1 (f : Int) (h : 0 ≤ f) : ((f.toNat &&& (1 : Int).toNat : Nat) : Int) = f % 2 := by
  obtain ⟨f, rfl⟩ := Int.eq_ofNat_of_zero_le h
  have := Nat.and_two_pow_sub_one_eq_mod f 1
  simp at this ⊢
theorem and_112 (f : Int) (h : 0 ≤ f) : ((f.toNat &&& (112 : Int).toNat : Nat) : Int) = f / 16 % 8 * 16 := by
  obtain ⟨f, rfl⟩ := Int.eq_ofNat_of_zero_le h
  have e := and_mask f 7 4
  have := Nat.and_two_pow_sub_one_eq_mod (f / 16) 3
  simp at e this ⊢
  rw [e, this]
  omega
theorem list6 {ns : List Int} {b : List UInt8} (h : ns.length = 6) (k : ∀ j, j < 6 → ns.getD j default = hnum b j) : ns = [hnum b 0, hnum b 1, hnum b 2, hnum b 3, hnum b 4, hnum b 5] := by
  match ns, h, k with
  | [a0, a1, a2, a3, a4, a5], _, k =>
    have h0 := k 0 (by omega)
    have h1 := k 1 (by omega)
    have h2 := k 2 (by omega)
    have h3 := k 3 (by omega)
    have h4 := k 4 (by omega)
    have h5 := k 5 (by omega)
    simp at h0 h1 h2 h3 h4 h5
    rw [h0, h1, h2, h3, h4, h5]
theorem hns_step {ns : List Int} {b : List UInt8} {i : Nat} {v : Int} (hl : ns.length = 6) (hi : i < 6) (hI : ∀ k, k < i → ns.getD k default = hnum b k) (hv : v = hnum b i) : ∀ k, k < i + 1 → (ns.set i v).getD k default = hnum b k := by
  intro k hk
  rcases Nat.lt_or_ge k i with h | h
  · rw [← hI k h]
    simp [List.getD_eq_getElem?_getD, List.getElem?_set, show i ≠ k by omega]
  · obtain rfl : k = i := by omega
    simp [List.getD_eq_getElem?_getD, hl, hi, hv]
theorem dH_prog (n0 f : Int) (h : 0 ≤ f) : (⟨n0, bitAt f 15, f / 2048 % 16, bitAt f 10, bitAt f 9, bitAt f 8, bitAt f 7, f % 16⟩ : Hd) =
    ⟨n0, decide (¬ ((f.toNat &&& (32768 : Int).toNat : Nat) : Int) = 0), (((f / 2 ^ 11).toNat &&& (15 : Int).toNat : Nat) : Int), decide (¬ ((f.toNat &&& (1024 : Int).toNat : Nat) : Int) = 0), decide (¬ ((f.toNat &&& (512 : Int).toNat : Nat) : Int) = 0), decide (¬ ((f.toNat &&& (256 : Int).toNat : Nat) : Int) = 0), decide (¬ ((f.toNat &&& (128 : Int).toNat : Nat) : Int) = 0), ((f.toNat &&& (15 : Int).toNat : Nat) : Int)⟩ := by
  rw [dec_bit f h 15 (by decide), dec_bit f h 10 (by decide), dec_bit f h 9 (by decide), dec_bit f h 8 (by decide), dec_bit f h 7 (by decide), and_15 f h, and_15 (f / 2 ^ 11) (by omega)]
  simp
theorem bit_sh (f : Int) (h : 0 ≤ f) (k : Nat) : decide ((((f / 2 ^ k).toNat &&& (1 : Int).toNat : Nat) : Int) = 1) = bitAt f k := by
  rw [and_1 (f / 2 ^ k) (Int.ediv_nonneg h (Int.le_of_lt (Int.pow_pos (by decide)))), bitAt]
theorem dH_ref (n0 f : Int) (h : 0 ≤ f) : (⟨n0, bitAt f 15, f / 2048 % 16, bitAt f 10, bitAt f 9, bitAt f 8, bitAt f 7, f % 16⟩ : Hd) =
    ⟨n0, decide ((((f / 2 ^ 15).toNat &&& (1 : Int).toNat : Nat) : Int) = 1), (((f / 2 ^ 11).toNat &&& (15 : Int).toNat : Nat) : Int), decide ((((f / 2 ^ 10).toNat &&& (1 : Int).toNat : Nat) : Int) = 1), decide ((((f / 2 ^ 9).toNat &&& (1 : Int).toNat : Nat) : Int) = 1), decide ((((f / 2 ^ 8).toNat &&& (1 : Int).toNat : Nat) : Int) = 1), decide ((((f / 2 ^ 7).toNat &&& (1 : Int).toNat : Nat) : Int) = 1), ((f.toNat &&& (15 : Int).toNat : Nat) : Int)⟩ := by
  rw [bit_sh f h 15, bit_sh f h 10, bit_sh f h 9, bit_sh f h 8, bit_sh f h 7, and_15 f h, and_15 (f / 2 ^ 11) (by omega)]
  simp
theorem dH_ok {b : List UInt8} (h : dE b = 0) : dH b = ⟨hnum b 0, bitAt (hnum b 1) 15, hnum b 1 / 2048 % 16, bitAt (hnum b 1) 10, bitAt (hnum b 1) 9, bitAt (hnum b 1) 8, bitAt (hnum b 1) 7, hnum b 1 % 16⟩ := if_pos h
theorem dH_no {b : List UInt8} (h : ¬ dE b = 0) : dH b = ⟨0, false, 0, false, false, false, false, 0⟩ := if_neg h
theorem dC_ok {b : List UInt8} (h : dE b = 0) (j : Nat) : dC b j = hnum b j := if_pos h
theorem dC_no {b : List UInt8} (h : ¬ dE b = 0) (j : Nat) : dC b j = 0 := if_neg h
set_option maxRecDepth 20000 in
set_option maxHeartbeats 2000000 in
theorem c_header_Decode (b : List UInt8) (lv : Nat) (hl : b.length ≤ 140737488355328) : AC Try.prog 69 [.fz lv b.length (cl bc b)] emp (Ret (.tup [.agg (dH b).cells, .agg [i64 (dC b 2), i64 (dC b 3), i64 (dC b 4), i64 (dC b 5)], i64 (dE b)])) := by
 refine AC.intro te_ok (fn := Try.f69) ⟨Try.func69, rfl, rfl⟩ (Nat.le_of_ble_eq_true rfl) ?_
 refine AWp.seq ?_
 refine AWp.region ?_
 refine AOps.cons rfl rfl (q_alloc 100) ?_
 refine AOps.cons rfl rfl (q_alloc 101) ?_
 refine AOps.cons rfl rfl (q_assign) ?_
 refine AOps.nil ?_
 refine AWp.seq ?_
 refine AWp.seq ?_
 refine AWp.region ?_
 refine AOps.cons rfl rfl (q_move) ?_
 refine AOps.cons rfl rfl (q_len) ?_
 refine AOps.dec rfl rfl (q_lss) (fun h1_2 => ?_) (fun h1_2 => ?_)
 ·
  refine AOps.nil ?_
  refine AWp.cond_t rfl ?_
  refine AWp.seq ?_
  refine AWp.region ?_
  refine AOps.cons rfl rfl (q_build []) ?_
  refine AOps.cons rfl rfl (q_buildA ic [0, 0, 0, 0] []) ?_
  refine AOps.cons rfl rfl (q_store) ?_
  refine AOps.cons rfl rfl (q_store) ?_
  refine AOps.cons rfl rfl (q_assign) ?_
  refine AOps.nil ?_
  refine AWp.ret ?_
  show Fin te Try.f69 _ _
  have e := dE_short (b := b) (by omega)
  rw [dH_no (by omega), dC_no (by omega), dC_no (by omega), dC_no (by omega), dC_no (by omega), e]
  refine q_ret (0) [_, _, _] [_, _, _] ?_
  rfl
 ·
  refine AOps.nil ?_
  refine AWp.cond_f rfl ?_
  refine AWp.skip ?_
  refine AWp.seq ?_
  refine AWp.region ?_
  refine AOps.cons rfl rfl (q_alloc 400) ?_
  refine AOps.nil ?_
  refine AWp.seq ?_
  refine AWp.seq ?_
  refine AWp.region ?_
  refine AOps.cons rfl rfl (q_move) ?_
  refine AOps.nil ?_
  refine AWp.block ?_
  refine AWp.loopR (α := Nat × List Int) [6, 14, 15, 16, 17, 18, 19, 20, 21, 22, 23, 24, 25, 26, 27, 28, 29, 30, 31, 32, 33, 34] (fun x_ => [(14, i64 (x_.1))]) (fun x_ => [(400, .box (cl ic (x_.2)))]) (fun x_ => (x_.1) ≤ 6 ∧ (x_.2).length = 6 ∧ ∀ k, k < (x_.1) → (x_.2).getD k default = hnum b k) (fun x_ => 6 - (x_.1)) (0, [0, 0, 0, 0, 0, 0]) ?_ (Back.mk' (HasT.cons HasT.nil) (HasH.cons HasH.nil)) ?_
  ·
   exact ⟨by omega, rfl, fun k hk => by omega⟩
  ·
   rintro ⟨i, ns⟩ hI5
   change i ≤ 6 ∧ ns.length = 6 ∧ ∀ k, k < i → ns.getD k default = hnum b k at hI5
   obtain ⟨hi, hns, hI⟩ := hI5
   refine AWp.as (s' := AS.over _ [6, 14, 15, 16, 17, 18, 19, 20, 21, 22, 23, 24, 25, 26, 27, 28, 29, 30, 31, 32, 33, 34] [(14, i64 i)] [(400, .box (cl ic ns))]) rfl ?_
   refine AWp.seq ?_
   refine AWp.region ?_
   refine AOps.dec rfl rfl (q_lss) (fun h5_0 => ?_) (fun h5_0 => ?_)
   ·
    refine AOps.nil ?_
    refine AWp.seq ?_
    refine AWp.cond_t rfl ?_
    refine AWp.skip ?_
    refine AWp.seq ?_
    refine AWp.block ?_
    refine AWp.seq ?_
    refine AWp.region ?_
    have h0 := (b.getD (2 * (i : Int)).toNat default).toNat_lt
    have h1 := (b.getD (2 * (i : Int) + 1).toNat default).toNat_lt
    refine AOps.cons rfl rfl (q_move) ?_
    refine AOps.cons rfl rfl (q_assign) ?_
    refine AOps.nil ?_
    refine AWp.draws [⟨0, [6], [], some 17, _, []⟩,
        ⟨1, [0], [], some 18, _, []⟩,
        ⟨2, [6], [], some 19, _, []⟩,
        ⟨3, [19], [], some 20, _, []⟩,
        ⟨4, [18, 20], [], some 21, _, []⟩,
        ⟨5, [21], [], some 22, _, []⟩,
        ⟨6, [22], [], some 23, _, []⟩,
        ⟨7, [23], [], some 24, _, []⟩,
        ⟨8, [0], [], some 25, _, []⟩,
        ⟨9, [6], [], some 26, _, []⟩,
        ⟨10, [26], [], some 27, _, []⟩,
        ⟨11, [27], [], some 28, _, []⟩,
        ⟨12, [25, 28], [], some 29, _, []⟩,
        ⟨13, [29], [], some 30, _, []⟩,
        ⟨14, [30], [], some 31, _, []⟩,
        ⟨15, [24, 31], [], some 32, _, []⟩,
        ⟨16, [5, 17], [400], some 33, _, []⟩,
        ⟨17, [32, 33], [400], none, _, [(400, _)]⟩]
     [⟨0, [6], [], some 17, .any, []⟩,
         ⟨1, [0], [], some 18, .any, []⟩,
         ⟨2, [6], [], some 19, .any, []⟩,
         ⟨3, [19], [], some 20, .any, []⟩,
         ⟨4, [18, 20], [], some 21, .any, []⟩,
         ⟨5, [21], [], some 22, .any, []⟩,
         ⟨6, [22], [], some 23, .any, []⟩,
         ⟨7, [23], [], some 24, .any, []⟩,
         ⟨8, [0], [], some 25, .any, []⟩,
         ⟨9, [6], [], some 26, .any, []⟩,
         ⟨10, [26], [], some 27, .any, []⟩,
         ⟨11, [27], [], some 28, .any, []⟩,
         ⟨12, [25, 28], [], some 29, .any, []⟩,
         ⟨13, [29], [], some 30, .any, []⟩,
         ⟨14, [30], [], some 31, .any, []⟩,
         ⟨15, [24, 31], [], some 32, .any, []⟩,
         ⟨16, [5, 17], [400], some 33, .any, []⟩,
         ⟨17, [32, 33], [400], none, .any, [(400, .box [])]⟩]
     mixed_ok rfl (by kernel_rfl) ⟨DS.ok_over fun s0 => OpAt.go rfl rfl (q_move),
         DS.ok_over fun s0 => OpAt.go rfl rfl (q_move),
         DS.ok_over fun s0 => OpAt.go rfl rfl (q_move),
         DS.ok_over fun s0 => OpAt.go rfl rfl (q_mul),
         DS.ok_over fun s0 => OpAt.go rfl rfl (q_ix),
         DS.ok_over fun s0 => OpAt.go rfl rfl (q_load),
         DS.ok_over fun s0 => OpAt.go rfl rfl (q_conv_8i),
         DS.ok_over fun s0 => OpAt.go rfl rfl (q_shl 8),
         DS.ok_over fun s0 => OpAt.go rfl rfl (q_move),
         DS.ok_over fun s0 => OpAt.go rfl rfl (q_move),
         DS.ok_over fun s0 => OpAt.go rfl rfl (q_mul),
         DS.ok_over fun s0 => OpAt.go rfl rfl (q_add),
         DS.ok_over fun s0 => OpAt.go rfl rfl (q_ix),
         DS.ok_over fun s0 => OpAt.go rfl rfl (q_load),
         DS.ok_over fun s0 => OpAt.go rfl rfl (q_conv_8i),
         DS.ok_over fun s0 => OpAt.go rfl rfl (q_or_bytes),
         DS.ok_over fun s0 => OpAt.go rfl rfl (q_ixa),
         DS.ok_over fun s0 => OpAt.go rfl rfl (q_store), trivial⟩ ?_
    dsimp only [final, DS.upd, AS.seto]
    refine AWp.region ?_
    refine AOps.cons rfl rfl (q_add) ?_
    refine AOps.cons rfl rfl (q_move) ?_
    refine AOps.nil ?_
    refine ⟨(i + 1, _), ?_, Back.mk' (HasT.cons HasT.nil) (HasH.cons HasH.nil), ?_⟩
    ·
     try dsimp only
     exact ⟨by omega, by simp [hns], hns_step hns (by omega) hI (by simp only [hnum]; rfl)⟩
    ·
     try dsimp only
     first | omega | (simp; omega)
   ·
    refine AOps.nil ?_
    refine AWp.seq ?_
    refine AWp.cond_f rfl ?_
    refine AWp.exit ?_
    refine AWp.seq ?_
    refine AWp.region ?_
    obtain rfl : i = 6 := by omega
    obtain rfl := list6 hns hI
    have hf := num_lt b 1
    refine AOps.cons rfl rfl (q_ixa) ?_
    refine AOps.cons rfl rfl (q_load) ?_
    refine AOps.cons rfl rfl (q_assign) ?_
    refine AOps.nil ?_
    refine AWp.seq ?_
    refine AWp.seq ?_
    refine AWp.region ?_
    refine AOps.cons rfl rfl (q_move) ?_
    refine AOps.cons rfl rfl (q_and) ?_
    refine AOps.dec rfl rfl (q_neq) (fun h10_2 => ?_) (fun h10_2 => ?_)
    ·
     refine AOps.nil ?_
     refine AWp.cond_t rfl ?_
     refine AWp.seq ?_
     refine AWp.region ?_
     refine AOps.cons rfl rfl (q_build []) ?_
     refine AOps.cons rfl rfl (q_buildA ic [0, 0, 0, 0] []) ?_
     refine AOps.cons rfl rfl (q_store) ?_
     refine AOps.cons rfl rfl (q_store) ?_
     refine AOps.cons rfl rfl (q_assign) ?_
     refine AOps.nil ?_
     refine AWp.ret ?_
     show Fin te Try.f69 _ _
     have e := dE_bits (b := b) (by omega) (by rw [and_112 _ hf.1] at h10_2; omega)
     rw [dH_no (by omega), dC_no (by omega), dC_no (by omega), dC_no (by omega), dC_no (by omega), e]
     refine q_ret (0) [_, _, _] [_, _, _] ?_
     rfl
    ·
     refine AOps.nil ?_
     refine AWp.cond_f rfl ?_
     refine AWp.skip ?_
     refine AWp.seq ?_
     refine AWp.region ?_
     refine AOps.cons rfl rfl (q_ixa) ?_
     refine AOps.cons rfl rfl (q_load) ?_
     refine AOps.cons rfl rfl (q_move) ?_
     refine AOps.cons rfl rfl (q_and) ?_
     refine AOps.cons rfl rfl (q_neq) ?_
     refine AOps.cons rfl rfl (q_move) ?_
     refine AOps.cons rfl rfl (q_shr 11) ?_
     refine AOps.cons rfl rfl (q_and) ?_
     refine AOps.cons rfl rfl (q_move) ?_
     refine AOps.cons rfl rfl (q_and) ?_
     refine AOps.cons rfl rfl (q_neq) ?_
     refine AOps.cons rfl rfl (q_move) ?_
     refine AOps.cons rfl rfl (q_and) ?_
     refine AOps.cons rfl rfl (q_neq) ?_
     refine AOps.cons rfl rfl (q_move) ?_
     refine AOps.cons rfl rfl (q_and) ?_
     refine AOps.cons rfl rfl (q_neq) ?_
     refine AOps.cons rfl rfl (q_move) ?_
     refine AOps.cons rfl rfl (q_and) ?_
     refine AOps.cons rfl rfl (q_neq) ?_
     refine AOps.cons rfl rfl (q_move) ?_
     refine AOps.cons rfl rfl (q_and) ?_
     refine AOps.cons rfl rfl (q_build [(_, _), (_, _), (_, _), (_, _), (_, _), (_, _), (_, _), (_, _)]) ?_
     refine AOps.cons rfl rfl (q_alloc 1323) ?_
     refine AOps.cons rfl rfl (q_store) ?_
     refine AOps.nil ?_
     refine AWp.seq ?_
     refine AWp.draws [⟨0, [8], [1323], some 65, _, []⟩,
         ⟨1, [5], [400], some 66, _, []⟩,
         ⟨2, [66], [400], some 67, _, []⟩,
         ⟨3, [67], [400], some 68, _, []⟩,
         ⟨4, [2, 65], [100], none, _, [(100, _)]⟩,
         ⟨5, [3, 68], [101], none, _, [(101, _)]⟩,
         ⟨6, [], [], some 4, _, []⟩]
      [⟨0, [8], [1323], some 65, .any, []⟩,
          ⟨1, [5], [400], some 66, .any, []⟩,
          ⟨2, [66], [400], some 67, .any, []⟩,
          ⟨3, [67], [400], some 68, .any, []⟩,
          ⟨4, [2, 65], [100], none, .any, [(100, .box [])]⟩,
          ⟨5, [3, 68], [101], none, .any, [(101, .box [])]⟩,
          ⟨6, [], [], some 4, .any, []⟩]
      mixed_ok rfl (by kernel_rfl) ⟨DS.ok_over fun s0 => OpAt.go rfl rfl (q_load),
          DS.ok_over fun s0 => OpAt.go rfl rfl (q_sla),
          DS.ok_over fun s0 => OpAt.go rfl rfl (q_arrPtr),
          DS.ok_over fun s0 => OpAt.go rfl rfl (q_load),
          DS.ok_over fun s0 => OpAt.go rfl rfl (q_store),
          DS.ok_over fun s0 => OpAt.go rfl rfl (q_store),
          DS.ok_over fun s0 => OpAt.go rfl rfl (q_assign), trivial⟩ ?_
     dsimp only [final, DS.upd, AS.seto]
     refine AWp.ret ?_
     show Fin te Try.f69 _ _
     have e := dE_ok (b := b) (by omega) (by rw [and_112 _ hf.1] at h10_2; omega)
     rw [dH_ok e, dC_ok e, dC_ok e, dC_ok e, dC_ok e, e]
     refine q_ret (0) [_, _, _] [_, _, _] ?_
     rw [dH_prog _ _ hf.1]; rfl
set_option maxRecDepth 20000 in
set_option maxHeartbeats 2000000 in
theorem c_ciceroneref02_Decode (b : List UInt8) (lv : Nat) (hl : b.length ≤ 140737488355328) : AC Try.prog 40 [.fz lv b.length (cl bc b)] emp (Ret (.tup [.agg (dH b).cells, .agg [i64 (dC b 2), i64 (dC b 3), i64 (dC b 4), i64 (dC b 5)], i64 (dE b)])) := by
 refine AC.intro te_ok (fn := Try.f40) ⟨Try.func40, rfl, rfl⟩ (Nat.le_of_ble_eq_true rfl) ?_
 refine AWp.seq ?_
 refine AWp.region ?_
 refine AOps.cons rfl rfl (q_alloc 100) ?_
 refine AOps.cons rfl rfl (q_alloc 101) ?_
 refine AOps.cons rfl rfl (q_assign) ?_
 refine AOps.nil ?_
 refine AWp.seq ?_
 refine AWp.seq ?_
 refine AWp.region ?_
 refine AOps.cons rfl rfl (q_move) ?_
 refine AOps.cons rfl rfl (q_len) ?_
 refine AOps.dec rfl rfl (q_lss) (fun h1_2 => ?_) (fun h1_2 => ?_)
 ·
  refine AOps.nil ?_
  refine AWp.cond_t rfl ?_
  refine AWp.seq ?_
  refine AWp.region ?_
  refine AOps.cons rfl rfl (q_build []) ?_
  refine AOps.cons rfl rfl (q_buildA ic [0, 0, 0, 0] []) ?_
  refine AOps.cons rfl rfl (q_store) ?_
  refine AOps.cons rfl rfl (q_store) ?_
  refine AOps.cons rfl rfl (q_assign) ?_
  refine AOps.nil ?_
  refine AWp.ret ?_
  show Fin te Try.f40 _ _
  have e := dE_short (b := b) (by omega)
  rw [dH_no (by omega), dC_no (by omega), dC_no (by omega), dC_no (by omega), dC_no (by omega), e]
  refine q_ret (0) [_, _, _] [_, _, _] ?_
  rfl
 ·
  refine AOps.nil ?_
  refine AWp.cond_f rfl ?_
  refine AWp.skip ?_
  refine AWp.seq ?_
  refine AWp.region ?_
  refine AOps.cons rfl rfl (q_alloc 400) ?_
  refine AOps.nil ?_
  refine AWp.seq ?_
  refine AWp.seq ?_
  refine AWp.region ?_
  refine AOps.cons rfl rfl (q_move) ?_
  refine AOps.nil ?_
  refine AWp.block ?_
  refine AWp.loopR (α := Nat × List Int) [6, 14, 15, 16, 17, 18, 19, 20, 21, 22, 23, 24, 25, 26, 27, 28, 29, 30, 31, 32, 33, 34] (fun x_ => [(14, i64 (x_.1))]) (fun x_ => [(400, .box (cl ic (x_.2)))]) (fun x_ => (x_.1) ≤ 6 ∧ (x_.2).length = 6 ∧ ∀ k, k < (x_.1) → (x_.2).getD k default = hnum b k) (fun x_ => 6 - (x_.1)) (0, [0, 0, 0, 0, 0, 0]) ?_ (Back.mk' (HasT.cons HasT.nil) (HasH.cons HasH.nil)) ?_
  ·
   exact ⟨by omega, rfl, fun k hk => by omega⟩
  ·
   rintro ⟨i, ns⟩ hI5
   change i ≤ 6 ∧ ns.length = 6 ∧ ∀ k, k < i → ns.getD k default = hnum b k at hI5
   obtain ⟨hi, hns, hI⟩ := hI5
   refine AWp.as (s' := AS.over _ [6, 14, 15, 16, 17, 18, 19, 20, 21, 22, 23, 24, 25, 26, 27, 28, 29, 30, 31, 32, 33, 34] [(14, i64 i)] [(400, .box (cl ic ns))]) rfl ?_
   refine AWp.seq ?_
   refine AWp.region ?_
   refine AOps.dec rfl rfl (q_lss) (fun h5_0 => ?_) (fun h5_0 => ?_)
   ·
    refine AOps.nil ?_
    refine AWp.seq ?_
    refine AWp.cond_t rfl ?_
    refine AWp.skip ?_
    refine AWp.seq ?_
    refine AWp.block ?_
    refine AWp.seq ?_
    refine AWp.region ?_
    have h0 := (b.getD (2 * (i : Int)).toNat default).toNat_lt
    have h1 := (b.getD (2 * (i : Int) + 1).toNat default).toNat_lt
    refine AOps.cons rfl rfl (q_move) ?_
    refine AOps.cons rfl rfl (q_assign) ?_
    refine AOps.nil ?_
    refine AWp.draws [⟨0, [6], [], some 17, _, []⟩,
        ⟨1, [0], [], some 18, _, []⟩,
        ⟨2, [6], [], some 19, _, []⟩,
        ⟨3, [19], [], some 20, _, []⟩,
        ⟨4, [18, 20], [], some 21, _, []⟩,
        ⟨5, [21], [], some 22, _, []⟩,
        ⟨6, [22], [], some 23, _, []⟩,
        ⟨7, [23], [], some 24, _, []⟩,
        ⟨8, [0], [], some 25, _, []⟩,
        ⟨9, [6], [], some 26, _, []⟩,
        ⟨10, [26], [], some 27, _, []⟩,
        ⟨11, [27], [], some 28, _, []⟩,
        ⟨12, [25, 28], [], some 29, _, []⟩,
        ⟨13, [29], [], some 30, _, []⟩,
        ⟨14, [30], [], some 31, _, []⟩,
        ⟨15, [24, 31], [], some 32, _, []⟩,
        ⟨16, [5, 17], [400], some 33, _, []⟩,
        ⟨17, [32, 33], [400], none, _, [(400, _)]⟩]
     [⟨0, [6], [], some 17, .any, []⟩,
         ⟨1, [0], [], some 18, .any, []⟩,
         ⟨2, [6], [], some 19, .any, []⟩,
         ⟨3, [19], [], some 20, .any, []⟩,
         ⟨4, [18, 20], [], some 21, .any, []⟩,
         ⟨5, [21], [], some 22, .any, []⟩,
         ⟨6, [22], [], some 23, .any, []⟩,
         ⟨7, [23], [], some 24, .any, []⟩,
         ⟨8, [0], [], some 25, .any, []⟩,
         ⟨9, [6], [], some 26, .any, []⟩,
         ⟨10, [26], [], some 27, .any, []⟩,
         ⟨11, [27], [], some 28, .any, []⟩,
         ⟨12, [25, 28], [], some 29, .any, []⟩,
         ⟨13, [29], [], some 30, .any, []⟩,
         ⟨14, [30], [], some 31, .any, []⟩,
         ⟨15, [24, 31], [], some 32, .any, []⟩,
         ⟨16, [5, 17], [400], some 33, .any, []⟩,
         ⟨17, [32, 33], [400], none, .any, [(400, .box [])]⟩]
     mixed_ok rfl (by kernel_rfl) ⟨DS.ok_over fun s0 => OpAt.go rfl rfl (q_move),
         DS.ok_over fun s0 => OpAt.go rfl rfl (q_move),
         DS.ok_over fun s0 => OpAt.go rfl rfl (q_move),
         DS.ok_over fun s0 => OpAt.go rfl rfl (q_mul),
         DS.ok_over fun s0 => OpAt.go rfl rfl (q_ix),
         DS.ok_over fun s0 => OpAt.go rfl rfl (q_load),
         DS.ok_over fun s0 => OpAt.go rfl rfl (q_conv_8i),
         DS.ok_over fun s0 => OpAt.go rfl rfl (q_mul),
         DS.ok_over fun s0 => OpAt.go rfl rfl (q_move),
         DS.ok_over fun s0 => OpAt.go rfl rfl (q_move),
         DS.ok_over fun s0 => OpAt.go rfl rfl (q_mul),
         DS.ok_over fun s0 => OpAt.go rfl rfl (q_add),
         DS.ok_over fun s0 => OpAt.go rfl rfl (q_ix),
         DS.ok_over fun s0 => OpAt.go rfl rfl (q_load),
         DS.ok_over fun s0 => OpAt.go rfl rfl (q_conv_8i),
         DS.ok_over fun s0 => OpAt.go rfl rfl (q_add),
         DS.ok_over fun s0 => OpAt.go rfl rfl (q_ixa),
         DS.ok_over fun s0 => OpAt.go rfl rfl (q_store), trivial⟩ ?_
    dsimp only [final, DS.upd, AS.seto]
    refine AWp.region ?_
    refine AOps.cons rfl rfl (q_add) ?_
    refine AOps.cons rfl rfl (q_move) ?_
    refine AOps.nil ?_
    refine ⟨(i + 1, _), ?_, Back.mk' (HasT.cons HasT.nil) (HasH.cons HasH.nil), ?_⟩
    ·
     try dsimp only
     exact ⟨by omega, by simp [hns], hns_step hns (by omega) hI (by simp only [hnum]; norm_cast)⟩
    ·
     try dsimp only
     first | omega | (simp; omega)
   ·
    refine AOps.nil ?_
    refine AWp.seq ?_
    refine AWp.cond_f rfl ?_
    refine AWp.exit ?_
    refine AWp.seq ?_
    refine AWp.region ?_
    obtain rfl : i = 6 := by omega
    obtain rfl := list6 hns hI
    have hf := num_lt b 1
    refine AOps.cons rfl rfl (q_ixa) ?_
    refine AOps.cons rfl rfl (q_load) ?_
    refine AOps.cons rfl rfl (q_assign) ?_
    refine AOps.nil ?_
    refine AWp.seq ?_
    refine AWp.seq ?_
    refine AWp.region ?_
    refine AOps.cons rfl rfl (q_move) ?_
    refine AOps.cons rfl rfl (q_shr 4) ?_
    refine AOps.cons rfl rfl (q_and) ?_
    refine AOps.dec rfl rfl (q_neq) (fun h10_3 => ?_) (fun h10_3 => ?_)
    ·
     refine AOps.nil ?_
     refine AWp.cond_t rfl ?_
     refine AWp.seq ?_
     refine AWp.region ?_
     refine AOps.cons rfl rfl (q_build []) ?_
     refine AOps.cons rfl rfl (q_buildA ic [0, 0, 0, 0] []) ?_
     refine AOps.cons rfl rfl (q_store) ?_
     refine AOps.cons rfl rfl (q_store) ?_
     refine AOps.cons rfl rfl (q_assign) ?_
     refine AOps.nil ?_
     refine AWp.ret ?_
     show Fin te Try.f40 _ _
     have e := dE_bits (b := b) (by omega) (by rw [and_7 _ (by omega)] at h10_3; omega)
     rw [dH_no (by omega), dC_no (by omega), dC_no (by omega), dC_no (by omega), dC_no (by omega), e]
     refine q_ret (0) [_, _, _] [_, _, _] ?_
     rfl
    ·
     refine AOps.nil ?_
     refine AWp.cond_f rfl ?_
     refine AWp.skip ?_
     refine AWp.seq ?_
     refine AWp.region ?_
     refine AOps.cons rfl rfl (q_ixa) ?_
     refine AOps.cons rfl rfl (q_load) ?_
     refine AOps.cons rfl rfl (q_move) ?_
     refine AOps.cons rfl rfl (q_shr 15) ?_
     refine AOps.cons rfl rfl (q_and) ?_
     refine AOps.cons rfl rfl (q_eql) ?_
     refine AOps.cons rfl rfl (q_move) ?_
     refine AOps.cons rfl rfl (q_shr 11) ?_
     refine AOps.cons rfl rfl (q_and) ?_
     refine AOps.cons rfl rfl (q_move) ?_
     refine AOps.cons rfl rfl (q_shr 10) ?_
     refine AOps.cons rfl rfl (q_and) ?_
     refine AOps.cons rfl rfl (q_eql) ?_
     refine AOps.cons rfl rfl (q_move) ?_
     refine AOps.cons rfl rfl (q_shr 9) ?_
     refine AOps.cons rfl rfl (q_and) ?_
     refine AOps.cons rfl rfl (q_eql) ?_
     refine AOps.cons rfl rfl (q_move) ?_
     refine AOps.cons rfl rfl (q_shr 8) ?_
     refine AOps.cons rfl rfl (q_and) ?_
     refine AOps.cons rfl rfl (q_eql) ?_
     refine AOps.cons rfl rfl (q_move) ?_
     refine AOps.cons rfl rfl (q_shr 7) ?_
     refine AOps.cons rfl rfl (q_and) ?_
     refine AOps.cons rfl rfl (q_eql) ?_
     refine AOps.cons rfl rfl (q_move) ?_
     refine AOps.cons rfl rfl (q_and) ?_
     refine AOps.cons rfl rfl (q_build [(_, _), (_, _), (_, _), (_, _), (_, _), (_, _), (_, _), (_, _)]) ?_
     refine AOps.cons rfl rfl (q_alloc 1328) ?_
     refine AOps.cons rfl rfl (q_store) ?_
     refine AOps.nil ?_
     refine AWp.seq ?_
     refine AWp.draws [⟨0, [8], [1328], some 71, _, []⟩,
         ⟨1, [5], [400], some 72, _, []⟩,
         ⟨2, [72], [400], some 73, _, []⟩,
         ⟨3, [5], [400], some 74, _, []⟩,
         ⟨4, [74], [400], some 75, _, []⟩,
         ⟨5, [5], [400], some 76, _, []⟩,
         ⟨6, [76], [400], some 77, _, []⟩,
         ⟨7, [5], [400], some 78, _, []⟩,
         ⟨8, [78], [400], some 79, _, []⟩,
         ⟨9, [73, 75, 77, 79], [], some 80, _, []⟩,
         ⟨10, [2, 71], [100], none, _, [(100, _)]⟩,
         ⟨11, [3, 80], [101], none, _, [(101, _)]⟩,
         ⟨12, [], [], some 4, _, []⟩]
      [⟨0, [8], [1328], some 71, .any, []⟩,
          ⟨1, [5], [400], some 72, .any, []⟩,
          ⟨2, [72], [400], some 73, .any, []⟩,
          ⟨3, [5], [400], some 74, .any, []⟩,
          ⟨4, [74], [400], some 75, .any, []⟩,
          ⟨5, [5], [400], some 76, .any, []⟩,
          ⟨6, [76], [400], some 77, .any, []⟩,
          ⟨7, [5], [400], some 78, .any, []⟩,
          ⟨8, [78], [400], some 79, .any, []⟩,
          ⟨9, [73, 75, 77, 79], [], some 80, .any, []⟩,
          ⟨10, [2, 71], [100], none, .any, [(100, .box [])]⟩,
          ⟨11, [3, 80], [101], none, .any, [(101, .box [])]⟩,
          ⟨12, [], [], some 4, .any, []⟩]
      mixed_ok rfl (by kernel_rfl) ⟨DS.ok_over fun s0 => OpAt.go rfl rfl (q_load),
          DS.ok_over fun s0 => OpAt.go rfl rfl (q_ixa),
          DS.ok_over fun s0 => OpAt.go rfl rfl (q_load),
          DS.ok_over fun s0 => OpAt.go rfl rfl (q_ixa),
          DS.ok_over fun s0 => OpAt.go rfl rfl (q_load),
          DS.ok_over fun s0 => OpAt.go rfl rfl (q_ixa),
          DS.ok_over fun s0 => OpAt.go rfl rfl (q_load),
          DS.ok_over fun s0 => OpAt.go rfl rfl (q_ixa),
          DS.ok_over fun s0 => OpAt.go rfl rfl (q_load),
          DS.ok_over fun s0 => OpAt.go rfl rfl (q_buildA ic [_, _, _, _] [(_, _), (_, _), (_, _), (_, _)]),
          DS.ok_over fun s0 => OpAt.go rfl rfl (q_store),
          DS.ok_over fun s0 => OpAt.go rfl rfl (q_store),
          DS.ok_over fun s0 => OpAt.go rfl rfl (q_assign), trivial⟩ ?_
     dsimp only [final, DS.upd, AS.seto]
     refine AWp.ret ?_
     show Fin te Try.f40 _ _
     have e := dE_ok (b := b) (by omega) (by rw [and_7 _ (by omega)] at h10_3; omega)
     rw [dH_ok e, dC_ok e, dC_ok e, dC_ok e, dC_ok e, e]
     refine q_ret (0) [_, _, _] [_, _, _] ?_
     rw [dH_ref _ _ hf.1]; rfl
end Go.Proofs.Ytkfccjbihcbmiaa.Fw


set_option linter.unusedVariables false
set_option linter.unusedSimpArgs false
namespace Go.Proofs.Ytkfccjbihcbmiaa.Fw
open Go.RowKit
def toHd (h : Hdr) : Hd := ⟨h.id, h.resp, h.op, h.aa, h.tc, h.rd, h.ra, h.code⟩
def shB (n : Int) : Bool := decide (0 ≤ n) && decide (n ≤ 65535)
def badT (n : Int) : Bool := decide (n < 0) || decide (65536 ≤ n)
theorem badT_sh (n : Int) : badT n = !shB n := by
  unfold badT shB
  by_cases h1 : n < 0 <;> by_cases h2 : 65536 ≤ n <;> simp [h1, h2] <;> omega
def twoB (l : List Int) : Bool := !(l.any badT)
theorem twoB_two (a b : Int) : twoB [a, b] = (shB a && shB b) := by
  simp [twoB, badT_sh]
def qOk (q : Qu) : Bool := canN q.nm && twoB [q.ty, q.cs]
def rOk (r : Rr) : Bool := canN r.nm && twoB [r.ty, r.cs] && !decide (r.ttl < 0) && !decide (4294967296 ≤ r.ttl) && canS r.ty r.da
def Msg.rrs (m : Msg) : List Rr := m.an ++ m.au ++ m.ad
def hdO (m : Msg) : Prop := (toHd m.h).can m.qs.length m.an.length m.au.length m.ad.length
instance (m : Msg) : Decidable (hdO m) := by unfold hdO; infer_instance
def canM (m : Msg) : Bool := decide (hdO m) && !(m.qs.any fun q => !qOk q) && !(m.rrs.any fun r => !rOk r)
theorem any_nall {α : Type} {p : α → Bool} {l : List α} : (!(l.any fun x => !p x)) = l.all p := by
  induction l with
  | nil => rfl
  | cons a l ih => rw [List.any_cons, List.all_cons, ← ih, Bool.not_or, Bool.not_not]
theorem c_CanA (t : Int) (b : List UInt8) (lv : Nat) (h : b.length ≤ 140737488351232) : AC Try.prog 53 [i64 t, .fz lv b.length (cl bc b)] emp (Ret (tf (canS t b))) := by
  by_cases h6 : t = 6
  · subst h6; exact c_Can6 b lv h
  · rw [canS_ne h6]; exact c_rdata_Can t b lv h h6
theorem flatten_take_step {α : Type} [Inhabited α] {L : List (List α)} {i : Nat} (h : i < L.length) : (L.take (i + 1)).flatten = (L.take i).flatten ++ L.getD i default := by
  rw [take_step' h]; simp
theorem flatten_take_le {α : Type} (L : List (List α)) (i : Nat) : (L.take i).flatten.length ≤ L.flatten.length := by
  have : L.flatten = (L.take i).flatten ++ (L.drop i).flatten := by rw [← List.flatten_append, List.take_append_drop]
  rw [this, List.length_append]; omega
set_option maxRecDepth 20000 in
set_option maxHeartbeats 2000000 in
theorem c_Grow_rr (m : Nat) (h : m * 64 ≤ 140737488351232) : AC Try.prog 63 [.v (.slice none 0 0), i64 m] (hlook []) (RetH (.sl 8 0 0 0 5) [(8, .row (cl rrc []) 5 0)]) := by
 refine AC.intro te_ok (fn := Try.f63) ⟨Try.func63, rfl, rfl⟩ (Nat.le_of_ble_eq_true rfl) ?_
 refine AWp.seq ?_
 refine AWp.region ?_
 refine AOps.cons rfl rfl (q_assign) ?_
 refine AOps.nil ?_
 refine AWp.seq ?_
 refine AWp.seq ?_
 refine AWp.region ?_
 refine AOps.cons rfl rfl (q_move) ?_
 refine AOps.dec rfl rfl (q_lss) (fun h1_1 => ?_) (fun h1_1 => ?_)
 ·
  exfalso; omega
 ·
  refine AOps.nil ?_
  refine AWp.cond_f rfl ?_
  refine AWp.skip ?_
  refine AWp.seq ?_
  refine AWp.seq ?_
  refine AWp.region ?_
  refine AOps.cons rfl rfl (q_move) ?_
  refine AOps.cons rfl rfl (q_move) ?_
  refine AOps.cons rfl rfl (q_cap_nil) ?_
  refine AOps.cons rfl rfl (q_move) ?_
  refine AOps.cons rfl rfl (q_len) ?_
  refine AOps.cons rfl rfl (q_sub) ?_
  refine AOps.cons rfl rfl (q_sub) ?_
  refine AOps.cons rfl rfl (q_assign) ?_
  refine AOps.nil ?_
  refine AWp.seq ?_
  refine AWp.region ?_
  refine AOps.cons rfl rfl (q_move) ?_
  refine AOps.dec rfl rfl (q_gtr) (fun h4_1 => ?_) (fun h4_1 => ?_)
  ·
   refine AOps.nil ?_
   refine AWp.cond_t rfl ?_
   refine AWp.region ?_
   refine AOps.cons rfl rfl (q_move) ?_
   refine AOps.cons rfl rfl (q_move) ?_
   refine AOps.cons rfl rfl (q_cap_nil) ?_
   refine AOps.cons rfl rfl (q_sl_nil) ?_
   refine AOps.cons rfl rfl (q_move) ?_
   refine AOps.cons rfl rfl (q_app_make 8 m rrc (esz := 5)) ?_
   refine AOps.cons rfl rfl (q_move) ?_
   refine AOps.cons rfl rfl (q_len) ?_
   refine AOps.cons rfl rfl (q_sl) ?_
   refine AOps.cons rfl rfl (q_assign) ?_
   refine AOps.nil ?_
   refine AWp.seq ?_
   refine AWp.region ?_
   refine AOps.cons rfl rfl (q_move) ?_
   refine AOps.cons rfl rfl (q_assign) ?_
   refine AOps.nil ?_
   refine AWp.ret ?_
   show Fin te Try.f63 _ _
   refine q_retH (0) [] [_] [.sl 8 0 0 0 5] [(8, .row (cl rrc []) 5 0)] ?_
   rfl
  ·
   refine AOps.nil ?_
   refine AWp.cond_f rfl ?_
   refine AWp.skip ?_
   refine AWp.seq ?_
   refine AWp.region ?_
   refine AOps.cons rfl rfl (q_move) ?_
   refine AOps.cons rfl rfl (q_assign) ?_
   refine AOps.weak (Weak.niltmp 4 8 5 rrc) ?_
   refine AOps.nil ?_
   refine AWp.ret ?_
   show Fin te Try.f63 _ _
   refine q_retH (0) [] [_] [.sl 8 0 0 0 5] [(8, .row (cl rrc []) 5 0)] ?_
   rfl
set_option maxRecDepth 20000 in
set_option maxHeartbeats 2000000 in
theorem c_Concat_rr (L : List (List Rr)) (lv : Nat) (hL : L.length ≤ 1000) (h : L.flatten.length * 64 ≤ 140737488351232) : AC Try.prog 30 [.fz lv L.length (cl (lc 0 rrc) L)] emp (Ret (.fz 0 L.flatten.length (cl rrc L.flatten))) := by
 refine AC.intro te_ok (fn := Try.f30) ⟨Try.func30, rfl, rfl⟩ (Nat.le_of_ble_eq_true rfl) ?_
 refine AWp.seq ?_
 refine AWp.region ?_
 refine AOps.cons rfl rfl (q_assign) ?_
 refine AOps.nil ?_
 refine AWp.seq ?_
 refine AWp.region ?_
 refine AOps.cons rfl rfl (q_assign) ?_
 refine AOps.nil ?_
 refine AWp.seq ?_
 refine AWp.seq ?_
 refine AWp.region ?_
 refine AOps.cons rfl rfl (q_move) ?_
 refine AOps.cons rfl rfl (q_len) ?_
 refine AOps.cons rfl rfl (q_move) ?_
 refine AOps.nil ?_
 refine AWp.block ?_
 refine AWp.loopR (α := Nat) [3, 5, 11, 12, 13, 14, 15, 16, 17, 18, 19, 20, 21, 22] (fun i => [(11, i64 i), (3, i64 (L.take i).flatten.length)]) (fun i => []) (fun i => i ≤ L.length) (fun i => L.length - i) 0 ?_ (Back.mk' (HasT.cons (HasT.cons HasT.nil)) HasH.nil) ?_
 ·
  exact Nat.zero_le _
 ·
  rintro i hi
  have hle := flatten_take_le L i
  have hle2 := flatten_take_le L (i + 1)
  refine AWp.seq ?_
  refine AWp.region ?_
  refine AOps.dec rfl rfl (q_lss) (fun h3_0 => ?_) (fun h3_0 => ?_)
  ·
   refine AOps.nil ?_
   refine AWp.seq ?_
   refine AWp.cond_t rfl ?_
   refine AWp.skip ?_
   refine AWp.seq ?_
   refine AWp.block ?_
   refine AWp.seq ?_
   refine AWp.region ?_
   refine AOps.cons rfl rfl (q_ix) ?_
   refine AOps.cons rfl rfl (q_load) ?_
   refine AOps.cons rfl rfl (q_assign) ?_
   refine AOps.nil ?_
   refine AWp.seq ?_
   refine AWp.region ?_
   have hst := flatten_take_step (L := L) (i := i) (by omega)
   rw [hst, List.length_append] at hle2
   have hgl : (L[i]?.getD default).length = (L.getD i default).length := by rw [← List.getD_eq_getElem?_getD]
   have hgt : (L.getD (i : Int).toNat default).length = (L.getD i default).length := rfl
   refine AOps.cons rfl rfl (q_move) ?_
   refine AOps.cons rfl rfl (q_move) ?_
   refine AOps.cons rfl rfl (q_len) ?_
   refine AOps.cons rfl rfl (q_add) ?_
   refine AOps.cons rfl rfl (q_assign) ?_
   refine AOps.nil ?_
   refine AWp.seq ?_
   refine AWp.region ?_
   refine AOps.cons rfl rfl (q_move) ?_
   refine AOps.dec rfl rfl (q_lss) (fun h6_1 => ?_) (fun h6_1 => ?_)
   ·
    exfalso; omega
   ·
    refine AOps.nil ?_
    refine AWp.cond_f rfl ?_
    refine AWp.skip ?_
    refine AWp.region ?_
    refine AOps.cons rfl rfl (q_add) ?_
    refine AOps.cons rfl rfl (q_move) ?_
    refine AOps.nil ?_
    refine ⟨i + 1, ?_, Back.mk' (HasT.cons (HasT.cons HasT.nil (h1 := by exact i64_eq (by rw [flatten_take_step (by omega), List.length_append]; rfl)) )) HasH.nil, ?_⟩
    ·
     first | assumption | omega | decide | (simp; omega) | (simp [*]; done)
    ·
     first | omega | (simp; omega)
  ·
   refine AOps.nil ?_
   refine AWp.seq ?_
   refine AWp.cond_f rfl ?_
   refine AWp.exit ?_
   refine AWp.seq ?_
   refine AWp.region ?_
   obtain rfl : i = L.length := by omega
   rw [List.take_length]
   refine AOps.cons rfl rfl (q_move) ?_
   refine AOps.cons rfl rfl (q_callB (0) [] [(8, 10018)] [(_, _)] (hc := (c_Grow_rr L.flatten.length h))) ?_
   refine AOps.cons rfl rfl (q_assign) ?_
   refine AOps.nil ?_
   refine AWp.seq ?_
   refine AWp.seq ?_
   refine AWp.region ?_
   refine AOps.cons rfl rfl (q_move) ?_
   refine AOps.cons rfl rfl (q_len) ?_
   refine AOps.cons rfl rfl (q_move) ?_
   refine AOps.nil ?_
   refine AWp.block ?_
   refine AWp.loopR (α := Nat × List Rr × Nat) [6, 8, 27, 28, 29, 30, 31, 32, 33, 34] (fun x_ => [(27, i64 (x_.1)), (6, .sl 10018 (x_.2.2) 0 (x_.2.1).length 5)]) (fun x_ => [(10018, .row (cl rrc (x_.2.1)) 5 (x_.2.2))]) (fun x_ => (x_.1) ≤ L.length ∧ (x_.2.1) = (L.take (x_.1)).flatten) (fun x_ => L.length - (x_.1)) (0, [], 0) ?_ (Back.mk' (HasT.cons (HasT.cons HasT.nil)) (HasH.cons HasH.nil)) ?_
   ·
    exact ⟨Nat.zero_le _, rfl⟩
   ·
    rintro ⟨i, acc, v⟩ hI11
    change i ≤ L.length ∧ acc = (L.take i).flatten at hI11
    obtain ⟨hi, ha⟩ := hI11
    refine AWp.as (s' := AS.over _ [6, 8, 27, 28, 29, 30, 31, 32, 33, 34] [(27, i64 i), (6, .sl 10018 v 0 acc.length 5)] [(10018, .row (cl rrc acc) 5 v)]) rfl ?_
    have hle := flatten_take_le L i
    have hle2 := flatten_take_le L (i + 1)
    have hal := congrArg List.length ha
    refine AWp.seq ?_
    refine AWp.region ?_
    refine AOps.dec rfl rfl (q_lss) (fun h11_0 => ?_) (fun h11_0 => ?_)
    ·
     refine AOps.nil ?_
     refine AWp.seq ?_
     refine AWp.cond_t rfl ?_
     refine AWp.skip ?_
     refine AWp.seq ?_
     refine AWp.block ?_
     refine AWp.seq ?_
     refine AWp.region ?_
     refine AOps.cons rfl rfl (q_ix) ?_
     refine AOps.cons rfl rfl (q_load) ?_
     refine AOps.cons rfl rfl (q_assign) ?_
     refine AOps.nil ?_
     refine AWp.region ?_
     have hst := flatten_take_step (L := L) (i := i) (by omega)
     rw [hst, List.length_append] at hle2
     have hgl : (L[i]?.getD default).length = (L.getD i default).length := by rw [← List.getD_eq_getElem?_getD]
     have hgt : (L.getD (i : Int).toNat default).length = (L.getD i default).length := rfl
     refine AOps.cons rfl rfl (q_move) ?_
     refine AOps.cons rfl rfl (q_move) ?_
     refine AOps.cons rfl rfl (q_app) ?_
     refine AOps.cons rfl rfl (q_assign) ?_
     refine AOps.nil ?_
     refine AWp.region ?_
     refine AOps.cons rfl rfl (q_add) ?_
     refine AOps.cons rfl rfl (q_move) ?_
     refine AOps.nil ?_
     refine ⟨(i + 1, acc ++ L.getD i default, v + 1), ?_, Back.mk' (HasT.cons (HasT.cons HasT.nil)) (HasH.cons HasH.nil), ?_⟩
     ·
      try dsimp only
      exact ⟨by omega, by rw [ha, flatten_take_step (by omega)]⟩
     ·
      try dsimp only
      first | omega | (simp; omega)
    ·
     refine AOps.nil ?_
     refine AWp.seq ?_
     refine AWp.cond_f rfl ?_
     refine AWp.exit ?_
     refine AWp.seq ?_
     refine AWp.region ?_
     refine AOps.cons rfl rfl (q_move) ?_
     refine AOps.cons rfl rfl (q_assign) ?_
     refine AOps.nil ?_
     refine AWp.ret ?_
     show Fin te Try.f30 _ _
     obtain rfl : i = L.length := by omega
     rw [List.take_length] at ha
     subst ha
     refine q_ret (0) [_] [_] ?_
     rfl
set_option maxRecDepth 20000 in
set_option maxHeartbeats 2000000 in
theorem c_wire_two_1 (n : Int) : AC Try.prog 80 [i64 n] emp (Ret (tf (badT n))) := by
 refine AC.intro te_ok (fn := Try.f80) ⟨Try.func80, rfl, rfl⟩ (Nat.le_of_ble_eq_true rfl) ?_
 refine AWp.seq ?_
 refine AWp.region ?_
 refine AOps.cons rfl rfl (q_assign) ?_
 refine AOps.nil ?_
 refine AWp.seq ?_
 refine AWp.region ?_
 refine AOps.cons rfl rfl (q_move) ?_
 refine AOps.dec rfl rfl (q_lss) (fun h1_1 => ?_) (fun h1_1 => ?_)
 ·
  refine AOps.cons rfl rfl (q_move) ?_
  refine AOps.gskip rfl rfl rfl rfl rfl rfl rfl rfl ?_
  refine AOps.gskip rfl rfl rfl rfl rfl rfl rfl rfl ?_
  refine AOps.cons rfl rfl (q_pick) ?_
  refine AOps.cons rfl rfl (q_assign) ?_
  refine AOps.nil ?_
  refine AWp.ret ?_
  show Fin te Try.f80 _ _
  refine q_ret (0) [_] [_] ?_
  exact congrArg tf (by simp [badT, *])
 ·
  refine AOps.cons rfl rfl (q_move) ?_
  refine AOps.gcons rfl rfl rfl rfl rfl (q_move) ?_
  refine AOps.gcons rfl rfl rfl rfl rfl (q_geq) ?_
  refine AOps.cons rfl rfl (q_pick) ?_
  refine AOps.cons rfl rfl (q_assign) ?_
  refine AOps.nil ?_
  refine AWp.ret ?_
  show Fin te Try.f80 _ _
  refine q_ret (0) [_] [_] ?_
  exact congrArg tf (by simp [badT, *])
set_option maxRecDepth 20000 in
set_option maxHeartbeats 2000000 in
theorem c_wire_two (l : List Int) (lv : Nat) (hl : l.length ≤ 140737488351232) : AC Try.prog 51 [.fz lv l.length (cl ic l)] emp (Ret (tf (twoB l))) := by
 refine AC.intro te_ok (fn := Try.f51) ⟨Try.func51, rfl, rfl⟩ (Nat.le_of_ble_eq_true rfl) ?_
 refine AWp.seq ?_
 refine AWp.region ?_
 refine AOps.cons rfl rfl (q_assign) ?_
 refine AOps.nil ?_
 refine AWp.seq ?_
 refine AWp.region ?_
 refine AOps.cons rfl rfl (q_move) ?_
 refine AOps.cons rfl rfl (q_call (lv) (hc := (c_ContainsFunc_int l lv 0 (lv + 1) [] badT hl rfl (fun n _ => c_wire_two_1 n)))) ?_
 refine AOps.cons rfl rfl (q_not) ?_
 refine AOps.cons rfl rfl (q_assign) ?_
 refine AOps.nil ?_
 refine AWp.ret ?_
 show Fin te Try.f51 _ _
 refine q_ret (0) [_] [_] ?_
 rfl
set_option maxRecDepth 20000 in
set_option maxHeartbeats 2000000 in
theorem c_wire_Can_1 (q : Qu) (h : q.nm.length ≤ 140737488351232) : AC Try.prog 49 [.agg (quc q)] emp (Ret (tf (!qOk q))) := by
 refine AC.intro te_ok (fn := Try.f49) ⟨Try.func49, rfl, rfl⟩ (Nat.le_of_ble_eq_true rfl) ?_
 refine AWp.seq ?_
 refine AWp.region ?_
 refine AOps.cons rfl rfl (q_box 100) ?_
 refine AOps.cons rfl rfl (q_assign) ?_
 refine AOps.nil ?_
 refine AWp.seq ?_
 refine AWp.region ?_
 refine AOps.cons rfl rfl (q_fa) ?_
 refine AOps.cons rfl rfl (q_load) ?_
 refine AOps.bool rfl rfl (q_call (0) (hc := (c_name_Can q.nm (by omega)))) (fun h1_2 => ?_) (fun h1_2 => ?_)
 ·
  refine AOps.cons rfl rfl (q_not) ?_
  refine AOps.cons rfl rfl (q_move) ?_
  refine AOps.gcons rfl rfl rfl rfl rfl (q_fa) ?_
  refine AOps.gcons rfl rfl rfl rfl rfl (q_load) ?_
  refine AOps.gcons rfl rfl rfl rfl rfl (q_fa) ?_
  refine AOps.gcons rfl rfl rfl rfl rfl (q_load) ?_
  refine AOps.gcons rfl rfl rfl rfl rfl (q_bs 209 ic [_, _] [(_, _), (_, _)]) ?_
  refine AOps.gcons rfl rfl rfl rfl rfl (q_call (0) (hc := (c_wire_two [q.ty, q.cs] 1 (by simp)))) ?_
  refine AOps.gcons rfl rfl rfl rfl rfl (q_not) ?_
  refine AOps.cons rfl rfl (q_pick) ?_
  refine AOps.cons rfl rfl (q_assign) ?_
  refine AOps.nil ?_
  refine AWp.ret ?_
  show Fin te Try.f49 _ _
  refine q_ret (0) [_] [_] ?_
  exact congrArg tf (by simp [qOk, *])
 ·
  refine AOps.cons rfl rfl (q_not) ?_
  refine AOps.cons rfl rfl (q_move) ?_
  refine AOps.gskip rfl rfl rfl rfl rfl rfl rfl rfl ?_
  refine AOps.gskip rfl rfl rfl rfl rfl rfl rfl rfl ?_
  refine AOps.gskip rfl rfl rfl rfl rfl rfl rfl rfl ?_
  refine AOps.gskip rfl rfl rfl rfl rfl rfl rfl rfl ?_
  refine AOps.gskip rfl rfl rfl rfl rfl rfl rfl rfl ?_
  refine AOps.gskip rfl rfl rfl rfl rfl rfl rfl rfl ?_
  refine AOps.gskip rfl rfl rfl rfl rfl rfl rfl rfl ?_
  refine AOps.cons rfl rfl (q_pick) ?_
  refine AOps.cons rfl rfl (q_assign) ?_
  refine AOps.nil ?_
  refine AWp.ret ?_
  show Fin te Try.f49 _ _
  refine q_ret (0) [_] [_] ?_
  exact congrArg tf (by simp [qOk, *])
set_option maxRecDepth 20000 in
set_option maxHeartbeats 2000000 in
theorem c_wire_Can_2 (r : Rr) (h : r.nm.length ≤ 140737488351232) (hd : r.da.length ≤ 140737488351232) : AC Try.prog 52 [.agg (rrc r)] emp (Ret (tf (!rOk r))) := by
 refine AC.intro te_ok (fn := Try.f52) ⟨Try.func52, rfl, rfl⟩ (Nat.le_of_ble_eq_true rfl) ?_
 refine AWp.seq ?_
 refine AWp.region ?_
 refine AOps.cons rfl rfl (q_box 100) ?_
 refine AOps.cons rfl rfl (q_assign) ?_
 refine AOps.nil ?_
 refine AWp.seq ?_
 refine AWp.region ?_
 refine AOps.cons rfl rfl (q_fa) ?_
 refine AOps.cons rfl rfl (q_load) ?_
 refine AOps.bool rfl rfl (q_call (0) (hc := (c_name_Can r.nm (by omega)))) (fun h1_2 => ?_) (fun h1_2 => ?_)
 ·
  refine AOps.cons rfl rfl (q_not) ?_
  refine AOps.cons rfl rfl (q_move) ?_
  refine AOps.gcons rfl rfl rfl rfl rfl (q_fa) ?_
  refine AOps.gcons rfl rfl rfl rfl rfl (q_load) ?_
  refine AOps.gcons rfl rfl rfl rfl rfl (q_fa) ?_
  refine AOps.gcons rfl rfl rfl rfl rfl (q_load) ?_
  refine AOps.gcons rfl rfl rfl rfl rfl (q_bs 209 ic [_, _] [(_, _), (_, _)]) ?_
  refine AOps.gbool rfl rfl rfl rfl rfl (q_call (0) (hc := (c_wire_two [r.ty, r.cs] 1 (by simp)))) (fun h1_10 => ?_) (fun h1_10 => ?_)
  ·
   refine AOps.gcons rfl rfl rfl rfl rfl (q_not) ?_
   refine AOps.cons rfl rfl (q_pick) ?_
   refine AOps.cons rfl rfl (q_move) ?_
   refine AOps.gcons rfl rfl rfl rfl rfl (q_fa) ?_
   refine AOps.gcons rfl rfl rfl rfl rfl (q_load) ?_
   refine AOps.gdec rfl rfl rfl rfl rfl (q_lss) (fun h1_16 => ?_) (fun h1_16 => ?_)
   ·
    refine AOps.cons rfl rfl (q_pick) ?_
    refine AOps.cons rfl rfl (q_move) ?_
    refine AOps.gskip rfl rfl rfl rfl rfl rfl rfl rfl ?_
    refine AOps.gskip rfl rfl rfl rfl rfl rfl rfl rfl ?_
    refine AOps.gskip rfl rfl rfl rfl rfl rfl rfl rfl ?_
    refine AOps.cons rfl rfl (q_pick) ?_
    refine AOps.cons rfl rfl (q_move) ?_
    refine AOps.gskip rfl rfl rfl rfl rfl rfl rfl rfl ?_
    refine AOps.gskip rfl rfl rfl rfl rfl rfl rfl rfl ?_
    refine AOps.gskip rfl rfl rfl rfl rfl rfl rfl rfl ?_
    refine AOps.gskip rfl rfl rfl rfl rfl rfl rfl rfl ?_
    refine AOps.gskip rfl rfl rfl rfl rfl rfl rfl rfl ?_
    refine AOps.gskip rfl rfl rfl rfl rfl rfl rfl rfl ?_
    refine AOps.cons rfl rfl (q_pick) ?_
    refine AOps.cons rfl rfl (q_assign) ?_
    refine AOps.nil ?_
    refine AWp.ret ?_
    show Fin te Try.f52 _ _
    refine q_ret (0) [_] [_] ?_
    exact congrArg tf (by simp [rOk, *])
   ·
    refine AOps.cons rfl rfl (q_pick) ?_
    refine AOps.cons rfl rfl (q_move) ?_
    refine AOps.gcons rfl rfl rfl rfl rfl (q_fa) ?_
    refine AOps.gcons rfl rfl rfl rfl rfl (q_load) ?_
    refine AOps.gdec rfl rfl rfl rfl rfl (q_geq) (fun h1_21 => ?_) (fun h1_21 => ?_)
    ·
     refine AOps.cons rfl rfl (q_pick) ?_
     refine AOps.cons rfl rfl (q_move) ?_
     refine AOps.gskip rfl rfl rfl rfl rfl rfl rfl rfl ?_
     refine AOps.gskip rfl rfl rfl rfl rfl rfl rfl rfl ?_
     refine AOps.gskip rfl rfl rfl rfl rfl rfl rfl rfl ?_
     refine AOps.gskip rfl rfl rfl rfl rfl rfl rfl rfl ?_
     refine AOps.gskip rfl rfl rfl rfl rfl rfl rfl rfl ?_
     refine AOps.gskip rfl rfl rfl rfl rfl rfl rfl rfl ?_
     refine AOps.cons rfl rfl (q_pick) ?_
     refine AOps.cons rfl rfl (q_assign) ?_
     refine AOps.nil ?_
     refine AWp.ret ?_
     show Fin te Try.f52 _ _
     refine q_ret (0) [_] [_] ?_
     exact congrArg tf (by simp [rOk, *])
    ·
     refine AOps.cons rfl rfl (q_pick) ?_
     refine AOps.cons rfl rfl (q_move) ?_
     refine AOps.gcons rfl rfl rfl rfl rfl (q_fa) ?_
     refine AOps.gcons rfl rfl rfl rfl rfl (q_load) ?_
     refine AOps.gcons rfl rfl rfl rfl rfl (q_fa) ?_
     refine AOps.gcons rfl rfl rfl rfl rfl (q_load) ?_
     refine AOps.gcons rfl rfl rfl rfl rfl (q_call (0) (hc := (c_CanA r.ty r.da _ hd))) ?_
     refine AOps.gcons rfl rfl rfl rfl rfl (q_not) ?_
     refine AOps.cons rfl rfl (q_pick) ?_
     refine AOps.cons rfl rfl (q_assign) ?_
     refine AOps.nil ?_
     refine AWp.ret ?_
     show Fin te Try.f52 _ _
     refine q_ret (0) [_] [_] ?_
     exact congrArg tf (by simp [rOk, *])
  ·
   refine AOps.gcons rfl rfl rfl rfl rfl (q_not) ?_
   refine AOps.cons rfl rfl (q_pick) ?_
   refine AOps.cons rfl rfl (q_move) ?_
   refine AOps.gskip rfl rfl rfl rfl rfl rfl rfl rfl ?_
   refine AOps.gskip rfl rfl rfl rfl rfl rfl rfl rfl ?_
   refine AOps.gskip rfl rfl rfl rfl rfl rfl rfl rfl ?_
   refine AOps.cons rfl rfl (q_pick) ?_
   refine AOps.cons rfl rfl (q_move) ?_
   refine AOps.gskip rfl rfl rfl rfl rfl rfl rfl rfl ?_
   refine AOps.gskip rfl rfl rfl rfl rfl rfl rfl rfl ?_
   refine AOps.gskip rfl rfl rfl rfl rfl rfl rfl rfl ?_
   refine AOps.cons rfl rfl (q_pick) ?_
   refine AOps.cons rfl rfl (q_move) ?_
   refine AOps.gskip rfl rfl rfl rfl rfl rfl rfl rfl ?_
   refine AOps.gskip rfl rfl rfl rfl rfl rfl rfl rfl ?_
   refine AOps.gskip rfl rfl rfl rfl rfl rfl rfl rfl ?_
   refine AOps.gskip rfl rfl rfl rfl rfl rfl rfl rfl ?_
   refine AOps.gskip rfl rfl rfl rfl rfl rfl rfl rfl ?_
   refine AOps.gskip rfl rfl rfl rfl rfl rfl rfl rfl ?_
   refine AOps.cons rfl rfl (q_pick) ?_
   refine AOps.cons rfl rfl (q_assign) ?_
   refine AOps.nil ?_
   refine AWp.ret ?_
   show Fin te Try.f52 _ _
   refine q_ret (0) [_] [_] ?_
   exact congrArg tf (by simp [rOk, *])
 ·
  refine AOps.cons rfl rfl (q_not) ?_
  refine AOps.cons rfl rfl (q_move) ?_
  refine AOps.gskip rfl rfl rfl rfl rfl rfl rfl rfl ?_
  refine AOps.gskip rfl rfl rfl rfl rfl rfl rfl rfl ?_
  refine AOps.gskip rfl rfl rfl rfl rfl rfl rfl rfl ?_
  refine AOps.gskip rfl rfl rfl rfl rfl rfl rfl rfl ?_
  refine AOps.gskip rfl rfl rfl rfl rfl rfl rfl rfl ?_
  refine AOps.gskip rfl rfl rfl rfl rfl rfl rfl rfl ?_
  refine AOps.gskip rfl rfl rfl rfl rfl rfl rfl rfl ?_
  refine AOps.cons rfl rfl (q_pick) ?_
  refine AOps.cons rfl rfl (q_move) ?_
  refine AOps.gskip rfl rfl rfl rfl rfl rfl rfl rfl ?_
  refine AOps.gskip rfl rfl rfl rfl rfl rfl rfl rfl ?_
  refine AOps.gskip rfl rfl rfl rfl rfl rfl rfl rfl ?_
  refine AOps.cons rfl rfl (q_pick) ?_
  refine AOps.cons rfl rfl (q_move) ?_
  refine AOps.gskip rfl rfl rfl rfl rfl rfl rfl rfl ?_
  refine AOps.gskip rfl rfl rfl rfl rfl rfl rfl rfl ?_
  refine AOps.gskip rfl rfl rfl rfl rfl rfl rfl rfl ?_
  refine AOps.cons rfl rfl (q_pick) ?_
  refine AOps.cons rfl rfl (q_move) ?_
  refine AOps.gskip rfl rfl rfl rfl rfl rfl rfl rfl ?_
  refine AOps.gskip rfl rfl rfl rfl rfl rfl rfl rfl ?_
  refine AOps.gskip rfl rfl rfl rfl rfl rfl rfl rfl ?_
  refine AOps.gskip rfl rfl rfl rfl rfl rfl rfl rfl ?_
  refine AOps.gskip rfl rfl rfl rfl rfl rfl rfl rfl ?_
  refine AOps.gskip rfl rfl rfl rfl rfl rfl rfl rfl ?_
  refine AOps.cons rfl rfl (q_pick) ?_
  refine AOps.cons rfl rfl (q_assign) ?_
  refine AOps.nil ?_
  refine AWp.ret ?_
  show Fin te Try.f52 _ _
  refine q_ret (0) [_] [_] ?_
  exact congrArg tf (by simp [rOk, *])
end Go.Proofs.Ytkfccjbihcbmiaa.Fw


set_option linter.unusedVariables false
set_option linter.unusedSimpArgs false
namespace Go.Proofs.Ytkfccjbihcbmiaa.Fw
open Go.RowKit
def NmOk (m : Msg) : Prop := (∀ x ∈ m.qs, x.nm.length ≤ 140737488351232) ∧ ∀ x ∈ m.rrs, x.nm.length ≤ 140737488351232
theorem hE_iff {h : Hd} {c0 c1 c2 c3 : Int} : hE h c0 c1 c2 c3 = 0 ↔ h.can c0 c1 c2 c3 := by
  unfold hE; split <;> simp [*]
theorem hdO_counts {m : Msg} (h : hdO m) : m.qs.length ≤ 65535 ∧ m.an.length ≤ 65535 ∧ m.au.length ≤ 65535 ∧ m.ad.length ≤ 65535 := by
  obtain ⟨_, _, _, a, b, c, d⟩ := h
  exact ⟨by omega, by omega, by omega, by omega⟩
theorem rrs_flat (m : Msg) : [m.an, m.au, m.ad].flatten = m.rrs := by simp [Msg.rrs]
theorem rrs_da {m : Msg} (h : MsgOk m) : ∀ x ∈ m.rrs, x.da.length ≤ 140737488351232 := by
  obtain ⟨_, h1, h2, h3⟩ := h
  intro x hx
  simp only [Msg.rrs, List.mem_append] at hx
  rcases hx with (hx | hx) | hx
  · exact h1.2 x hx
  · exact h2.2 x hx
  · exact h3.2 x hx
set_option maxRecDepth 20000 in
set_option maxHeartbeats 2000000 in
theorem c_IndexFunc_qu (l : List (Qu)) (lv lv' lw : Nat) (caps : List AV) (g : Qu → Bool) {fid : Nat} (hl : l.length ≤ 140737488351232) (hcaps : AV.oks lw caps = true) (hg : ∀ x ∈ l, AC Try.prog fid (.agg (quc x) :: caps) emp (Ret (tf (g x)))) : AC Try.prog 77 [.fz lv l.length (cl (quc) l), .fn (.func fid) [] caps] emp (Ret (i64 (idx g l))) := by
 refine AC.intro te_ok (fn := Try.f77) ⟨Try.func77, rfl, rfl⟩ (Nat.le_of_ble_eq_true rfl) ?_
 refine AWp.seq ?_
 refine AWp.region ?_
 refine AOps.cons rfl rfl (q_assign) ?_
 refine AOps.nil ?_
 refine AWp.seq ?_
 refine AWp.seq ?_
 refine AWp.region ?_
 refine AOps.cons rfl rfl (q_move) ?_
 refine AOps.cons rfl rfl (q_len) ?_
 refine AOps.cons rfl rfl (q_move) ?_
 refine AOps.nil ?_
 refine AWp.block ?_
 refine AWp.loopR (α := Nat) [4, 5, 8, 9, 10, 11, 12, 13, 14, 15, 16, 17, 18] (fun i => [(8, i64 i)]) (fun i => []) (fun i => i ≤ l.length ∧ ∀ x ∈ l.take i, g x = false) (fun i => l.length - i) 0 ?_ (Back.mk' (HasT.cons HasT.nil) HasH.nil) ?_
 ·
  exact ⟨Nat.zero_le _, by simp⟩
 ·
  rintro i ⟨hi, hI⟩
  refine AWp.seq ?_
  refine AWp.region ?_
  refine AOps.dec rfl rfl (q_lss) (fun h2_0 => ?_) (fun h2_0 => ?_)
  ·
   refine AOps.nil ?_
   refine AWp.seq ?_
   refine AWp.cond_t rfl ?_
   refine AWp.skip ?_
   refine AWp.seq ?_
   refine AWp.block ?_
   refine AWp.seq ?_
   refine AWp.region ?_
   refine AOps.cons rfl rfl (q_move) ?_
   refine AOps.cons rfl rfl (q_assign) ?_
   refine AOps.nil ?_
   refine AWp.seq ?_
   refine AWp.region ?_
   refine AOps.cons rfl rfl (q_move) ?_
   refine AOps.cons rfl rfl (q_move) ?_
   refine AOps.cons rfl rfl (q_move) ?_
   refine AOps.cons rfl rfl (q_ix) ?_
   refine AOps.cons rfl rfl (q_load) ?_
   refine AOps.bool rfl rfl (q_call (lv + lv' + lw) (hA := by exact fvs_caps (l := lw) (fv_okb rfl (by first | rfl | exact ble_of (by omega) | (simp [AV.ok, AV.oks]; done))) (by omega) hcaps) (hc := (hg _ (getD_mem (i := i) (by omega))))) (fun h4_5 => ?_) (fun h4_5 => ?_)
   ·
    refine AOps.nil ?_
    refine AWp.cond_t rfl ?_
    refine AWp.seq ?_
    refine AWp.region ?_
    refine AOps.cons rfl rfl (q_move) ?_
    refine AOps.cons rfl rfl (q_assign) ?_
    refine AOps.nil ?_
    refine AWp.ret ?_
    show Fin te Try.f77 _ _
    refine q_ret (0) [_] [_] ?_
    exact i64_eq (idx_at (by omega) hI h4_5).symm
   ·
    refine AOps.nil ?_
    refine AWp.cond_f rfl ?_
    refine AWp.skip ?_
    refine AWp.region ?_
    refine AOps.cons rfl rfl (q_add) ?_
    refine AOps.cons rfl rfl (q_move) ?_
    refine AOps.nil ?_
    refine ⟨i + 1, ?_, Back.mk' (HasT.cons HasT.nil) HasH.nil, ?_⟩
    ·
     exact ⟨by omega, idx_step (by omega) hI h4_5⟩
    ·
     first | omega | (simp; omega)
  ·
   refine AOps.nil ?_
   refine AWp.seq ?_
   refine AWp.cond_f rfl ?_
   refine AWp.exit ?_
   refine AWp.seq ?_
   refine AWp.region ?_
   refine AOps.cons rfl rfl (q_assign) ?_
   refine AOps.nil ?_
   refine AWp.ret ?_
   show Fin te Try.f77 _ _
   refine q_ret (0) [_] [_] ?_
   exact i64_eq (idx_none (by rwa [List.take_of_length_le (by omega)] at hI)).symm
set_option maxRecDepth 20000 in
set_option maxHeartbeats 2000000 in
theorem c_ContainsFunc_qu (l : List (Qu)) (lv lv' lw : Nat) (caps : List AV) (g : Qu → Bool) {fid : Nat} (hl : l.length ≤ 140737488351232) (hcaps : AV.oks lw caps = true) (hg : ∀ x ∈ l, AC Try.prog fid (.agg (quc x) :: caps) emp (Ret (tf (g x)))) : AC Try.prog 48 [.fz lv l.length (cl (quc) l), .fn (.func fid) [] caps] emp (Ret (tf (l.any g))) := by
 refine AC.intro te_ok (fn := Try.f48) ⟨Try.func48, rfl, rfl⟩ (Nat.le_of_ble_eq_true rfl) ?_
 refine AWp.seq ?_
 refine AWp.region ?_
 refine AOps.cons rfl rfl (q_assign) ?_
 refine AOps.nil ?_
 refine AWp.seq ?_
 refine AWp.region ?_
 refine AOps.cons rfl rfl (q_move) ?_
 refine AOps.cons rfl rfl (q_move) ?_
 refine AOps.cons rfl rfl (q_call (lv + lv' + lw) (hA := by exact ⟨fv_okb rfl (ble_of (by omega)), fv_okb (b := .fn (.func fid) [] caps) rfl (by simp [AV.ok, AV.oks, AV.oks_mono (show lw ≤ lv + lv' + lw by omega) hcaps]), trivial⟩) (hc := (c_IndexFunc_qu l lv lv' lw caps g hl hcaps hg))) ?_
 refine AOps.cons rfl rfl (q_geq) ?_
 refine AOps.cons rfl rfl (q_assign) ?_
 refine AOps.nil ?_
 refine AWp.ret ?_
 show Fin te Try.f48 _ _
 refine q_ret (0) [_] [_] ?_
 exact congrArg tf idx_any
set_option maxRecDepth 20000 in
set_option maxHeartbeats 2000000 in
theorem c_IndexFunc_rr (l : List (Rr)) (lv lv' lw : Nat) (caps : List AV) (g : Rr → Bool) {fid : Nat} (hl : l.length ≤ 140737488351232) (hcaps : AV.oks lw caps = true) (hg : ∀ x ∈ l, AC Try.prog fid (.agg (rrc x) :: caps) emp (Ret (tf (g x)))) : AC Try.prog 86 [.fz lv l.length (cl (rrc) l), .fn (.func fid) [] caps] emp (Ret (i64 (idx g l))) := by
 refine AC.intro te_ok (fn := Try.f86) ⟨Try.func86, rfl, rfl⟩ (Nat.le_of_ble_eq_true rfl) ?_
 refine AWp.seq ?_
 refine AWp.region ?_
 refine AOps.cons rfl rfl (q_assign) ?_
 refine AOps.nil ?_
 refine AWp.seq ?_
 refine AWp.seq ?_
 refine AWp.region ?_
 refine AOps.cons rfl rfl (q_move) ?_
 refine AOps.cons rfl rfl (q_len) ?_
 refine AOps.cons rfl rfl (q_move) ?_
 refine AOps.nil ?_
 refine AWp.block ?_
 refine AWp.loopR (α := Nat) [4, 5, 8, 9, 10, 11, 12, 13, 14, 15, 16, 17, 18] (fun i => [(8, i64 i)]) (fun i => []) (fun i => i ≤ l.length ∧ ∀ x ∈ l.take i, g x = false) (fun i => l.length - i) 0 ?_ (Back.mk' (HasT.cons HasT.nil) HasH.nil) ?_
 ·
  exact ⟨Nat.zero_le _, by simp⟩
 ·
  rintro i ⟨hi, hI⟩
  refine AWp.seq ?_
  refine AWp.region ?_
  refine AOps.dec rfl rfl (q_lss) (fun h2_0 => ?_) (fun h2_0 => ?_)
  ·
   refine AOps.nil ?_
   refine AWp.seq ?_
   refine AWp.cond_t rfl ?_
   refine AWp.skip ?_
   refine AWp.seq ?_
   refine AWp.block ?_
   refine AWp.seq ?_
   refine AWp.region ?_
   refine AOps.cons rfl rfl (q_move) ?_
   refine AOps.cons rfl rfl (q_assign) ?_
   refine AOps.nil ?_
   refine AWp.seq ?_
   refine AWp.region ?_
   refine AOps.cons rfl rfl (q_move) ?_
   refine AOps.cons rfl rfl (q_move) ?_
   refine AOps.cons rfl rfl (q_move) ?_
   refine AOps.cons rfl rfl (q_ix) ?_
   refine AOps.cons rfl rfl (q_load) ?_
   refine AOps.bool rfl rfl (q_call (lv + lv' + lw) (hA := by exact fvs_caps (l := lw) (fv_okb rfl (by first | rfl | exact ble_of (by omega) | (simp [AV.ok, AV.oks]; done))) (by omega) hcaps) (hc := (hg _ (getD_mem (i := i) (by omega))))) (fun h4_5 => ?_) (fun h4_5 => ?_)
   ·
    refine AOps.nil ?_
    refine AWp.cond_t rfl ?_
    refine AWp.seq ?_
    refine AWp.region ?_
    refine AOps.cons rfl rfl (q_move) ?_
    refine AOps.cons rfl rfl (q_assign) ?_
    refine AOps.nil ?_
    refine AWp.ret ?_
    show Fin te Try.f86 _ _
    refine q_ret (0) [_] [_] ?_
    exact i64_eq (idx_at (by omega) hI h4_5).symm
   ·
    refine AOps.nil ?_
    refine AWp.cond_f rfl ?_
    refine AWp.skip ?_
    refine AWp.region ?_
    refine AOps.cons rfl rfl (q_add) ?_
    refine AOps.cons rfl rfl (q_move) ?_
    refine AOps.nil ?_
    refine ⟨i + 1, ?_, Back.mk' (HasT.cons HasT.nil) HasH.nil, ?_⟩
    ·
     exact ⟨by omega, idx_step (by omega) hI h4_5⟩
    ·
     first | omega | (simp; omega)
  ·
   refine AOps.nil ?_
   refine AWp.seq ?_
   refine AWp.cond_f rfl ?_
   refine AWp.exit ?_
   refine AWp.seq ?_
   refine AWp.region ?_
   refine AOps.cons rfl rfl (q_assign) ?_
   refine AOps.nil ?_
   refine AWp.ret ?_
   show Fin te Try.f86 _ _
   refine q_ret (0) [_] [_] ?_
   exact i64_eq (idx_none (by rwa [List.take_of_length_le (by omega)] at hI)).symm
set_option maxRecDepth 20000 in
set_option maxHeartbeats 2000000 in
theorem c_ContainsFunc_rr (l : List (Rr)) (lv lv' lw : Nat) (caps : List AV) (g : Rr → Bool) {fid : Nat} (hl : l.length ≤ 140737488351232) (hcaps : AV.oks lw caps = true) (hg : ∀ x ∈ l, AC Try.prog fid (.agg (rrc x) :: caps) emp (Ret (tf (g x)))) : AC Try.prog 54 [.fz lv l.length (cl (rrc) l), .fn (.func fid) [] caps] emp (Ret (tf (l.any g))) := by
 refine AC.intro te_ok (fn := Try.f54) ⟨Try.func54, rfl, rfl⟩ (Nat.le_of_ble_eq_true rfl) ?_
 refine AWp.seq ?_
 refine AWp.region ?_
 refine AOps.cons rfl rfl (q_assign) ?_
 refine AOps.nil ?_
 refine AWp.seq ?_
 refine AWp.region ?_
 refine AOps.cons rfl rfl (q_move) ?_
 refine AOps.cons rfl rfl (q_move) ?_
 refine AOps.cons rfl rfl (q_call (lv + lv' + lw) (hA := by exact ⟨fv_okb rfl (ble_of (by omega)), fv_okb (b := .fn (.func fid) [] caps) rfl (by simp [AV.ok, AV.oks, AV.oks_mono (show lw ≤ lv + lv' + lw by omega) hcaps]), trivial⟩) (hc := (c_IndexFunc_rr l lv lv' lw caps g hl hcaps hg))) ?_
 refine AOps.cons rfl rfl (q_geq) ?_
 refine AOps.cons rfl rfl (q_assign) ?_
 refine AOps.nil ?_
 refine AWp.ret ?_
 show Fin te Try.f54 _ _
 refine q_ret (0) [_] [_] ?_
 exact congrArg tf idx_any
set_option maxRecDepth 20000 in
set_option maxHeartbeats 2000000 in
theorem c_wire_counts (m : Msg) : AC Try.prog 27 [.agg (msgC m)] emp (Ret (.agg [i64 m.qs.length, i64 m.an.length, i64 m.au.length, i64 m.ad.length])) := by
 refine AC.intro te_ok (fn := Try.f27) ⟨Try.func27, rfl, rfl⟩ (Nat.le_of_ble_eq_true rfl) ?_
 refine AWp.seq ?_
 refine AWp.region ?_
 refine AOps.cons rfl rfl (q_box 100) ?_
 refine AOps.cons rfl rfl (q_alloc 101) ?_
 refine AOps.nil ?_
 refine AWp.seq ?_
 refine AWp.region ?_
 refine AOps.cons rfl rfl (q_fa) ?_
 refine AOps.cons rfl rfl (q_load) ?_
 refine AOps.cons rfl rfl (q_len) ?_
 refine AOps.cons rfl rfl (q_fa) ?_
 refine AOps.cons rfl rfl (q_load) ?_
 refine AOps.cons rfl rfl (q_len) ?_
 refine AOps.cons rfl rfl (q_fa) ?_
 refine AOps.cons rfl rfl (q_load) ?_
 refine AOps.cons rfl rfl (q_len) ?_
 refine AOps.cons rfl rfl (q_fa) ?_
 refine AOps.cons rfl rfl (q_load) ?_
 refine AOps.cons rfl rfl (q_len) ?_
 refine AOps.cons rfl rfl (q_buildA ic [_, _, _, _] [(_, _), (_, _), (_, _), (_, _)]) ?_
 refine AOps.cons rfl rfl (q_store) ?_
 refine AOps.nil ?_
 refine AWp.ret ?_
 show Fin te Try.f27 _ _
 refine q_ret (0) [_] [_] ?_
 rfl
set_option maxRecDepth 20000 in
set_option maxHeartbeats 2000000 in
theorem c_wire_Can (m : Msg) (h : MsgOk m) (hn : NmOk m) : AC Try.prog 22 [.agg (msgC m)] emp (Ret (tf (canM m))) := by
 obtain ⟨q1, q2, q3, q4⟩ := id h
 obtain ⟨n1, n2⟩ := id hn
 have q5 := rrs_da h
 refine AC.intro te_ok (fn := Try.f22) ⟨Try.func22, rfl, rfl⟩ (Nat.le_of_ble_eq_true rfl) ?_
 refine AWp.seq ?_
 refine AWp.region ?_
 refine AOps.cons rfl rfl (q_box 100) ?_
 refine AOps.cons rfl rfl (q_assign) ?_
 refine AOps.nil ?_
 refine AWp.seq ?_
 refine AWp.seq ?_
 refine AWp.draws [⟨0, [1], [100], some 7, _, []⟩,
     ⟨1, [7], [100], some 8, _, []⟩,
     ⟨2, [1], [100], some 9, _, []⟩,
     ⟨3, [9], [], some 10, _, []⟩,
     ⟨4, [8, 10], [], some 11, _, []⟩,
     ⟨5, [11], [], some 6, _, []⟩,
     ⟨6, [6], [], some 12, _, []⟩,
     ⟨7, [6], [], some 13, _, []⟩,
     ⟨8, [12], [], some 3, _, []⟩,
     ⟨9, [13], [], some 4, _, []⟩]
  [⟨0, [1], [100], some 7, .any, []⟩,
      ⟨1, [7], [100], some 8, .any, []⟩,
      ⟨2, [1], [100], some 9, .any, []⟩,
      ⟨3, [9], [], some 10, .any, []⟩,
      ⟨4, [8, 10], [], some 11, .any, []⟩,
      ⟨5, [11], [], some 6, .any, []⟩,
      ⟨6, [6], [], some 12, .any, []⟩,
      ⟨7, [6], [], some 13, .any, []⟩,
      ⟨8, [12], [], some 3, .any, []⟩,
      ⟨9, [13], [], some 4, .any, []⟩]
  mixed_ok rfl (by kernel_rfl) ⟨DS.ok_over fun s0 => OpAt.go rfl rfl (q_fa),
      DS.ok_over fun s0 => OpAt.go rfl rfl (q_load),
      DS.ok_over fun s0 => OpAt.go rfl rfl (q_load),
      DS.ok_over fun s0 => OpAt.go rfl rfl (q_call (0) (hc := (c_wire_counts m))),
      DS.ok_over fun s0 => OpAt.go rfl rfl (q_call (0) (hc := (c_header_Encode (toHd m.h) m.qs.length m.an.length m.au.length m.ad.length))),
      DS.ok_over fun s0 => OpAt.go rfl rfl (q_move),
      DS.ok_over fun s0 => OpAt.go rfl rfl (q_extract),
      DS.ok_over fun s0 => OpAt.go rfl rfl (q_extract),
      DS.ok_over fun s0 => OpAt.go rfl rfl (q_assign),
      DS.ok_over fun s0 => OpAt.go rfl rfl (q_assign), trivial⟩ ?_
 dsimp only [final, DS.upd, AS.seto]
 refine AWp.seq ?_
 refine AWp.region ?_
 refine AOps.cons rfl rfl (q_move) ?_
 refine AOps.dec rfl rfl (q_neq) (fun h2_1 => ?_) (fun h2_1 => ?_)
 ·
  refine AOps.nil ?_
  refine AWp.cond_t rfl ?_
  refine AWp.seq ?_
  refine AWp.region ?_
  refine AOps.cons rfl rfl (q_assign) ?_
  refine AOps.nil ?_
  refine AWp.ret ?_
  show Fin te Try.f22 _ _
  have hO : ¬ hdO m := fun e => h2_1 (hE_iff.2 e)
  refine q_ret (0) [_] [_] ?_
  exact congrArg tf (by simp [canM, hO])
 ·
  refine AOps.nil ?_
  refine AWp.cond_f rfl ?_
  refine AWp.skip ?_
  refine AWp.seq ?_
  refine AWp.seq ?_
  refine AWp.region ?_
  have hO : hdO m := hE_iff.1 (by omega)
  obtain ⟨k1, k2, k3, k4⟩ := hdO_counts hO
  refine AOps.cons rfl rfl (q_fa) ?_
  refine AOps.cons rfl rfl (q_load) ?_
  refine AOps.bool rfl rfl (q_call (0) (hc := (c_ContainsFunc_qu m.qs 0 0 0 [] (fun q => !qOk q) (by omega) rfl (fun q hq => c_wire_Can_1 q (n1 q hq))))) (fun h4_2 => ?_) (fun h4_2 => ?_)
  ·
   refine AOps.nil ?_
   refine AWp.cond_t rfl ?_
   refine AWp.seq ?_
   refine AWp.region ?_
   refine AOps.cons rfl rfl (q_assign) ?_
   refine AOps.nil ?_
   refine AWp.ret ?_
   show Fin te Try.f22 _ _
   refine q_ret (0) [_] [_] ?_
   exact congrArg tf (by rw [canM, h4_2]; simp)
  ·
   refine AOps.nil ?_
   refine AWp.cond_f rfl ?_
   refine AWp.skip ?_
   refine AWp.seq ?_
   refine AWp.region ?_
   refine AOps.cons rfl rfl (q_assign) ?_
   refine AOps.nil ?_
   refine AWp.seq ?_
   refine AWp.region ?_
   refine AOps.cons rfl rfl (q_fa) ?_
   refine AOps.cons rfl rfl (q_load) ?_
   refine AOps.cons rfl rfl (q_fa) ?_
   refine AOps.cons rfl rfl (q_load) ?_
   refine AOps.cons rfl rfl (q_fa) ?_
   refine AOps.cons rfl rfl (q_load) ?_
   refine AOps.cons rfl rfl (q_bs 806 (lc 0 rrc) [m.an, m.au, m.ad] [(_, _), (_, _), (_, _)]) ?_
   refine AOps.cons rfl rfl (q_call (0) (hc := (c_Concat_rr [m.an, m.au, m.ad] 1 (by simp) (by simp; omega)))) ?_
   refine AOps.cons rfl rfl (q_move) ?_
   refine AOps.cons rfl rfl (q_call (0) (hc := (c_ContainsFunc_rr [m.an, m.au, m.ad].flatten 0 0 0 [] (fun r => !rOk r) (by simp; omega) rfl (fun r hr => c_wire_Can_2 r (n2 r (by rw [← rrs_flat]; exact hr)) (q5 r (by rw [← rrs_flat]; exact hr)))))) ?_
   refine AOps.cons rfl rfl (q_not) ?_
   refine AOps.cons rfl rfl (q_assign) ?_
   refine AOps.nil ?_
   refine AWp.ret ?_
   show Fin te Try.f22 _ _
   refine q_ret (0) [_] [_] ?_
   rw [rrs_flat]; exact congrArg tf (by rw [canM, h4_2, decide_eq_true hO]; simp)
end Go.Proofs.Ytkfccjbihcbmiaa.Fw


set_option linter.unusedVariables false
set_option linter.unusedSimpArgs false
namespace Go.Proofs.Ytkfccjbihcbmiaa.Fw
open Go.RowKit
def Nm (ls : List (List UInt8)) : Prop := GoodN ls ∧ (joinN ls).length ≤ 255
theorem can_nm {n : List UInt8} (h : canN n = true) : ∃ ls, Nm ls ∧ n = joinN ls := by
  obtain ⟨ls, g, e, hl⟩ := canN_iff.1 h
  exact ⟨ls, ⟨g, hl⟩, e⟩
theorem Nm.can {ls : List (List UInt8)} (h : Nm ls) : canN (joinN ls) = true := can_join h.1 h.2
theorem Nm.lab {ls : List (List UInt8)} (h : Nm ls) : labN (joinN ls) = ls := labN_join h.1 h.2
theorem Nm.low {ls : List (List UInt8)} (h : Nm ls) : Nm (lowL ls) := ⟨h.1.low, by rw [low_length h.1]; exact h.2⟩
theorem Nm.lowN {ls : List (List UInt8)} (h : Nm ls) : lowN (joinN ls) = joinN (lowL ls) := lowN_join h.1 h.2
theorem Nm.cnt {ls : List (List UInt8)} (h : Nm ls) : cntN (joinN ls) = ls.length := by rw [cntN, h.lab]
theorem Nm.drop {ls : List (List UInt8)} (h : Nm ls) (j : Nat) : Nm (ls.drop j) := by
  refine ⟨fun x hx => h.1 x (List.mem_of_mem_drop hx), ?_⟩
  have h2 := h.2
  induction j generalizing ls with
  | zero => exact h.2
  | succ j ih =>
    cases ls with
    | nil => simpa using h.2
    | cons l ls =>
      have := joinN_le (l := l) (ls := ls)
      exact ih (ls := ls) ⟨h.1.tail, by omega⟩ (by omega)
theorem Nm.inj {a b : List (List UInt8)} (ha : Nm a) (hb : Nm b) : joinN a = joinN b ↔ a = b := ⟨joinN_inj ha.1 hb.1, fun e => by rw [e]⟩
theorem Nm.same {a b : List (List UInt8)} (ha : Nm a) (hb : Nm b) : sameN (joinN a) (joinN b) = decide (lowL a = lowL b) := by
  rw [sameN, ha.can, hb.can, ha.lowN, hb.lowN, decide_eq_decide.2 (ha.low.inj hb.low)]
  rfl
theorem Nm.tail {a : List (List UInt8)} (ha : Nm a) (k : Int) : tailN (joinN a) k = joinN (a.drop (a.length - min (max k 0).toNat a.length)) := by
  rw [tailN, if_pos ha.can, ha.lab]
theorem Nm.par {a : List (List UInt8)} (ha : Nm a) : parS (joinN a) = (if a = [] then [] else joinN (a.drop 1)) ∧ hasP (joinN a) = decide (a ≠ []) := by
  have h : hasP (joinN a) = decide (a ≠ []) := by rw [hasP, ha.lab]
  refine ⟨?_, h⟩
  rw [parS, h, parN, ha.lab]
  by_cases e : a = [] <;> simp [e]
structure Wr where
  b : List UInt8
  m : List (List UInt8 × Int)
  deriving Inhabited
def Wr.put (w : Wr) (l : List UInt8) (ls : List (List UInt8)) : Wr := ⟨w.b ++ (byte (l.length : Int) :: l), if (w.b.length : Int) < 16384 then mput w.m (joinN (l :: ls)) w.b.length else w.m⟩
def wrName : List (List UInt8) → Wr → Wr
  | [], w => ⟨w.b ++ [0], w.m⟩
  | l :: ls, w => match mget w.m (joinN (l :: ls)) with
    | some a => ⟨w.b ++ two (49152 + a), w.m⟩
    | none => wrName ls (w.put l ls)
def nmC : List (List UInt8) → Wr → Nat
  | [], w => 1
  | l :: ls, w => match mget w.m (joinN (l :: ls)) with
    | some a => 1
    | none => 1 + nmC ls (w.put l ls)
theorem wrName_hit {l : List UInt8} {ls : List (List UInt8)} {w : Wr} {a : Int} (h : mget w.m (joinN (l :: ls)) = some a) : wrName (l :: ls) w = ⟨w.b ++ two (49152 + a), w.m⟩ ∧ nmC (l :: ls) w = 1 := by simp [wrName, nmC, h]
theorem wrName_no {l : List UInt8} {ls : List (List UInt8)} {w : Wr} (h : mget w.m (joinN (l :: ls)) = none) : wrName (l :: ls) w = wrName ls (w.put l ls) ∧ nmC (l :: ls) w = 1 + nmC ls (w.put l ls) := by simp [wrName, nmC, h]
def WOk (w : Wr) : Prop := ∀ k a, mget w.m k = some a → 0 ≤ a ∧ a < 16384
theorem WOk.put {w : Wr} (h : WOk w) (l : List UInt8) (ls : List (List UInt8)) : WOk (w.put l ls) := by
  intro k a hk
  unfold Wr.put at hk
  split at hk
  · rw [mget_put] at hk
    split at hk
    · cases hk; omega
    · exact h k a hk
  · exact h k a hk
theorem take_label {l : List UInt8} {ls : List (List UInt8)} : (joinN (l :: ls)).take (((joinN (l :: ls)).length : Int) - (joinN ls).length).toNat = byte (l.length : Int) :: l := by
  have e : (((joinN (l :: ls)).length : Int) - (joinN ls).length).toNat = l.length + 1 := by rw [joinN_cons]; simp; omega
  rw [e, joinN_cons]
  simp
theorem or_c000 {a : Int} (h0 : 0 ≤ a) (h1 : a < 16384) : (((49152 : Int).toNat ||| a.toNat : Nat) : Int) = 49152 + a := by
  have e : ((49152 : Int).toNat) = 2 ^ 14 * 3 := by decide
  rw [e, ← Nat.two_pow_add_eq_or_of_lt (by omega : a.toNat < 2 ^ 14) 3]
  omega
theorem q_orc {n : Nat} {s : AS} {o : Oper} {d : Option Tmp} {t u : TypeId} {x y : Operand} {a : Int} (ho : o.op = .binOp .or t x y u := by exact rfl) (hx : s.ev x = i64 49152 := by exact rfl) (hy : s.ev y = i64 a := by exact rfl)
    (h0 : 0 ≤ a := by first | omega | (simp [*]; done)) (h1 : a < 16384 := by first | omega | (simp [*]; done)) (hdd : o.dst = d := by conv => lhs; whnf) (hd : d.all (Nat.blt · n) = true := by exact rfl) : OpOk Try.prog n o s (s.put d (i64 (49152 + a))) := by
  rw [← or_c000 h0 h1]
  exact q_or ho hx hy (by omega) (by omega) hdd hd
theorem Nm_tl {l : List UInt8} {ls : List (List UInt8)} (h : Nm (l :: ls)) : Nm ls := ⟨h.1.tail, by have := joinN_le (l := l) (ls := ls); have := h.2; omega⟩
theorem flat_two (l : List Int) : (l.flatMap two).length = 2 * l.length := by
  induction l with
  | nil => rfl
  | cons a l ih => rw [List.flatMap_cons, List.length_append, ih, List.length_cons]; show 2 + _ = _; omega
set_option maxRecDepth 20000 in
set_option maxHeartbeats 2000000 in
theorem c_short (b : List UInt8) (m : List (List UInt8 × Int)) (v : Nat) (l : List Int) (lv : Nat) (hb : b.length + 2 * l.length ≤ 100000000000) : AC Try.prog 29 [.ptr 0 0 0, .fz lv l.length (cl ic l)] (hlook [(0, .box [.sl 1 (v) 0 (b).length 1, .mp 2 0]), (1, .row (cl bc (b)) 1 (v)), (2, .map (me MStr (fun b : Int => i64 b) (m)))]) (RetH (.tup []) [(0, .box [.sl 1 (v + l.length) 0 (b ++ l.flatMap two).length 1, .mp 2 0]), (1, .row (cl bc (b ++ l.flatMap two)) 1 (v + l.length)), (2, .map (me MStr (fun b : Int => i64 b) (m)))]) := by
 refine AC.intro te_ok (fn := Try.f29) ⟨Try.func29, rfl, rfl⟩ (Nat.le_of_ble_eq_true rfl) ?_
 refine AWp.seq ?_
 refine AWp.region ?_
 refine AOps.cons rfl rfl (q_move) ?_
 refine AOps.cons rfl rfl (q_len) ?_
 refine AOps.cons rfl rfl (q_move) ?_
 refine AOps.nil ?_
 refine AWp.block ?_
 refine AWp.loopR (α := Nat × List UInt8) [5, 8, 9, 10, 11, 12, 13, 14, 15, 16, 17, 18, 19, 20, 21, 22, 23, 24, 25, 26] (fun x_ => [(8, i64 (x_.1))]) (fun x_ => [(0, .box [.sl 1 (v + (x_.1)) 0 (x_.2).length 1, .mp 2 0]), (1, .row (cl bc (x_.2)) 1 (v + (x_.1)))]) (fun x_ => (x_.1) ≤ l.length ∧ (x_.2) = b ++ (l.take (x_.1)).flatMap two) (fun x_ => l.length - (x_.1)) (0, b) ?_ (Back.mk' (HasT.cons HasT.nil) (HasH.cons (HasH.cons HasH.nil))) ?_
 ·
  exact ⟨Nat.zero_le _, by simp⟩
 ·
  rintro ⟨i, acc⟩ hI1
  change i ≤ l.length ∧ acc = b ++ (l.take i).flatMap two at hI1
  obtain ⟨hi, ha⟩ := hI1
  refine AWp.as (s' := AS.over _ [5, 8, 9, 10, 11, 12, 13, 14, 15, 16, 17, 18, 19, 20, 21, 22, 23, 24, 25, 26] [(8, i64 i)] [(0, .box [.sl 1 (v + i) 0 acc.length 1, .mp 2 0]), (1, .row (cl bc acc) 1 (v + i))]) rfl ?_
  have hal := congrArg List.length ha
  rw [List.length_append, flat_two, List.length_take] at hal
  refine AWp.seq ?_
  refine AWp.region ?_
  refine AOps.dec rfl rfl (q_lss) (fun h1_0 => ?_) (fun h1_0 => ?_)
  ·
   refine AOps.nil ?_
   refine AWp.seq ?_
   refine AWp.cond_t rfl ?_
   refine AWp.skip ?_
   refine AWp.seq ?_
   refine AWp.block ?_
   refine AWp.seq ?_
   refine AWp.region ?_
   refine AOps.cons rfl rfl (q_ix) ?_
   refine AOps.cons rfl rfl (q_load) ?_
   refine AOps.cons rfl rfl (q_assign) ?_
   refine AOps.nil ?_
   refine AWp.region ?_
   refine AOps.cons rfl rfl (q_move) ?_
   refine AOps.cons rfl rfl (q_move) ?_
   refine AOps.cons rfl rfl (q_nil) ?_
   refine AOps.cons rfl rfl (q_fa) ?_
   refine AOps.cons rfl rfl (q_load) ?_
   refine AOps.cons rfl rfl (q_move) ?_
   refine AOps.cons rfl rfl (q_shr 8) ?_
   refine AOps.cons rfl rfl (q_conv_u8) ?_
   refine AOps.cons rfl rfl (q_move) ?_
   refine AOps.cons rfl rfl (q_conv_u8) ?_
   refine AOps.cons rfl rfl (q_bs 410 bc [_, _] [(_, _), (_, _)]) ?_
   refine AOps.cons rfl rfl (q_app) ?_
   refine AOps.cons rfl rfl (q_nil) ?_
   refine AOps.cons rfl rfl (q_fa) ?_
   refine AOps.cons rfl rfl (q_store) ?_
   refine AOps.nil ?_
   refine AWp.region ?_
   refine AOps.cons rfl rfl (q_add) ?_
   refine AOps.cons rfl rfl (q_move) ?_
   refine AOps.nil ?_
   refine ⟨(i + 1, acc ++ two (l.getD i default)), ?_, Back.mk' (HasT.cons HasT.nil) (HasH.cons (HasH.cons HasH.nil)), ?_⟩
   ·
    try dsimp only
    exact ⟨by omega, by rw [ha, take_step' (by omega)]; simp⟩
   ·
    try dsimp only
    first | omega | (simp; omega)
  ·
   refine AOps.nil ?_
   refine AWp.seq ?_
   refine AWp.cond_f rfl ?_
   refine AWp.exit ?_
   show Fin te Try.f29 _ _
   obtain rfl : i = l.length := by omega
   rw [List.take_length] at ha
   subst ha
   refine q_retH (0) [] [] [] [(_, _), (_, _), (_, _)] ?_ (hobj := by repeat' (first | exact trivial | exact lv_ok rfl | exact lv_sl rfl rfl | exact lv_rn rfl rfl .row rfl | exact lv_ptr rfl rfl | exact lv_mp rfl rfl | exact lv_nilz | exact lv_row0 rfl rfl .row (fun _ => rfl) (Nat.le_of_ble_eq_true rfl) (fun _ => rfl) | exact lobj_row (fun _ => rfl) | exact lobj_rown (fun _ => rfl) | exact lobj_me (fun _ => rfl) | refine lobj_box ?_ | refine ⟨rfl, ⟨_, rfl, ?_⟩, ?_⟩ | refine ⟨?_, ?_⟩))
   rfl
set_option maxRecDepth 20000 in
set_option maxHeartbeats 2000000 in
theorem c_wname (ls0 : List (List UInt8)) (w0 : Wr) (v0 : Nat) (hn : Nm ls0) (hw : WOk w0) (hb : w0.b.length ≤ 10000000000) : AC Try.prog 28 [.ptr 0 0 0, str (joinN ls0)] (hlook [(0, .box [.sl 1 (v0) 0 (w0.b).length 1, .mp 2 0]), (1, .row (cl bc (w0.b)) 1 (v0)), (2, .map (me MStr (fun b : Int => i64 b) (w0.m)))]) (RetH (.tup []) [(0, .box [.sl 1 (v0 + nmC ls0 w0) 0 ((wrName ls0 w0).b).length 1, .mp 2 0]), (1, .row (cl bc ((wrName ls0 w0).b)) 1 (v0 + nmC ls0 w0)), (2, .map (me MStr (fun b : Int => i64 b) ((wrName ls0 w0).m)))]) := by
 refine AC.intro te_ok (fn := Try.f28) ⟨Try.func28, rfl, rfl⟩ (Nat.le_of_ble_eq_true rfl) ?_
 refine AWp.seq ?_
 refine AWp.block ?_
 refine AWp.loopR (α := List (List UInt8) × Wr × Nat) [1, 4, 5, 6, 7, 8, 9, 10, 11, 12, 13, 14, 15, 16, 17, 18, 19, 20, 21, 22, 23, 24, 25, 26, 27, 28, 29, 30, 31, 32, 33, 34, 35, 36, 37, 38, 39, 40, 41, 42, 43, 44, 45, 46, 47, 48, 49, 50, 51, 52, 53, 54, 55, 56, 57, 58, 59, 60, 61, 62] (fun x_ => [(1, str (joinN (x_.1)))]) (fun x_ => [(0, .box [.sl 1 ((x_.2.2)) 0 ((x_.2.1).b).length 1, .mp 2 0]), (1, .row (cl bc ((x_.2.1).b)) 1 ((x_.2.2))), (2, .map (me MStr (fun b : Int => i64 b) ((x_.2.1).m)))]) (fun x_ => Nm (x_.1) ∧ WOk (x_.2.1) ∧ (x_.2.1).b.length + (joinN (x_.1)).length ≤ w0.b.length + 255 ∧ wrName (x_.1) (x_.2.1) = wrName ls0 w0 ∧ (x_.2.2) + nmC (x_.1) (x_.2.1) = v0 + nmC ls0 w0) (fun x_ => (x_.1).length) (ls0, w0, v0) ?_ (Back.mk' (HasT.cons HasT.nil) (HasH.cons (HasH.cons (HasH.cons HasH.nil (h2 := by exact objIn_me (fun _ => rfl)) )))) ?_
 ·
  exact ⟨hn, hw, by have := hn.2; show w0.b.length + (joinN ls0).length ≤ _; omega, rfl, rfl⟩
 ·
  rintro ⟨ls, w, v⟩ hI0
  change Nm ls ∧ WOk w ∧ w.b.length + (joinN ls).length ≤ w0.b.length + 255 ∧ wrName ls w = wrName ls0 w0 ∧ v + nmC ls w = v0 + nmC ls0 w0 at hI0
  obtain ⟨hN, hW, hB, hE, hV⟩ := hI0
  refine AWp.as (s' := AS.over _ [1, 4, 5, 6, 7, 8, 9, 10, 11, 12, 13, 14, 15, 16, 17, 18, 19, 20, 21, 22, 23, 24, 25, 26, 27, 28, 29, 30, 31, 32, 33, 34, 35, 36, 37, 38, 39, 40, 41, 42, 43, 44, 45, 46, 47, 48, 49, 50, 51, 52, 53, 54, 55, 56, 57, 58, 59, 60, 61, 62] [(1, str (joinN ls))] [(0, .box [.sl 1 (v) 0 (w.b).length 1, .mp 2 0]), (1, .row (cl bc (w.b)) 1 (v)), (2, .map (me MStr (fun b : Int => i64 b) (w.m)))]) rfl ?_
  have hc := hN.cnt
  have h255 := hN.2
  refine AWp.seq ?_
  refine AWp.seq ?_
  refine AWp.region ?_
  refine AOps.cons rfl rfl (q_move) ?_
  refine AOps.cons rfl rfl (q_call (0) (hc := c_name_Count _ (by first | assumption | omega | decide | (simp; omega) | (simp [*]; done)))) ?_
  refine AOps.dec rfl rfl (q_gtr) (fun h0_2 => ?_) (fun h0_2 => ?_)
  ·
   refine AOps.nil ?_
   refine AWp.cond_t rfl ?_
   refine AWp.skip ?_
   refine AWp.block ?_
   refine AWp.seq ?_
   refine AWp.seq ?_
   refine AWp.region ?_
   obtain ⟨l, ls, rfl⟩ : ∃ l ls', ls = l :: ls' := by
     cases ls with
     | nil => rw [hc] at h0_2; simp at h0_2
     | cons l ls' => exact ⟨l, ls', rfl⟩
   refine AOps.cons rfl rfl (q_move) ?_
   refine AOps.cons rfl rfl (q_nil) ?_
   refine AOps.cons rfl rfl (q_fa) ?_
   refine AOps.cons rfl rfl (q_load) ?_
   refine AOps.cons rfl rfl (q_move) ?_
   refine AOps.cons rfl rfl (q_lookupo MStr) ?_
   refine AOps.cons rfl rfl (q_move) ?_
   refine AOps.cons rfl rfl (q_extract) ?_
   refine AOps.bool rfl rfl (q_extract) (fun h1_8 => ?_) (fun h1_8 => ?_)
   ·
    obtain ⟨a, hm⟩ := Option.isSome_iff_exists.1 h1_8
    have ha := hW _ _ hm
    rw [hm]
    refine AOps.cons rfl rfl (q_assign) ?_
    refine AOps.cons rfl rfl (q_assign) ?_
    refine AOps.nil ?_
    refine AWp.seq ?_
    refine AWp.region ?_
    refine AOps.cons rfl rfl (q_move) ?_
    refine AOps.nil ?_
    refine AWp.cond_t rfl ?_
    refine AWp.seq ?_
    refine AWp.region ?_
    refine AOps.cons rfl rfl (q_move) ?_
    refine AOps.cons rfl rfl (q_move) ?_
    refine AOps.cons rfl rfl (q_orc (a := a)) ?_
    refine AOps.cons rfl rfl (q_bs 403 ic [_] [(_, _)]) ?_
    refine AOps.cons rfl rfl (q_callB (0) [(0, 0), (1, 1), (2, 2)] [] [(_, _), (_, _), (_, _)] (hobj := by repeat' (first | exact trivial | exact lv_ok rfl | exact lv_sl rfl rfl | exact lv_ptr rfl rfl | exact lv_mp rfl rfl | exact lobj_row (fun _ => rfl) | exact lobj_me (fun _ => rfl) | refine lobj_box ?_ | refine ⟨rfl, ⟨_, rfl, ?_⟩, ?_⟩ | refine ⟨?_, ?_⟩)) (hB := by repeat' (first | exact trivial | exact hb_rowc (lv := 0) (fun _ => rfl) | exact hb_me (lv := 0) (fun _ => rfl) | exact rfl | refine ⟨rfl, rfl, ?_, ?_⟩)) (hL := by repeat' (first | exact trivial | exact hl_row (fun _ => rfl) | exact hl_me (fun _ => rfl) | exact ⟨rfl, rfl⟩ | refine ⟨?_, ?_⟩)) (hc := (c_short w.b w.m v [49152 + a] 1 (by simp; omega)))) ?_
    refine AOps.nil ?_
    refine AWp.ret ?_
    show Fin te Try.f28 _ _
    rw [← hE, ← hV, (wrName_hit hm).1, (wrName_hit hm).2]
    refine q_retH (0) [] [] [] [(_, _), (_, _), (_, _)] ?_ (hobj := by repeat' (first | exact trivial | exact lv_ok rfl | exact lv_sl rfl rfl | exact lv_rn rfl rfl .row rfl | exact lv_ptr rfl rfl | exact lv_mp rfl rfl | exact lv_nilz | exact lv_row0 rfl rfl .row (fun _ => rfl) (Nat.le_of_ble_eq_true rfl) (fun _ => rfl) | exact lobj_row (fun _ => rfl) | exact lobj_rown (fun _ => rfl) | exact lobj_me (fun _ => rfl) | refine lobj_box ?_ | refine ⟨rfl, ⟨_, rfl, ?_⟩, ?_⟩ | refine ⟨?_, ?_⟩))
    rfl
   ·
    refine AOps.cons rfl rfl (q_assign) ?_
    refine AOps.cons rfl rfl (q_assign) ?_
    refine AOps.nil ?_
    refine AWp.seq ?_
    refine AWp.region ?_
    refine AOps.cons rfl rfl (q_move) ?_
    refine AOps.nil ?_
    refine AWp.cond_f rfl ?_
    refine AWp.skip ?_
    refine AWp.seq ?_
    refine AWp.seq ?_
    refine AWp.region ?_
    refine AOps.cons rfl rfl (q_move) ?_
    refine AOps.cons rfl rfl (q_nil) ?_
    refine AOps.cons rfl rfl (q_fa) ?_
    refine AOps.cons rfl rfl (q_load) ?_
    refine AOps.cons rfl rfl (q_len) ?_
    refine AOps.dec rfl rfl (q_lss) (fun h4_5 => ?_) (fun h4_5 => ?_)
    ·
     refine AOps.nil ?_
     refine AWp.cond_t rfl ?_
     have hput : w.put l ls = ⟨w.b ++ (byte (l.length : Int) :: l), mput w.m (joinN (l :: ls)) w.b.length⟩ := by simp only [Wr.put, if_pos h4_5]
     refine AWp.draws [⟨0, [0], [], some 32, _, []⟩,
         ⟨1, [32], [0], some 33, _, []⟩,
         ⟨2, [33], [0], some 34, _, []⟩,
         ⟨3, [34], [0], some 35, _, []⟩,
         ⟨4, [1], [], some 36, _, []⟩,
         ⟨5, [0], [], some 37, _, []⟩,
         ⟨6, [37], [0], some 38, _, []⟩,
         ⟨7, [38], [0], some 39, _, []⟩,
         ⟨8, [39], [0], some 40, _, []⟩,
         ⟨9, [40], [1], some 41, _, []⟩,
         ⟨10, [35, 36, 41], [2], none, _, [(2, _)]⟩]
      [⟨0, [0], [], some 32, .any, []⟩,
          ⟨1, [32], [0], some 33, .any, []⟩,
          ⟨2, [33], [0], some 34, .any, []⟩,
          ⟨3, [34], [0], some 35, .any, []⟩,
          ⟨4, [1], [], some 36, .any, []⟩,
          ⟨5, [0], [], some 37, .any, []⟩,
          ⟨6, [37], [0], some 38, .any, []⟩,
          ⟨7, [38], [0], some 39, .any, []⟩,
          ⟨8, [39], [0], some 40, .any, []⟩,
          ⟨9, [40], [1], some 41, .any, []⟩,
          ⟨10, [35, 36, 41], [2], none, .any, [(2, .box [])]⟩]
      mixed_ok rfl (by kernel_rfl) ⟨DS.ok_over fun s0 => OpAt.go rfl rfl (q_move),
          DS.ok_over fun s0 => OpAt.go rfl rfl (q_nil),
          DS.ok_over fun s0 => OpAt.go rfl rfl (q_fa),
          DS.ok_over fun s0 => OpAt.go rfl rfl (q_load),
          DS.ok_over fun s0 => OpAt.go rfl rfl (q_move),
          DS.ok_over fun s0 => OpAt.go rfl rfl (q_move),
          DS.ok_over fun s0 => OpAt.go rfl rfl (q_nil),
          DS.ok_over fun s0 => OpAt.go rfl rfl (q_fa),
          DS.ok_over fun s0 => OpAt.go rfl rfl (q_load),
          DS.ok_over fun s0 => OpAt.go rfl rfl (q_len),
          DS.ok_over fun s0 => OpAt.go rfl rfl (q_mapUpdate MStr _), trivial⟩ ?_
     dsimp only [final, DS.upd, AS.seto]
     refine AWp.seq ?_
     refine AWp.region ?_
     refine AOps.cons rfl rfl (q_move) ?_
     refine AOps.cons rfl rfl (q_call (0) (hc := c_name_Parent _ (by first | assumption | omega | decide | (simp; omega) | (simp [*]; done)))) ?_
     refine AOps.cons rfl rfl (q_move) ?_
     refine AOps.cons rfl rfl (q_extract) ?_
     refine AOps.cons rfl rfl (q_extract) ?_
     refine AOps.cons rfl rfl (q_assign) ?_
     refine AOps.cons rfl rfl (q_assign) ?_
     refine AOps.nil ?_
     refine AWp.seq ?_
     have hp : parS (joinN (l :: ls)) = joinN ls := by rw [hN.par.1, if_neg (by simp)]; rfl
     have hN2 : Nm ls := Nm_tl hN
     have hm : mget w.m (joinN (l :: ls)) = none := by cases hq : mget w.m (joinN (l :: ls)) with
       | none => rfl
       | some _ => rw [hq] at h1_8; cases h1_8
     have hle := joinN_le (l := l) (ls := ls)
     have hJ : (joinN (l :: ls)).length = l.length + 1 + (joinN ls).length := by rw [joinN_cons]; simp; omega
     rw [hp]
     refine AWp.draws [⟨0, [0], [], some 47, _, []⟩,
         ⟨1, [0], [], some 48, _, []⟩,
         ⟨2, [48], [0], some 49, _, []⟩,
         ⟨3, [49], [0], some 50, _, []⟩,
         ⟨4, [50], [0], some 51, _, []⟩,
         ⟨5, [1], [], some 52, _, []⟩,
         ⟨6, [1], [], some 53, _, []⟩,
         ⟨7, [53], [], some 54, _, []⟩,
         ⟨8, [6], [], some 55, _, []⟩,
         ⟨9, [55], [], some 56, _, []⟩,
         ⟨10, [54, 56], [], some 57, _, []⟩,
         ⟨11, [52, 57], [], some 58, _, []⟩,
         ⟨12, [51, 58], [1], some 59, _, [(1, _)]⟩,
         ⟨13, [47], [0], some 60, _, []⟩,
         ⟨14, [60], [0], some 61, _, []⟩,
         ⟨15, [59, 61], [0, 1], none, _, [(0, _)]⟩]
      [⟨0, [0], [], some 47, .any, []⟩,
          ⟨1, [0], [], some 48, .any, []⟩,
          ⟨2, [48], [0], some 49, .any, []⟩,
          ⟨3, [49], [0], some 50, .any, []⟩,
          ⟨4, [50], [0], some 51, .any, []⟩,
          ⟨5, [1], [], some 52, .any, []⟩,
          ⟨6, [1], [], some 53, .any, []⟩,
          ⟨7, [53], [], some 54, .any, []⟩,
          ⟨8, [6], [], some 55, .any, []⟩,
          ⟨9, [55], [], some 56, .any, []⟩,
          ⟨10, [54, 56], [], some 57, .any, []⟩,
          ⟨11, [52, 57], [], some 58, .any, []⟩,
          ⟨12, [51, 58], [1], some 59, .any, [(1, .box [])]⟩,
          ⟨13, [47], [0], some 60, .any, []⟩,
          ⟨14, [60], [0], some 61, .any, []⟩,
          ⟨15, [59, 61], [0, 1], none, .any, [(0, .box [])]⟩]
      mixed_ok rfl (by kernel_rfl) ⟨DS.ok_over fun s0 => OpAt.go rfl rfl (q_move),
          DS.ok_over fun s0 => OpAt.go rfl rfl (q_move),
          DS.ok_over fun s0 => OpAt.go rfl rfl (q_nil),
          DS.ok_over fun s0 => OpAt.go rfl rfl (q_fa),
          DS.ok_over fun s0 => OpAt.go rfl rfl (q_load),
          DS.ok_over fun s0 => OpAt.go rfl rfl (q_move),
          DS.ok_over fun s0 => OpAt.go rfl rfl (q_move),
          DS.ok_over fun s0 => OpAt.go rfl rfl (q_len_str),
          DS.ok_over fun s0 => OpAt.go rfl rfl (q_move),
          DS.ok_over fun s0 => OpAt.go rfl rfl (q_len_str),
          DS.ok_over fun s0 => OpAt.go rfl rfl (q_sub),
          DS.ok_over fun s0 => OpAt.go rfl rfl (q_sls_hi),
          DS.ok_over fun s0 => OpAt.go rfl rfl (q_app),
          DS.ok_over fun s0 => OpAt.go rfl rfl (q_nil),
          DS.ok_over fun s0 => OpAt.go rfl rfl (q_fa),
          DS.ok_over fun s0 => OpAt.go rfl rfl (q_store), trivial⟩ ?_
     dsimp only [final, DS.upd, AS.seto]
     refine AWp.region ?_
     refine AOps.cons rfl rfl (q_move) ?_
     refine AOps.cons rfl rfl (q_assign) ?_
     refine AOps.nil ?_
     rw [take_label]
     refine ⟨(ls, ⟨w.b ++ (byte (l.length : Int) :: l), mput w.m (joinN (l :: ls)) w.b.length⟩, v + 1), ?_, Back.mk' (HasT.cons HasT.nil) (HasH.cons (HasH.cons (HasH.cons HasH.nil (h2 := by exact objIn_me (fun _ => rfl)) ))), ?_⟩
     ·
      try dsimp only
      rw [← hput]
      refine ⟨hN2, hW.put l ls, ?_, by rw [← hE, (wrName_no hm).1], by rw [← hV, (wrName_no hm).2]; try omega⟩
      simp only [List.length_append, List.length_cons]; try omega
     ·
      try dsimp only
      simp
    ·
     refine AOps.nil ?_
     refine AWp.cond_f rfl ?_
     refine AWp.skip ?_
     refine AWp.seq ?_
     refine AWp.region ?_
     have hput : w.put l ls = ⟨w.b ++ (byte (l.length : Int) :: l), w.m⟩ := by simp only [Wr.put, if_neg h4_5]
     refine AOps.cons rfl rfl (q_move) ?_
     refine AOps.cons rfl rfl (q_call (0) (hc := c_name_Parent _ (by first | assumption | omega | decide | (simp; omega) | (simp [*]; done)))) ?_
     refine AOps.cons rfl rfl (q_move) ?_
     refine AOps.cons rfl rfl (q_extract) ?_
     refine AOps.cons rfl rfl (q_extract) ?_
     refine AOps.cons rfl rfl (q_assign) ?_
     refine AOps.cons rfl rfl (q_assign) ?_
     refine AOps.nil ?_
     refine AWp.seq ?_
     have hp : parS (joinN (l :: ls)) = joinN ls := by rw [hN.par.1, if_neg (by simp)]; rfl
     have hN2 : Nm ls := Nm_tl hN
     have hm : mget w.m (joinN (l :: ls)) = none := by cases hq : mget w.m (joinN (l :: ls)) with
       | none => rfl
       | some _ => rw [hq] at h1_8; cases h1_8
     have hle := joinN_le (l := l) (ls := ls)
     have hJ : (joinN (l :: ls)).length = l.length + 1 + (joinN ls).length := by rw [joinN_cons]; simp; omega
     rw [hp]
     refine AWp.draws [⟨0, [0], [], some 47, _, []⟩,
         ⟨1, [0], [], some 48, _, []⟩,
         ⟨2, [48], [0], some 49, _, []⟩,
         ⟨3, [49], [0], some 50, _, []⟩,
         ⟨4, [50], [0], some 51, _, []⟩,
         ⟨5, [1], [], some 52, _, []⟩,
         ⟨6, [1], [], some 53, _, []⟩,
         ⟨7, [53], [], some 54, _, []⟩,
         ⟨8, [6], [], some 55, _, []⟩,
         ⟨9, [55], [], some 56, _, []⟩,
         ⟨10, [54, 56], [], some 57, _, []⟩,
         ⟨11, [52, 57], [], some 58, _, []⟩,
         ⟨12, [51, 58], [1], some 59, _, [(1, _)]⟩,
         ⟨13, [47], [0], some 60, _, []⟩,
         ⟨14, [60], [0], some 61, _, []⟩,
         ⟨15, [59, 61], [0, 1], none, _, [(0, _)]⟩]
      [⟨0, [0], [], some 47, .any, []⟩,
          ⟨1, [0], [], some 48, .any, []⟩,
          ⟨2, [48], [0], some 49, .any, []⟩,
          ⟨3, [49], [0], some 50, .any, []⟩,
          ⟨4, [50], [0], some 51, .any, []⟩,
          ⟨5, [1], [], some 52, .any, []⟩,
          ⟨6, [1], [], some 53, .any, []⟩,
          ⟨7, [53], [], some 54, .any, []⟩,
          ⟨8, [6], [], some 55, .any, []⟩,
          ⟨9, [55], [], some 56, .any, []⟩,
          ⟨10, [54, 56], [], some 57, .any, []⟩,
          ⟨11, [52, 57], [], some 58, .any, []⟩,
          ⟨12, [51, 58], [1], some 59, .any, [(1, .box [])]⟩,
          ⟨13, [47], [0], some 60, .any, []⟩,
          ⟨14, [60], [0], some 61, .any, []⟩,
          ⟨15, [59, 61], [0, 1], none, .any, [(0, .box [])]⟩]
      mixed_ok rfl (by kernel_rfl) ⟨DS.ok_over fun s0 => OpAt.go rfl rfl (q_move),
          DS.ok_over fun s0 => OpAt.go rfl rfl (q_move),
          DS.ok_over fun s0 => OpAt.go rfl rfl (q_nil),
          DS.ok_over fun s0 => OpAt.go rfl rfl (q_fa),
          DS.ok_over fun s0 => OpAt.go rfl rfl (q_load),
          DS.ok_over fun s0 => OpAt.go rfl rfl (q_move),
          DS.ok_over fun s0 => OpAt.go rfl rfl (q_move),
          DS.ok_over fun s0 => OpAt.go rfl rfl (q_len_str),
          DS.ok_over fun s0 => OpAt.go rfl rfl (q_move),
          DS.ok_over fun s0 => OpAt.go rfl rfl (q_len_str),
          DS.ok_over fun s0 => OpAt.go rfl rfl (q_sub),
          DS.ok_over fun s0 => OpAt.go rfl rfl (q_sls_hi),
          DS.ok_over fun s0 => OpAt.go rfl rfl (q_app),
          DS.ok_over fun s0 => OpAt.go rfl rfl (q_nil),
          DS.ok_over fun s0 => OpAt.go rfl rfl (q_fa),
          DS.ok_over fun s0 => OpAt.go rfl rfl (q_store), trivial⟩ ?_
     dsimp only [final, DS.upd, AS.seto]
     refine AWp.region ?_
     refine AOps.cons rfl rfl (q_move) ?_
     refine AOps.cons rfl rfl (q_assign) ?_
     refine AOps.nil ?_
     rw [take_label]
     refine ⟨(ls, ⟨w.b ++ (byte (l.length : Int) :: l), w.m⟩, v + 1), ?_, Back.mk' (HasT.cons HasT.nil) (HasH.cons (HasH.cons (HasH.cons HasH.nil (h2 := by exact objIn_me (fun _ => rfl)) ))), ?_⟩
     ·
      try dsimp only
      rw [← hput]
      refine ⟨hN2, hW.put l ls, ?_, by rw [← hE, (wrName_no hm).1], by rw [← hV, (wrName_no hm).2]; try omega⟩
      simp only [List.length_append, List.length_cons]; try omega
     ·
      try dsimp only
      simp
  ·
   refine AOps.nil ?_
   refine AWp.cond_f rfl ?_
   refine AWp.exit ?_
   refine AWp.region ?_
   obtain rfl : ls = [] := by
     cases ls with
     | nil => rfl
     | cons l ls' => rw [hc] at h0_2; simp at h0_2; try omega
   refine AOps.cons rfl rfl (q_move) ?_
   refine AOps.cons rfl rfl (q_move) ?_
   refine AOps.cons rfl rfl (q_nil) ?_
   refine AOps.cons rfl rfl (q_fa) ?_
   refine AOps.cons rfl rfl (q_load) ?_
   refine AOps.cons rfl rfl (q_bs 1005 bc [0] [(_, _)]) ?_
   refine AOps.cons rfl rfl (q_app) ?_
   refine AOps.cons rfl rfl (q_nil) ?_
   refine AOps.cons rfl rfl (q_fa) ?_
   refine AOps.cons rfl rfl (q_store) ?_
   refine AOps.nil ?_
   show Fin te Try.f28 _ _
   rw [← hE, ← hV]
   refine q_retH (0) [] [] [] [(_, _), (_, _), (_, _)] ?_ (hobj := by repeat' (first | exact trivial | exact lv_ok rfl | exact lv_sl rfl rfl | exact lv_rn rfl rfl .row rfl | exact lv_ptr rfl rfl | exact lv_mp rfl rfl | exact lv_nilz | exact lv_row0 rfl rfl .row (fun _ => rfl) (Nat.le_of_ble_eq_true rfl) (fun _ => rfl) | exact lobj_row (fun _ => rfl) | exact lobj_rown (fun _ => rfl) | exact lobj_me (fun _ => rfl) | refine lobj_box ?_ | refine ⟨rfl, ⟨_, rfl, ?_⟩, ?_⟩ | refine ⟨?_, ?_⟩))
   rfl
end Go.Proofs.Ytkfccjbihcbmiaa.Fw


set_option linter.unusedVariables false
set_option linter.unusedSimpArgs false
namespace Go.Proofs.Ytkfccjbihcbmiaa.Fw
open Go.RowKit
theorem canR_name {t : Int} {d : List UInt8} (h : t = 2 ∨ t = 5 ∨ t = 12) (hd : d.length ≤ 65535) : canR t d = canN d := by
  rw [canR, if_neg (by omega), if_neg (by omega), if_neg (by omega), if_pos h]
theorem namR_name {t : Int} {d : List UInt8} (h : t = 2 ∨ t = 5 ∨ t = 12) (hd : d.length ≤ 65535) (hc : canN d = true) : namR t d = [d] := by
  rw [namR, if_pos (by rw [canR_name h hd, hc]), if_pos h]
theorem canR_mx {d : List UInt8} (h : d.length ≤ 65535) : canR 15 d = (decide (2 < d.length) && canN (d.drop 2)) := by
  rw [canR, if_neg (by omega), if_neg (by decide), if_neg (by decide), if_neg (by decide), if_pos rfl]
def lowW (n : Int) : Int := ((n.toNat &&& (65535 : Int).toNat : Nat) : Int)
def preD (t : Int) (d : List UInt8) : List UInt8 := if t = 15 then d.take 2 else []
def wrNames : List (List UInt8) → Wr → Wr
  | [], w => w
  | n :: ns, w => wrNames ns (wrName (labN n) w)
def nmsC : List (List UInt8) → Wr → Nat
  | [], w => 0
  | n :: ns, w => nmC (labN n) w + nmsC ns (wrName (labN n) w)
theorem wrNames_app (a b : List (List UInt8)) (w : Wr) : wrNames (a ++ b) w = wrNames b (wrNames a w) := by
  induction a generalizing w with
  | nil => rfl
  | cons n a ih => exact ih _
theorem nmsC_app (a b : List (List UInt8)) (w : Wr) : nmsC (a ++ b) w = nmsC a w + nmsC b (wrNames a w) := by
  induction a generalizing w with
  | nil => simp [nmsC, wrNames]
  | cons n a ih => simp only [List.cons_append, nmsC, wrNames, ih]; omega
theorem wrNames_step {L : List (List UInt8)} {i : Nat} (h : i < L.length) (w : Wr) : wrNames (L.take (i + 1)) w = wrName (labN (L.getD i default)) (wrNames (L.take i) w) ∧ nmsC (L.take (i + 1)) w = nmsC (L.take i) w + nmC (labN (L.getD i default)) (wrNames (L.take i) w) := by
  rw [take_step' h, wrNames_app, nmsC_app]
  exact ⟨rfl, rfl⟩
theorem wrName_ok : ∀ {ls : List (List UInt8)} {w : Wr}, Nm ls → WOk w → WOk (wrName ls w) ∧ (wrName ls w).b.length ≤ w.b.length + (joinN ls).length ∧ w.b.length ≤ (wrName ls w).b.length
  | [], w, _, hw => ⟨hw, by simp [wrName, joinN_nil], by simp [wrName]⟩
  | l :: ls, w, hn, hw => by
    have hJ : (joinN (l :: ls)).length = l.length + 1 + (joinN ls).length := by rw [joinN_cons]; simp; omega
    cases hm : mget w.m (joinN (l :: ls)) with
    | some a =>
      rw [(wrName_hit hm).1]
      refine ⟨hw, ?_, by simp⟩
      have h1 := hn.1.head
      have h2 := joinN_length ls
      have h3 : (w.b ++ two (49152 + a)).length = w.b.length + 2 := by rw [List.length_append]; rfl
      show (w.b ++ two (49152 + a)).length ≤ _
      omega
    | none =>
      rw [(wrName_no hm).1]
      obtain ⟨a, b, c⟩ := wrName_ok (Nm_tl hn) (hw.put l ls)
      have e : (w.put l ls).b.length = w.b.length + (l.length + 1) := by simp [Wr.put]
      exact ⟨a, by omega, by omega⟩
theorem canN_nm {n : List UInt8} (h : canN n = true) : Nm (labN n) ∧ joinN (labN n) = n := by
  obtain ⟨ls, a, rfl⟩ := can_nm h
  rw [a.lab]; exact ⟨a, rfl⟩
theorem c_wnameC (n : List UInt8) (w : Wr) (v : Nat) (hn : canN n = true) (hw : WOk w) (hb : w.b.length ≤ 10000000000) :
    AC Try.prog 28 [.ptr 0 0 0, str n] (hlook [(0, .box [.sl 1 v 0 w.b.length 1, .mp 2 0]), (1, .row (cl bc w.b) 1 v), (2, .map (me MStr (fun b : Int => i64 b) w.m))])
      (RetH (.tup []) [(0, .box [.sl 1 (v + nmC (labN n) w) 0 (wrName (labN n) w).b.length 1, .mp 2 0]), (1, .row (cl bc (wrName (labN n) w).b) 1 (v + nmC (labN n) w)), (2, .map (me MStr (fun b : Int => i64 b) (wrName (labN n) w).m))]) := by
  have h := c_wname (labN n) w v (canN_nm hn).1 hw hb
  rw [(canN_nm hn).2] at h
  exact h
theorem c_NamesA (t : Int) (b : List UInt8) (lv : Nat) (h : b.length ≤ 140737488351232) : AC Try.prog 64 [i64 t, .fz lv b.length (cl bc b)] emp (Ret (.fz 0 (namS t b).length (cl sc (namS t b)))) := by
  by_cases h6 : t = 6
  · subst h6; exact c_Names6 b lv h
  · rw [namS_ne h6]; exact c_rdata_Names t b lv h h6
theorem data_ok {t : Int} {d : List UInt8} (h : canS t d = true) : d.length ≤ 65535 ∧ (t = 15 → 2 ≤ d.length) ∧ (∀ n ∈ namS t d, canN n = true) ∧ preD t d ++ (namS t d).flatten <+: d := by
  by_cases h6 : t = 6
  · subst h6
    have ho : soaO d = true ∧ d.length ≤ 65535 := by
      rw [canS, if_pos rfl, Bool.and_eq_true] at h; exact ⟨h.2, by simpa using h.1⟩
    have hn : namS 6 d = [(soaV d).m, (soaV d).r] := by rw [namS, if_pos rfl, if_pos h]
    have hv : (soaV d).m = cutM d ∧ (soaV d).r = cutM (cutR d) := by rw [soaV, if_pos ho.1]; exact ⟨rfl, rfl⟩
    have h1 : cutO d = true ∧ cutO (cutR d) = true := by
      have := ho.1; unfold soaO at this; simp only [Bool.and_eq_true] at this; exact ⟨this.1, this.2.1⟩
    obtain ⟨a1, a2⟩ := cut_back h1.1
    obtain ⟨b1, b2⟩ := cut_back h1.2
    refine ⟨ho.2, by omega, ?_, ?_⟩
    · rw [hn, hv.1, hv.2]; intro n hm
      simp only [List.mem_cons, List.not_mem_nil, or_false] at hm
      rcases hm with rfl | rfl
      · exact a2
      · exact b2
    · rw [hn, hv.1, hv.2, preD, if_neg (by omega)]
      refine ⟨cutR (cutR d), ?_⟩
      conv => rhs; rw [a1, b1]
      simp
  · rw [canS_ne h6] at h
    rw [namS_ne h6]
    have hl : d.length ≤ 65535 := by
      unfold canR at h; split at h
      · cases h
      · omega
    by_cases h15 : t = 15
    · subst h15
      rw [canR_mx hl] at h
      simp only [Bool.and_eq_true, decide_eq_true_eq] at h
      have hn : namR 15 d = [d.drop 2] := by rw [namR, canR_mx hl, h.2, decide_eq_true h.1]; rfl
      refine ⟨hl, fun _ => by omega, ?_, ?_⟩
      · rw [hn]; intro n hm; simp at hm; subst hm; exact h.2
      · rw [hn, preD, if_pos rfl]; simp
    · by_cases hN : t = 2 ∨ t = 5 ∨ t = 12
      · rw [canR_name hN hl] at h
        rw [namR_name hN hl h]
        refine ⟨hl, fun e => absurd e h15, ?_, ?_⟩
        · intro n hm; simp at hm; subst hm; exact h
        · rw [preD, if_neg h15]; simp
      · have hn : namR t d = [] := by rw [namR]; split <;> simp [hN, h15]
        rw [hn, preD, if_neg h15]
        exact ⟨hl, fun e => absurd e h15, by simp, by simp⟩
def rNums (r : Rr) : List Int := [r.ty, r.cs, r.ttl / 2 ^ 16, lowW r.ttl, 0]
def wrNum (r : Rr) (w : Wr) : Wr := ⟨(wrName (labN r.nm) w).b ++ (rNums r).flatMap two, (wrName (labN r.nm) w).m⟩
def setSz (b : List UInt8) (n : Nat) : List UInt8 := (b.set ((n : Int) - 2).toNat (byte (((b.length : Int) - n) / 2 ^ 8))).set ((n : Int) - 1).toNat (byte ((b.length : Int) - n))
def dN (r : Rr) : Nat := (preD r.ty r.da).length + (namS r.ty r.da).flatten.length
def wrDat (r : Rr) (w1 : Wr) : Wr := ⟨(wrNames (namS r.ty r.da) ⟨w1.b ++ preD r.ty r.da, w1.m⟩).b ++ r.da.drop (dN r), (wrNames (namS r.ty r.da) ⟨w1.b ++ preD r.ty r.da, w1.m⟩).m⟩
def wrRec (r : Rr) (w : Wr) : Wr := ⟨setSz (wrDat r (wrNum r w)).b (wrNum r w).b.length, (wrDat r (wrNum r w)).m⟩
def wrOk (r : Rr) (w : Wr) : Bool := decide (((wrDat r (wrNum r w)).b.length : Int) - (wrNum r w).b.length < 65536)
def recC (r : Rr) (w : Wr) : Nat := nmC (labN r.nm) w + 5 + (if r.ty = 15 then 1 else 0) + nmsC (namS r.ty r.da) ⟨(wrNum r w).b ++ preD r.ty r.da, (wrNum r w).m⟩ + 1
theorem setSz_len (b : List UInt8) (n : Nat) : (setSz b n).length = b.length := by simp [setSz]
theorem flat_step {L : List (List UInt8)} {i : Nat} (h : i < L.length) : (L.take (i + 1)).flatten.length = (L.take i).flatten.length + (L.getD i default).length := by
  rw [flatten_take_step h, List.length_append]
set_option maxRecDepth 20000 in
set_option maxHeartbeats 2000000 in
theorem c_wrec (r : Rr) (w0 : Wr) (v0 : Nat) (hr : rOk r = true) (hw : WOk w0) (hb : w0.b.length ≤ 1000000000) : AC Try.prog 31 [.ptr 0 0 0, .agg (rrc r)] (hlook [(0, .box [.sl 1 (v0) 0 (w0.b).length 1, .mp 2 0]), (1, .row (cl bc (w0.b)) 1 (v0)), (2, .map (me MStr (fun b : Int => i64 b) (w0.m)))]) (RetH (tf (wrOk r w0)) [(0, .box [.sl 1 (v0 + recC r w0) 0 ((wrRec r w0).b).length 1, .mp 2 0]), (1, .row (cl bc ((wrRec r w0).b)) 1 (v0 + recC r w0)), (2, .map (me MStr (fun b : Int => i64 b) ((wrRec r w0).m)))]) := by
 obtain ⟨⟨⟨⟨r1, r2⟩, r3⟩, r4⟩, r5⟩ : (((canN r.nm = true ∧ twoB [r.ty, r.cs] = true) ∧ 0 ≤ r.ttl) ∧ r.ttl < 4294967296) ∧ canS r.ty r.da = true := by simpa [rOk] using hr
 obtain ⟨d1, d2, d3, d4⟩ := data_ok r5
 obtain ⟨c1, c2, c3⟩ := wrName_ok (canN_nm r1).1 hw
 have c4 := (canN_nm r1).1.2
 have d5 := namS_le r.ty r.da
 obtain ⟨w1, hw1⟩ : ∃ w, w = wrName (labN r.nm) w0 := ⟨_, rfl⟩
 have hwn : wrNum r w0 = ⟨w1.b ++ (rNums r).flatMap two, w1.m⟩ := by rw [hw1]; rfl
 rw [← hw1] at c1 c2 c3
 refine AC.intro te_ok (fn := Try.f31) ⟨Try.func31, rfl, rfl⟩ (Nat.le_of_ble_eq_true rfl) ?_
 refine AWp.seq ?_
 refine AWp.region ?_
 refine AOps.cons rfl rfl (q_box 100) ?_
 refine AOps.cons rfl rfl (q_assign) ?_
 refine AOps.nil ?_
 refine AWp.seq ?_
 refine AWp.region ?_
 refine AOps.cons rfl rfl (q_move) ?_
 refine AOps.cons rfl rfl (q_fa) ?_
 refine AOps.cons rfl rfl (q_load) ?_
 refine AOps.cons rfl rfl (q_callB (0) [(0, 0), (1, 1), (2, 2)] [] [(_, _), (_, _), (_, _)] (hobj := by repeat' (first | exact trivial | exact lv_ok rfl | exact lv_sl rfl rfl | exact lv_ptr rfl rfl | exact lv_mp rfl rfl | exact lobj_row (fun _ => rfl) | exact lobj_me (fun _ => rfl) | refine lobj_box ?_ | refine ⟨rfl, ⟨_, rfl, ?_⟩, ?_⟩ | refine ⟨?_, ?_⟩)) (hB := by repeat' (first | exact trivial | exact hb_rowc (lv := 0) (fun _ => rfl) | exact hb_me (lv := 0) (fun _ => rfl) | exact rfl | refine ⟨rfl, rfl, ?_, ?_⟩)) (hL := by repeat' (first | exact trivial | exact hl_row (fun _ => rfl) | exact hl_me (fun _ => rfl) | exact ⟨rfl, rfl⟩ | refine ⟨?_, ?_⟩)) (hc := (c_wnameC r.nm w0 v0 r1 hw (by omega)))) ?_
 refine AOps.nil ?_
 refine AWp.seq ?_
 refine AWp.region ?_
 rw [← hw1]
 refine AOps.cons rfl rfl (q_move) ?_
 refine AOps.cons rfl rfl (q_fa) ?_
 refine AOps.cons rfl rfl (q_load) ?_
 refine AOps.cons rfl rfl (q_fa) ?_
 refine AOps.cons rfl rfl (q_load) ?_
 refine AOps.cons rfl rfl (q_fa) ?_
 refine AOps.cons rfl rfl (q_load) ?_
 refine AOps.cons rfl rfl (q_shr 16) ?_
 refine AOps.cons rfl rfl (q_fa) ?_
 refine AOps.cons rfl rfl (q_load) ?_
 refine AOps.cons rfl rfl (q_and) ?_
 refine AOps.cons rfl rfl (q_bs 311 ic [_, _, _, _, 0] [(_, _), (_, _), (_, _), (_, _), (_, _)]) ?_
 refine AOps.cons rfl rfl (q_callB (0) [(0, 0), (1, 1), (2, 2)] [] [(_, _), (_, _), (_, _)] (hobj := by repeat' (first | exact trivial | exact lv_ok rfl | exact lv_sl rfl rfl | exact lv_ptr rfl rfl | exact lv_mp rfl rfl | exact lobj_row (fun _ => rfl) | exact lobj_me (fun _ => rfl) | refine lobj_box ?_ | refine ⟨rfl, ⟨_, rfl, ?_⟩, ?_⟩ | refine ⟨?_, ?_⟩)) (hB := by repeat' (first | exact trivial | exact hb_rowc (lv := 0) (fun _ => rfl) | exact hb_me (lv := 0) (fun _ => rfl) | exact rfl | refine ⟨rfl, rfl, ?_, ?_⟩)) (hL := by repeat' (first | exact trivial | exact hl_row (fun _ => rfl) | exact hl_me (fun _ => rfl) | exact ⟨rfl, rfl⟩ | refine ⟨?_, ?_⟩)) (hc := (c_short w1.b w1.m (v0 + nmC (labN r.nm) w0) (rNums r) 1 (by show _ + 2 * 5 ≤ _; omega)))) ?_
 refine AOps.nil ?_
 refine AWp.seq ?_
 refine AWp.region ?_
 obtain ⟨B1, hB1⟩ : ∃ b, b = w1.b ++ (rNums r).flatMap two := ⟨_, rfl⟩
 rw [← hB1] at hwn
 rw [← hB1]
 have hBl : B1.length = w1.b.length + 10 := by rw [hB1, List.length_append, flat_two]; rfl
 have hp : r.ty = 15 → preD r.ty r.da = r.da.take 2 ∧ (preD r.ty r.da).length = 2 := fun e => by rw [preD, if_pos e]; exact ⟨rfl, by rw [List.length_take]; have := d2 e; omega⟩
 have hq : r.ty ≠ 15 → preD r.ty r.da = [] := fun e => by rw [preD, if_neg e]
 have hd4 : (preD r.ty r.da).length + (namS r.ty r.da).flatten.length ≤ r.da.length := by have := d4.length_le; rw [List.length_append] at this; exact this
 refine AOps.cons rfl rfl (q_move) ?_
 refine AOps.cons rfl rfl (q_nil) ?_
 refine AOps.cons rfl rfl (q_fa) ?_
 refine AOps.cons rfl rfl (q_load) ?_
 refine AOps.cons rfl rfl (q_len) ?_
 refine AOps.cons rfl rfl (q_assign) ?_
 refine AOps.nil ?_
 refine AWp.seq ?_
 refine AWp.region ?_
 refine AOps.cons rfl rfl (q_fa) ?_
 refine AOps.cons rfl rfl (q_load) ?_
 refine AOps.cons rfl rfl (q_assign) ?_
 refine AOps.nil ?_
 refine AWp.cutR (α := List UInt8 × List UInt8 × Nat) [6, 34, 35, 36, 37, 38, 39, 40, 41, 42, 43, 44, 45, 46, 47, 48] (fun x_ => [(6, .fz 0 (x_.2.1).length (cl bc (x_.2.1)))]) (fun x_ => [(0, .box [.sl 1 (x_.2.2) 0 (x_.1).length 1, .mp 2 0]), (1, .row (cl bc (x_.1)) 1 (x_.2.2))]) (fun x_ => (x_.1) = B1 ++ preD r.ty r.da ∧ (x_.2.1) = r.da.drop (preD r.ty r.da).length ∧ (x_.2.2) = v0 + nmC (labN r.nm) w0 + 5 + (if r.ty = 15 then 1 else 0)) ?_ ?_
 ·
  refine AWp.seq ?_
  refine AWp.region ?_
  refine AOps.cons rfl rfl (q_fa) ?_
  refine AOps.cons rfl rfl (q_load) ?_
  refine AOps.dec rfl rfl (q_eql) (fun h5_2 => ?_) (fun h5_2 => ?_)
  ·
   refine AOps.nil ?_
   refine AWp.cond_t rfl ?_
   refine AWp.seq ?_
   refine AWp.draws [⟨0, [0], [], some 37, _, []⟩,
       ⟨1, [0], [], some 38, _, []⟩,
       ⟨2, [38], [0], some 39, _, []⟩,
       ⟨3, [39], [0], some 40, _, []⟩,
       ⟨4, [40], [0], some 41, _, []⟩,
       ⟨5, [6], [], some 42, _, []⟩,
       ⟨6, [42], [], some 43, _, []⟩,
       ⟨7, [41, 43], [1], some 44, _, [(1, _)]⟩,
       ⟨8, [37], [0], some 45, _, []⟩,
       ⟨9, [45], [0], some 46, _, []⟩,
       ⟨10, [44, 46], [0, 1], none, _, [(0, _)]⟩]
    [⟨0, [0], [], some 37, .any, []⟩,
        ⟨1, [0], [], some 38, .any, []⟩,
        ⟨2, [38], [0], some 39, .any, []⟩,
        ⟨3, [39], [0], some 40, .any, []⟩,
        ⟨4, [40], [0], some 41, .any, []⟩,
        ⟨5, [6], [], some 42, .any, []⟩,
        ⟨6, [42], [], some 43, .any, []⟩,
        ⟨7, [41, 43], [1], some 44, .any, [(1, .box [])]⟩,
        ⟨8, [37], [0], some 45, .any, []⟩,
        ⟨9, [45], [0], some 46, .any, []⟩,
        ⟨10, [44, 46], [0, 1], none, .any, [(0, .box [])]⟩]
    mixed_ok rfl (by kernel_rfl) ⟨DS.ok_over fun s0 => OpAt.go rfl rfl (q_move),
        DS.ok_over fun s0 => OpAt.go rfl rfl (q_move),
        DS.ok_over fun s0 => OpAt.go rfl rfl (q_nil),
        DS.ok_over fun s0 => OpAt.go rfl rfl (q_fa),
        DS.ok_over fun s0 => OpAt.go rfl rfl (q_load),
        DS.ok_over fun s0 => OpAt.go rfl rfl (q_move),
        DS.ok_over fun s0 => OpAt.go rfl rfl (q_sl),
        DS.ok_over fun s0 => OpAt.go rfl rfl (q_app),
        DS.ok_over fun s0 => OpAt.go rfl rfl (q_nil),
        DS.ok_over fun s0 => OpAt.go rfl rfl (q_fa),
        DS.ok_over fun s0 => OpAt.go rfl rfl (q_store), trivial⟩ ?_
   dsimp only [final, DS.upd, AS.seto]
   refine AWp.region ?_
   refine AOps.cons rfl rfl (q_move) ?_
   refine AOps.cons rfl rfl (q_sl) ?_
   refine AOps.cons rfl rfl (q_assign) ?_
   refine AOps.nil ?_
   refine ⟨(B1 ++ r.da.take 2, r.da.drop 2, v0 + nmC (labN r.nm) w0 + 5 + 1), ?_, Back.mk' (HasT.cons HasT.nil) (HasH.cons (HasH.cons HasH.nil))⟩
   try dsimp only
   exact ⟨by rw [(hp h5_2).1], by rw [(hp h5_2).2], by rw [if_pos h5_2]⟩
  ·
   refine AOps.nil ?_
   refine AWp.cond_f rfl ?_
   refine AWp.skip ?_
   refine ⟨(B1, r.da, v0 + nmC (labN r.nm) w0 + 5), ?_, Back.mk' (HasT.cons HasT.nil) (HasH.cons (HasH.cons HasH.nil))⟩
   try dsimp only
   exact ⟨by rw [hq h5_2]; simp, by rw [hq h5_2]; simp, by rw [if_neg h5_2]⟩
 ·
  rintro ⟨b2, D, v2⟩ hC8
  change b2 = B1 ++ preD r.ty r.da ∧ D = r.da.drop (preD r.ty r.da).length ∧ v2 = v0 + nmC (labN r.nm) w0 + 5 + (if r.ty = 15 then 1 else 0) at hC8
  obtain ⟨hb2, hD2, hv2⟩ := hC8
  refine AWp.as (s' := AS.over _ [6, 34, 35, 36, 37, 38, 39, 40, 41, 42, 43, 44, 45, 46, 47, 48] [(6, .fz 0 D.length (cl bc D))] [(0, .box [.sl 1 v2 0 b2.length 1, .mp 2 0]), (1, .row (cl bc b2) 1 v2)]) rfl ?_
  refine AWp.seq ?_
  refine AWp.seq ?_
  refine AWp.region ?_
  refine AOps.cons rfl rfl (q_fa) ?_
  refine AOps.cons rfl rfl (q_load) ?_
  refine AOps.cons rfl rfl (q_fa) ?_
  refine AOps.cons rfl rfl (q_load) ?_
  refine AOps.cons rfl rfl (q_call (0) (hc := (c_NamesA r.ty r.da 0 (by omega)))) ?_
  refine AOps.cons rfl rfl (q_len) ?_
  refine AOps.cons rfl rfl (q_move) ?_
  refine AOps.nil ?_
  refine AWp.block ?_
  refine AWp.loopR (α := Nat × Wr × Nat × List UInt8) [6, 8, 55, 56, 57, 58, 59, 60, 61, 62, 63, 64, 65, 66] (fun x_ => [(55, i64 (x_.1)), (6, .fz 0 (x_.2.2.2).length (cl bc (x_.2.2.2)))]) (fun x_ => [(0, .box [.sl 1 ((x_.2.2.1)) 0 ((x_.2.1).b).length 1, .mp 2 0]), (1, .row (cl bc ((x_.2.1).b)) 1 ((x_.2.2.1))), (2, .map (me MStr (fun b : Int => i64 b) ((x_.2.1).m)))]) (fun x_ => (x_.1) ≤ (namS r.ty r.da).length ∧ (x_.2.1) = wrNames ((namS r.ty r.da).take (x_.1)) ⟨b2, w1.m⟩ ∧ (x_.2.2.1) = v2 + nmsC ((namS r.ty r.da).take (x_.1)) ⟨b2, w1.m⟩ ∧ (x_.2.2.2) = r.da.drop ((preD r.ty r.da).length + ((namS r.ty r.da).take (x_.1)).flatten.length) ∧ WOk (x_.2.1) ∧ (x_.2.1).b.length ≤ b2.length + 255 * (x_.1) ∧ b2.length ≤ (x_.2.1).b.length) (fun x_ => (namS r.ty r.da).length - (x_.1)) (0, ⟨b2, w1.m⟩, v2, D) ?_ (Back.mk' (HasT.cons (HasT.cons HasT.nil)) (HasH.cons (HasH.cons (HasH.cons HasH.nil (h2 := by exact objIn_me (fun _ => rfl)) )))) ?_
  ·
   exact ⟨Nat.zero_le _, rfl, rfl, hD2, c1, Nat.le_refl _, Nat.le_refl _⟩
  ·
   rintro ⟨i, w, v, D⟩ hI9
   change i ≤ (namS r.ty r.da).length ∧ w = wrNames ((namS r.ty r.da).take i) ⟨b2, w1.m⟩ ∧ v = v2 + nmsC ((namS r.ty r.da).take i) ⟨b2, w1.m⟩ ∧ D = r.da.drop ((preD r.ty r.da).length + ((namS r.ty r.da).take i).flatten.length) ∧ WOk w ∧ w.b.length ≤ b2.length + 255 * i ∧ b2.length ≤ w.b.length at hI9
   obtain ⟨hi, hw, hv, hD, hW, hB, hB2⟩ := hI9
   refine AWp.as (s' := AS.over _ [6, 8, 55, 56, 57, 58, 59, 60, 61, 62, 63, 64, 65, 66] [(55, i64 i), (6, .fz 0 D.length (cl bc D))] [(0, .box [.sl 1 (v) 0 (w.b).length 1, .mp 2 0]), (1, .row (cl bc (w.b)) 1 (v)), (2, .map (me MStr (fun b : Int => i64 b) (w.m)))]) rfl ?_
   have hDl := congrArg List.length hD
   rw [List.length_drop] at hDl
   have hbl := congrArg List.length hb2
   rw [List.length_append] at hbl
   refine AWp.seq ?_
   refine AWp.region ?_
   refine AOps.dec rfl rfl (q_lss) (fun h9_0 => ?_) (fun h9_0 => ?_)
   ·
    refine AOps.nil ?_
    refine AWp.seq ?_
    refine AWp.cond_t rfl ?_
    refine AWp.skip ?_
    refine AWp.seq ?_
    refine AWp.block ?_
    refine AWp.seq ?_
    refine AWp.region ?_
    have hmem : (namS r.ty r.da).getD i default ∈ namS r.ty r.da := by rw [List.getD_eq_getElem?_getD, List.getElem?_eq_getElem (by omega)]; exact List.getElem_mem _
    have hst := wrNames_step (L := namS r.ty r.da) (i := i) (by omega) ⟨b2, w1.m⟩
    have hfs := flat_step (L := namS r.ty r.da) (i := i) (by omega)
    obtain ⟨k1, k2, k3⟩ := wrName_ok (canN_nm (d3 _ hmem)).1 hW
    have k4 := (canN_nm (d3 _ hmem)).1.2
    have k5 := flatten_take_le (namS r.ty r.da) (i + 1)
    have hgl : ((namS r.ty r.da)[i]?.getD default).length = ((namS r.ty r.da).getD i default).length := by rw [← List.getD_eq_getElem?_getD]
    have hgt : ((namS r.ty r.da).getD (i : Int).toNat default).length = ((namS r.ty r.da).getD i default).length := rfl
    refine AOps.cons rfl rfl (q_ix) ?_
    refine AOps.cons rfl rfl (q_load) ?_
    refine AOps.cons rfl rfl (q_assign) ?_
    refine AOps.nil ?_
    refine AWp.seq ?_
    refine AWp.region ?_
    refine AOps.cons rfl rfl (q_move) ?_
    refine AOps.cons rfl rfl (q_move) ?_
    refine AOps.cons rfl rfl (q_callB (0) [(0, 0), (1, 1), (2, 2)] [] [(_, _), (_, _), (_, _)] (hobj := by repeat' (first | exact trivial | exact lv_ok rfl | exact lv_sl rfl rfl | exact lv_ptr rfl rfl | exact lv_mp rfl rfl | exact lobj_row (fun _ => rfl) | exact lobj_me (fun _ => rfl) | refine lobj_box ?_ | refine ⟨rfl, ⟨_, rfl, ?_⟩, ?_⟩ | refine ⟨?_, ?_⟩)) (hB := by repeat' (first | exact trivial | exact hb_rowc (lv := 0) (fun _ => rfl) | exact hb_me (lv := 0) (fun _ => rfl) | exact rfl | refine ⟨rfl, rfl, ?_, ?_⟩)) (hL := by repeat' (first | exact trivial | exact hl_row (fun _ => rfl) | exact hl_me (fun _ => rfl) | exact ⟨rfl, rfl⟩ | refine ⟨?_, ?_⟩)) (hc := (c_wnameC ((namS r.ty r.da).getD i default) w v (d3 _ hmem) hW (by omega)))) ?_
    refine AOps.nil ?_
    refine AWp.region ?_
    refine AOps.cons rfl rfl (q_move) ?_
    refine AOps.cons rfl rfl (q_move) ?_
    refine AOps.cons rfl rfl (q_len_str) ?_
    refine AOps.cons rfl rfl (q_sl) ?_
    refine AOps.cons rfl rfl (q_assign) ?_
    refine AOps.nil ?_
    refine AWp.region ?_
    refine AOps.cons rfl rfl (q_add) ?_
    refine AOps.cons rfl rfl (q_move) ?_
    refine AOps.nil ?_
    refine ⟨(i + 1, wrName (labN ((namS r.ty r.da).getD i default)) w, v + nmC (labN ((namS r.ty r.da).getD i default)) w, D.drop ((namS r.ty r.da).getD i default).length), ?_, Back.mk' (HasT.cons (HasT.cons HasT.nil)) (HasH.cons (HasH.cons (HasH.cons HasH.nil (h2 := by exact objIn_me (fun _ => rfl)) ))), ?_⟩
    ·
     try dsimp only
     exact ⟨by omega, by rw [hst.1, hw], by rw [hst.2, hv, hw]; omega, by rw [hfs, hD, List.drop_drop]; congr 1; omega, k1, by omega, by omega⟩
    ·
     try dsimp only
     first | omega | (simp; omega)
   ·
    refine AOps.nil ?_
    refine AWp.seq ?_
    refine AWp.cond_f rfl ?_
    refine AWp.exit ?_
    refine AWp.seq ?_
    refine AWp.region ?_
    obtain rfl : i = (namS r.ty r.da).length := by omega
    rw [List.take_length] at hv hD hw hDl
    have hwd : wrDat r (wrNum r w0) = ⟨w.b ++ D, w.m⟩ := by
      rw [hwn, wrDat]
      show Wr.mk ((wrNames (namS r.ty r.da) ⟨B1 ++ preD r.ty r.da, w1.m⟩).b ++ r.da.drop (dN r)) (wrNames (namS r.ty r.da) ⟨B1 ++ preD r.ty r.da, w1.m⟩).m = _
      rw [← hb2, ← hw, hD]; rfl
    have hr1 : (wrRec r w0).b = setSz (w.b ++ D) B1.length := by rw [wrRec, hwd, hwn]
    have hr2 : (wrRec r w0).m = w.m := by rw [wrRec, hwd]
    have hr3 : (wrRec r w0).b.length = (w.b ++ D).length := by rw [hr1, setSz_len]
    have hr4 : v0 + recC r w0 = v + 1 := by
      rw [recC, hwn, hv, hv2]
      show v0 + (_ + 5 + _ + nmsC (namS r.ty r.da) ⟨B1 ++ preD r.ty r.da, w1.m⟩ + 1) = _
      rw [← hb2]; omega
    have hr5 : wrOk r w0 = decide (((w.b ++ D).length : Int) - B1.length < 65536) := by rw [wrOk, hwd, hwn]
    refine AOps.cons rfl rfl (q_move) ?_
    refine AOps.cons rfl rfl (q_move) ?_
    refine AOps.cons rfl rfl (q_nil) ?_
    refine AOps.cons rfl rfl (q_fa) ?_
    refine AOps.cons rfl rfl (q_load) ?_
    refine AOps.cons rfl rfl (q_move) ?_
    refine AOps.cons rfl rfl (q_app) ?_
    refine AOps.cons rfl rfl (q_nil) ?_
    refine AOps.cons rfl rfl (q_fa) ?_
    refine AOps.cons rfl rfl (q_store) ?_
    refine AOps.nil ?_
    refine AWp.seq ?_
    refine AWp.region ?_
    refine AOps.cons rfl rfl (q_move) ?_
    refine AOps.cons rfl rfl (q_nil) ?_
    refine AOps.cons rfl rfl (q_fa) ?_
    refine AOps.cons rfl rfl (q_load) ?_
    refine AOps.cons rfl rfl (q_len) ?_
    refine AOps.cons rfl rfl (q_move) ?_
    refine AOps.cons rfl rfl (q_sub) ?_
    refine AOps.cons rfl rfl (q_assign) ?_
    refine AOps.nil ?_
    refine AWp.seq ?_
    refine AWp.draws [⟨0, [0], [], some 83, _, []⟩,
        ⟨1, [83], [0], some 84, _, []⟩,
        ⟨2, [84], [0], some 85, _, []⟩,
        ⟨3, [85], [0], some 86, _, []⟩,
        ⟨4, [5], [], some 87, _, []⟩,
        ⟨5, [87], [], some 88, _, []⟩,
        ⟨6, [0], [], some 89, _, []⟩,
        ⟨7, [89], [0], some 90, _, []⟩,
        ⟨8, [90], [0], some 91, _, []⟩,
        ⟨9, [91], [0], some 92, _, []⟩,
        ⟨10, [5], [], some 93, _, []⟩,
        ⟨11, [93], [], some 94, _, []⟩,
        ⟨12, [9], [], some 95, _, []⟩,
        ⟨13, [95], [], some 96, _, []⟩,
        ⟨14, [96], [], some 97, _, []⟩,
        ⟨15, [9], [], some 98, _, []⟩,
        ⟨16, [98], [], some 99, _, []⟩,
        ⟨17, [86, 88], [1], some 100, _, []⟩,
        ⟨18, [97, 100], [1], none, _, [(1, _)]⟩,
        ⟨19, [92, 94], [1], some 101, _, []⟩,
        ⟨20, [99, 101], [1], none, _, [(1, _)]⟩]
     [⟨0, [0], [], some 83, .any, []⟩,
         ⟨1, [83], [0], some 84, .any, []⟩,
         ⟨2, [84], [0], some 85, .any, []⟩,
         ⟨3, [85], [0], some 86, .any, []⟩,
         ⟨4, [5], [], some 87, .any, []⟩,
         ⟨5, [87], [], some 88, .any, []⟩,
         ⟨6, [0], [], some 89, .any, []⟩,
         ⟨7, [89], [0], some 90, .any, []⟩,
         ⟨8, [90], [0], some 91, .any, []⟩,
         ⟨9, [91], [0], some 92, .any, []⟩,
         ⟨10, [5], [], some 93, .any, []⟩,
         ⟨11, [93], [], some 94, .any, []⟩,
         ⟨12, [9], [], some 95, .any, []⟩,
         ⟨13, [95], [], some 96, .any, []⟩,
         ⟨14, [96], [], some 97, .any, []⟩,
         ⟨15, [9], [], some 98, .any, []⟩,
         ⟨16, [98], [], some 99, .any, []⟩,
         ⟨17, [86, 88], [1], some 100, .any, []⟩,
         ⟨18, [97, 100], [1], none, .any, [(1, .box [])]⟩,
         ⟨19, [92, 94], [1], some 101, .any, []⟩,
         ⟨20, [99, 101], [1], none, .any, [(1, .box [])]⟩]
     mixed_ok rfl (by kernel_rfl) ⟨DS.ok_over fun s0 => OpAt.go rfl rfl (q_move),
         DS.ok_over fun s0 => OpAt.go rfl rfl (q_nil),
         DS.ok_over fun s0 => OpAt.go rfl rfl (q_fa),
         DS.ok_over fun s0 => OpAt.go rfl rfl (q_load),
         DS.ok_over fun s0 => OpAt.go rfl rfl (q_move),
         DS.ok_over fun s0 => OpAt.go rfl rfl (q_sub),
         DS.ok_over fun s0 => OpAt.go rfl rfl (q_move),
         DS.ok_over fun s0 => OpAt.go rfl rfl (q_nil),
         DS.ok_over fun s0 => OpAt.go rfl rfl (q_fa),
         DS.ok_over fun s0 => OpAt.go rfl rfl (q_load),
         DS.ok_over fun s0 => OpAt.go rfl rfl (q_move),
         DS.ok_over fun s0 => OpAt.go rfl rfl (q_sub),
         DS.ok_over fun s0 => OpAt.go rfl rfl (q_move),
         DS.ok_over fun s0 => OpAt.go rfl rfl (q_shr 8),
         DS.ok_over fun s0 => OpAt.go rfl rfl (q_conv_u8),
         DS.ok_over fun s0 => OpAt.go rfl rfl (q_move),
         DS.ok_over fun s0 => OpAt.go rfl rfl (q_conv_u8),
         DS.ok_over fun s0 => OpAt.go rfl rfl (q_ix),
         DS.ok_over fun s0 => OpAt.go rfl rfl (q_store),
         DS.ok_over fun s0 => OpAt.go rfl rfl (q_ix),
         DS.ok_over fun s0 => OpAt.go rfl rfl (q_store), trivial⟩ ?_
    dsimp only [final, DS.upd, AS.seto]
    refine AWp.seq ?_
    refine AWp.region ?_
    refine AOps.cons rfl rfl (q_move) ?_
    refine AOps.cons rfl rfl (q_lss) ?_
    refine AOps.cons rfl rfl (q_assign) ?_
    refine AOps.nil ?_
    refine AWp.ret ?_
    show Fin te Try.f31 _ _
    rw [hr3, hr1, hr2, hr4, hr5]
    refine q_retH (0) [] [_] [_] [(_, _), (_, _), (_, _)] ?_ (hobj := by repeat' (first | exact trivial | exact lv_ok rfl | exact lv_sl rfl rfl | exact lv_rn rfl rfl .row rfl | exact lv_ptr rfl rfl | exact lv_mp rfl rfl | exact lv_nilz | exact lv_row0 rfl rfl .row (fun _ => rfl) (Nat.le_of_ble_eq_true rfl) (fun _ => rfl) | exact lobj_row (fun _ => rfl) | exact lobj_rown (fun _ => rfl) | exact lobj_me (fun _ => rfl) | refine lobj_box ?_ | refine ⟨rfl, ⟨_, rfl, ?_⟩, ?_⟩ | refine ⟨?_, ?_⟩))
    rfl
end Go.Proofs.Ytkfccjbihcbmiaa.Fw


set_option linter.unusedVariables false
set_option linter.unusedSimpArgs false
namespace Go.Proofs.Ytkfccjbihcbmiaa.Fw
open Go.RowKit
theorem wrNames_ok : ∀ {L : List (List UInt8)} {w : Wr}, (∀ n ∈ L, canN n = true) → WOk w → WOk (wrNames L w) ∧ (wrNames L w).b.length ≤ w.b.length + 255 * L.length ∧ w.b.length ≤ (wrNames L w).b.length
  | [], w, _, hw => ⟨hw, Nat.le_refl _, Nat.le_refl _⟩
  | n :: L, w, hn, hw => by
    obtain ⟨a, b, c⟩ := wrName_ok (canN_nm (hn n (by simp))).1 hw
    have d := (canN_nm (hn n (by simp))).1.2
    obtain ⟨e, f, g⟩ := wrNames_ok (L := L) (fun x hx => hn x (by simp [hx])) a
    simp only [wrNames, List.length_cons]
    exact ⟨e, by omega, by omega⟩
theorem wrRec_ok {r : Rr} {w : Wr} (hr : rOk r = true) (hw : WOk w) : WOk (wrRec r w) := by
  obtain ⟨⟨⟨⟨r1, r2⟩, r3⟩, r4⟩, r5⟩ : (((canN r.nm = true ∧ twoB [r.ty, r.cs] = true) ∧ 0 ≤ r.ttl) ∧ r.ttl < 4294967296) ∧ canS r.ty r.da = true := by simpa [rOk] using hr
  have h1 := (wrName_ok (canN_nm r1).1 hw).1
  exact (wrNames_ok (data_ok r5).2.2.1 (w := ⟨(wrNum r w).b ++ preD r.ty r.da, (wrNum r w).m⟩) h1).1
def wrQ (q : Qu) (w : Wr) : Wr := ⟨(wrName (labN q.nm) w).b ++ [q.ty, q.cs].flatMap two, (wrName (labN q.nm) w).m⟩
theorem wrQ_ok {q : Qu} {w : Wr} (hq : qOk q = true) (hw : WOk w) : canN q.nm = true ∧ WOk (wrName (labN q.nm) w) ∧ WOk (wrQ q w) ∧ (wrName (labN q.nm) w).b.length ≤ w.b.length + 255 ∧ (wrQ q w).b.length ≤ w.b.length + 259 := by
  have hc : canN q.nm = true := by unfold qOk at hq; simp only [Bool.and_eq_true] at hq; exact hq.1
  obtain ⟨a, b, c⟩ := wrName_ok (canN_nm hc).1 hw
  have d := (canN_nm hc).1.2
  refine ⟨hc, a, a, by omega, ?_⟩
  rw [wrQ, List.length_append, flat_two]
  simp only [List.length_cons, List.length_nil]; omega
def encQ (qs : List Qu) (w : Wr) : Wr := qs.foldl (fun w q => wrQ q w) w
def stepR (p : Wr × Bool) (r : Rr) : Wr × Bool := if p.2 then (wrRec r p.1, wrOk r p.1 && decide (((wrRec r p.1).b.length : Int) ≤ 65535)) else p
def encR (rs : List Rr) (p : Wr × Bool) : Wr × Bool := rs.foldl stepR p
theorem encQ_step {l : List Qu} {i : Nat} (h : i < l.length) (w : Wr) : encQ (l.take (i + 1)) w = wrQ (l.getD i default) (encQ (l.take i) w) := by
  rw [take_step' h, encQ, List.foldl_append]; rfl
theorem encR_step {l : List Rr} {i : Nat} (h : i < l.length) (p : Wr × Bool) : encR (l.take (i + 1)) p = stepR (encR (l.take i) p) (l.getD i default) := by
  rw [take_step' h, encR, List.foldl_append]; rfl
def hdW (m : Msg) : Wr := ⟨hB (toHd m.h) m.qs.length m.an.length m.au.length m.ad.length, []⟩
def encW (m : Msg) : Wr × Bool := encR m.rrs (encQ m.qs (hdW m), decide (((encQ m.qs (hdW m)).b.length : Int) ≤ 65535))
def encB (m : Msg) : List UInt8 := if canM m then (if (encW m).2 then (encW m).1.b else []) else []
def encE (m : Msg) : Int := if canM m then (if (encW m).2 then 0 else 42) else 1
theorem canM_parts {m : Msg} (h : canM m = true) : hdO m ∧ (∀ q ∈ m.qs, qOk q = true) ∧ ∀ r ∈ m.rrs, rOk r = true := by
  rw [canM, any_nall, any_nall] at h
  simp only [Bool.and_eq_true, decide_eq_true_eq, List.all_eq_true] at h
  exact ⟨h.1.1, h.1.2, h.2⟩
set_option maxRecDepth 20000 in
set_option maxHeartbeats 2000000 in
theorem c_wire_Encode (m : Msg) (h : MsgOk m) (hn : NmOk m) : AC Try.prog 11 [.agg (msgC m)] emp (Ret (.tup [.fz 0 (encB m).length (cl bc (encB m)), i64 (encE m)])) := by
 refine AC.intro te_ok (fn := Try.f11) ⟨Try.func11, rfl, rfl⟩ (Nat.le_of_ble_eq_true rfl) ?_
 refine AWp.seq ?_
 refine AWp.region ?_
 refine AOps.cons rfl rfl (q_box 100) ?_
 refine AOps.cons rfl rfl (q_nilz (0) bc) ?_
 refine AOps.cons rfl rfl (q_assign) ?_
 refine AOps.nil ?_
 refine AWp.seq ?_
 refine AWp.seq ?_
 refine AWp.region ?_
 refine AOps.cons rfl rfl (q_load) ?_
 refine AOps.bool rfl rfl (q_call (0) (hc := (c_wire_Can m h hn))) (fun h1_1 => ?_) (fun h1_1 => ?_)
 ·
  refine AOps.cons rfl rfl (q_not) ?_
  refine AOps.nil ?_
  refine AWp.cond_f rfl ?_
  refine AWp.skip ?_
  refine AWp.seq ?_
  have hW0 : WOk (hdW m) := fun k a h => by cases h
  obtain ⟨p1, p2, p3⟩ := canM_parts (m := m) h1_1
  have hz := hE_iff.2 p1
  have hbl : (hdW m).b.length = 12 := by
    show (hB (toHd m.h) m.qs.length m.an.length m.au.length m.ad.length).length = 12
    rw [hB_yes p1, Hd.bytes_length]
  obtain ⟨k1, k2, k3, k4⟩ := hdO_counts p1
  have hrl : m.rrs.length ≤ 196605 := by simp only [Msg.rrs, List.length_append]; omega
  refine AWp.draws [⟨0, [1], [100], some 16, _, []⟩,
      ⟨1, [16], [100], some 17, _, []⟩,
      ⟨2, [1], [100], some 18, _, []⟩,
      ⟨3, [18], [], some 19, _, []⟩,
      ⟨4, [17, 19], [4048], some 20, _, [(4048, _)]⟩,
      ⟨5, [20], [], some 15, _, []⟩,
      ⟨6, [15], [4048], some 21, _, []⟩,
      ⟨7, [15], [4048], some 22, _, []⟩,
      ⟨8, [21], [], some 4, _, []⟩,
      ⟨9, [22], [], some 5, _, []⟩]
   [⟨0, [1], [100], some 16, .any, []⟩,
       ⟨1, [16], [100], some 17, .any, []⟩,
       ⟨2, [1], [100], some 18, .any, []⟩,
       ⟨3, [18], [], some 19, .any, []⟩,
       ⟨4, [17, 19], [4048], some 20, .any, [(4048, .box [])]⟩,
       ⟨5, [20], [], some 15, .any, []⟩,
       ⟨6, [15], [4048], some 21, .any, []⟩,
       ⟨7, [15], [4048], some 22, .any, []⟩,
       ⟨8, [21], [], some 4, .any, []⟩,
       ⟨9, [22], [], some 5, .any, []⟩]
   mixed_ok rfl (by kernel_rfl) ⟨DS.ok_over fun s0 => OpAt.go rfl rfl (q_fa),
       DS.ok_over fun s0 => OpAt.go rfl rfl (q_load),
       DS.ok_over fun s0 => OpAt.go rfl rfl (q_load),
       DS.ok_over fun s0 => OpAt.go rfl rfl (q_call (0) (hc := (c_wire_counts m))),
       DS.ok_over fun s0 => OpAt.go rfl rfl (q_callB (0) [] [(8, 4048)] [(_, _)] (hobj := by repeat' (first | exact trivial | exact lv_ok rfl | exact lv_sl rfl rfl | exact lv_ptr rfl rfl | exact lv_mp rfl rfl | exact lobj_row (fun _ => rfl) | exact lobj_me (fun _ => rfl) | refine lobj_box ?_ | refine ⟨rfl, ⟨_, rfl, ?_⟩, ?_⟩ | refine ⟨?_, ?_⟩)) (hB := by repeat' (first | exact trivial | exact hb_rowc (lv := 0) (fun _ => rfl) | exact hb_me (lv := 0) (fun _ => rfl) | exact rfl | refine ⟨rfl, rfl, ?_, ?_⟩)) (hL := by repeat' (first | exact trivial | exact hl_row (fun _ => rfl) | exact hl_me (fun _ => rfl) | exact ⟨rfl, rfl⟩ | refine ⟨?_, ?_⟩)) (hc := (co_header_Encode (toHd m.h) m.qs.length m.an.length m.au.length m.ad.length))),
       DS.ok_over fun s0 => OpAt.go rfl rfl (q_move),
       DS.ok_over fun s0 => OpAt.go rfl rfl (q_extract),
       DS.ok_over fun s0 => OpAt.go rfl rfl (q_extract),
       DS.ok_over fun s0 => OpAt.go rfl rfl (q_assign),
       DS.ok_over fun s0 => OpAt.go rfl rfl (q_assign), trivial⟩ ?_
  dsimp only [final, DS.upd, AS.seto]
  refine AWp.seq ?_
  refine AWp.seq ?_
  refine AWp.region ?_
  refine AOps.cons rfl rfl (q_move) ?_
  refine AOps.dec rfl rfl (q_neq) (fun h4_1 => ?_) (fun h4_1 => ?_)
  ·
   exfalso; exact h4_1 hz
  ·
   refine AOps.nil ?_
   refine AWp.cond_f rfl ?_
   refine AWp.skip ?_
   refine AWp.seq ?_
   refine AWp.region ?_
   refine AOps.cons rfl rfl (q_move) ?_
   refine AOps.cons rfl rfl (q_makeMap 701 MStr (fun b : Int => i64 b)) ?_
   refine AOps.cons rfl rfl (q_build [(_, _), (_, _)]) ?_
   refine AOps.cons rfl rfl (q_box 703) ?_
   refine AOps.cons rfl rfl (q_assign) ?_
   refine AOps.nil ?_
   refine AWp.seq ?_
   refine AWp.seq ?_
   refine AWp.region ?_
   refine AOps.cons rfl rfl (q_fa) ?_
   refine AOps.cons rfl rfl (q_load) ?_
   refine AOps.cons rfl rfl (q_len) ?_
   refine AOps.cons rfl rfl (q_move) ?_
   refine AOps.nil ?_
   refine AWp.block ?_
   refine AWp.loopR (α := Nat × Wr × Nat) [8, 33, 34, 35, 36, 37, 38, 39, 40, 41, 42, 43, 44, 45, 46, 47, 48] (fun x_ => [(33, i64 (x_.1))]) (fun x_ => [(703, .box [.sl 4048 ((x_.2.2)) 0 ((x_.2.1).b).length 1, .mp 701 0]), (4048, .row (cl bc ((x_.2.1).b)) 1 ((x_.2.2))), (701, .map (me MStr (fun b : Int => i64 b) ((x_.2.1).m)))]) (fun x_ => (x_.1) ≤ m.qs.length ∧ (x_.2.1) = encQ (m.qs.take (x_.1)) (hdW m) ∧ WOk (x_.2.1) ∧ (x_.2.1).b.length ≤ 12 + 259 * (x_.1)) (fun x_ => m.qs.length - (x_.1)) (0, hdW m, 0) ?_ (Back.mk' (HasT.cons HasT.nil) (HasH.cons (HasH.cons (HasH.cons HasH.nil (h2 := by exact objIn_me (fun _ => rfl)) )))) ?_
   ·
    exact ⟨Nat.zero_le _, rfl, hW0, by show (hdW m).b.length ≤ _; omega⟩
   ·
    rintro ⟨i, w, v⟩ hI8
    change i ≤ m.qs.length ∧ w = encQ (m.qs.take i) (hdW m) ∧ WOk w ∧ w.b.length ≤ 12 + 259 * i at hI8
    obtain ⟨hi, hw, hW, hB⟩ := hI8
    refine AWp.as (s' := AS.over _ [8, 33, 34, 35, 36, 37, 38, 39, 40, 41, 42, 43, 44, 45, 46, 47, 48] [(33, i64 i)] [(703, .box [.sl 4048 (v) 0 (w.b).length 1, .mp 701 0]), (4048, .row (cl bc (w.b)) 1 (v)), (701, .map (me MStr (fun b : Int => i64 b) (w.m)))]) rfl ?_
    refine AWp.seq ?_
    refine AWp.region ?_
    refine AOps.dec rfl rfl (q_lss) (fun h8_0 => ?_) (fun h8_0 => ?_)
    ·
     refine AOps.nil ?_
     refine AWp.seq ?_
     refine AWp.cond_t rfl ?_
     refine AWp.skip ?_
     refine AWp.seq ?_
     refine AWp.block ?_
     refine AWp.seq ?_
     refine AWp.region ?_
     have hq := wrQ_ok (p2 _ (getD_mem (i := i) (by omega))) hW
     have hst := encQ_step (l := m.qs) (i := i) (by omega) (hdW m)
     refine AOps.cons rfl rfl (q_ix) ?_
     refine AOps.cons rfl rfl (q_load) ?_
     refine AOps.cons rfl rfl (q_alloc 1002) ?_
     refine AOps.cons rfl rfl (q_store) ?_
     refine AOps.nil ?_
     refine AWp.seq ?_
     refine AWp.region ?_
     refine AOps.cons rfl rfl (q_move) ?_
     refine AOps.cons rfl rfl (q_fa) ?_
     refine AOps.cons rfl rfl (q_load) ?_
     refine AOps.cons rfl rfl (q_callB (0) [(0, 703), (1, 4048), (2, 701)] [] [(_, _), (_, _), (_, _)] (hobj := by repeat' (first | exact trivial | exact lv_ok rfl | exact lv_sl rfl rfl | exact lv_ptr rfl rfl | exact lv_mp rfl rfl | exact lobj_row (fun _ => rfl) | exact lobj_me (fun _ => rfl) | refine lobj_box ?_ | refine ⟨rfl, ⟨_, rfl, ?_⟩, ?_⟩ | refine ⟨?_, ?_⟩)) (hB := by repeat' (first | exact trivial | exact hb_rowc (lv := 0) (fun _ => rfl) | exact hb_me (lv := 0) (fun _ => rfl) | exact rfl | refine ⟨rfl, rfl, ?_, ?_⟩)) (hL := by repeat' (first | exact trivial | exact hl_row (fun _ => rfl) | exact hl_me (fun _ => rfl) | exact ⟨rfl, rfl⟩ | refine ⟨?_, ?_⟩)) (hc := (c_wnameC (m.qs.getD i default).nm w v hq.1 hW (by omega)))) ?_
     refine AOps.nil ?_
     refine AWp.region ?_
     refine AOps.cons rfl rfl (q_move) ?_
     refine AOps.cons rfl rfl (q_fa) ?_
     refine AOps.cons rfl rfl (q_load) ?_
     refine AOps.cons rfl rfl (q_fa) ?_
     refine AOps.cons rfl rfl (q_load) ?_
     refine AOps.cons rfl rfl (q_bs 1205 ic [_, _] [(_, _), (_, _)]) ?_
     refine AOps.cons rfl rfl (q_callB (0) [(0, 703), (1, 4048), (2, 701)] [] [(_, _), (_, _), (_, _)] (hobj := by repeat' (first | exact trivial | exact lv_ok rfl | exact lv_sl rfl rfl | exact lv_ptr rfl rfl | exact lv_mp rfl rfl | exact lobj_row (fun _ => rfl) | exact lobj_me (fun _ => rfl) | refine lobj_box ?_ | refine ⟨rfl, ⟨_, rfl, ?_⟩, ?_⟩ | refine ⟨?_, ?_⟩)) (hB := by repeat' (first | exact trivial | exact hb_rowc (lv := 0) (fun _ => rfl) | exact hb_me (lv := 0) (fun _ => rfl) | exact rfl | refine ⟨rfl, rfl, ?_, ?_⟩)) (hL := by repeat' (first | exact trivial | exact hl_row (fun _ => rfl) | exact hl_me (fun _ => rfl) | exact ⟨rfl, rfl⟩ | refine ⟨?_, ?_⟩)) (hc := (c_short (wrName (labN (m.qs.getD i default).nm) w).b (wrName (labN (m.qs.getD i default).nm) w).m (v + nmC (labN (m.qs.getD i default).nm) w) [(m.qs.getD i default).ty, (m.qs.getD i default).cs] 1 (by show _ + 2 * 2 ≤ _; omega)))) ?_
     refine AOps.nil ?_
     refine AWp.region ?_
     refine AOps.cons rfl rfl (q_add) ?_
     refine AOps.cons rfl rfl (q_move) ?_
     refine AOps.nil ?_
     refine ⟨(i + 1, wrQ (m.qs.getD i default) w, v + nmC (labN (m.qs.getD i default).nm) w + 2), ?_, Back.mk' (HasT.cons HasT.nil) (HasH.cons (HasH.cons (HasH.cons HasH.nil (h2 := by exact objIn_me (fun _ => rfl)) ))), ?_⟩
     ·
      try dsimp only
      exact ⟨by omega, by rw [hst, hw], hq.2.2.1, by have := hq.2.2.2.2; omega⟩
     ·
      try dsimp only
      first | omega | (simp; omega)
    ·
     refine AOps.nil ?_
     refine AWp.seq ?_
     refine AWp.cond_f rfl ?_
     refine AWp.exit ?_
     refine AWp.seq ?_
     refine AWp.region ?_
     obtain rfl : i = m.qs.length := by omega
     rw [List.take_length] at hw
     refine AOps.cons rfl rfl (q_move) ?_
     refine AOps.cons rfl rfl (q_nil) ?_
     refine AOps.cons rfl rfl (q_fa) ?_
     refine AOps.cons rfl rfl (q_load) ?_
     refine AOps.cons rfl rfl (q_len) ?_
     refine AOps.cons rfl rfl (q_leq) ?_
     refine AOps.cons rfl rfl (q_assign) ?_
     refine AOps.nil ?_
     refine AWp.seq ?_
     refine AWp.seq ?_
     refine AWp.region ?_
     refine AOps.cons rfl rfl (q_fa) ?_
     refine AOps.cons rfl rfl (q_load) ?_
     refine AOps.cons rfl rfl (q_fa) ?_
     refine AOps.cons rfl rfl (q_load) ?_
     refine AOps.cons rfl rfl (q_fa) ?_
     refine AOps.cons rfl rfl (q_load) ?_
     refine AOps.cons rfl rfl (q_bs 1506 (lc 0 rrc) [m.an, m.au, m.ad] [(_, _), (_, _), (_, _)]) ?_
     refine AOps.cons rfl rfl (q_call (0) (hc := (c_Concat_rr [m.an, m.au, m.ad] 1 (by simp) (by simp; omega)))) ?_
     refine AOps.cons rfl rfl (q_len) ?_
     refine AOps.cons rfl rfl (q_move) ?_
     rw [rrs_flat]
     refine AOps.nil ?_
     refine AWp.block ?_
     refine AWp.loopR (α := Nat × Wr × Nat × Bool) [9, 11, 64, 65, 66, 67, 68, 69, 70, 71, 72, 73, 74, 75, 76, 77, 78, 79, 80, 81, 82] (fun x_ => [(64, i64 (x_.1)), (9, tf (x_.2.2.2))]) (fun x_ => [(703, .box [.sl 4048 ((x_.2.2.1)) 0 ((x_.2.1).b).length 1, .mp 701 0]), (4048, .row (cl bc ((x_.2.1).b)) 1 ((x_.2.2.1))), (701, .map (me MStr (fun b : Int => i64 b) ((x_.2.1).m)))]) (fun x_ => (x_.1) ≤ m.rrs.length ∧ ((x_.2.1), (x_.2.2.2)) = encR (m.rrs.take (x_.1)) (encQ m.qs (hdW m), decide (((encQ m.qs (hdW m)).b.length : Int) ≤ 65535)) ∧ WOk (x_.2.1) ∧ ((x_.2.2.2) = true → ((x_.2.1).b.length : Int) ≤ 65535)) (fun x_ => m.rrs.length - (x_.1)) (0, w, v, decide ((w.b.length : Int) ≤ 65535)) ?_ (Back.mk' (HasT.cons (HasT.cons HasT.nil)) (HasH.cons (HasH.cons (HasH.cons HasH.nil (h2 := by exact objIn_me (fun _ => rfl)) )))) ?_
     ·
      exact ⟨Nat.zero_le _, by rw [hw]; rfl, hW, fun h => by simpa using h⟩
     ·
      rintro ⟨i, w, v, f⟩ hI15
      change i ≤ m.rrs.length ∧ (w, f) = encR (m.rrs.take i) (encQ m.qs (hdW m), decide (((encQ m.qs (hdW m)).b.length : Int) ≤ 65535)) ∧ WOk w ∧ (f = true → (w.b.length : Int) ≤ 65535) at hI15
      obtain ⟨hi, hw, hW, hF⟩ := hI15
      refine AWp.as (s' := AS.over _ [9, 11, 64, 65, 66, 67, 68, 69, 70, 71, 72, 73, 74, 75, 76, 77, 78, 79, 80, 81, 82] [(64, i64 i), (9, tf f)] [(703, .box [.sl 4048 (v) 0 (w.b).length 1, .mp 701 0]), (4048, .row (cl bc (w.b)) 1 (v)), (701, .map (me MStr (fun b : Int => i64 b) (w.m)))]) rfl ?_
      refine AWp.seq ?_
      refine AWp.region ?_
      refine AOps.dec rfl rfl (q_lss) (fun h15_0 => ?_) (fun h15_0 => ?_)
      ·
       refine AOps.nil ?_
       refine AWp.seq ?_
       refine AWp.cond_t rfl ?_
       refine AWp.skip ?_
       refine AWp.seq ?_
       refine AWp.block ?_
       refine AWp.seq ?_
       refine AWp.region ?_
       have hr := p3 _ (getD_mem (l := m.rrs) (i := i) (by omega))
       have hst := encR_step (l := m.rrs) (i := i) (by omega) (encQ m.qs (hdW m), decide (((encQ m.qs (hdW m)).b.length : Int) ≤ 65535))
       rw [← hw, stepR] at hst
       dsimp only at hst
       refine AOps.cons rfl rfl (q_ix) ?_
       refine AOps.cons rfl rfl (q_load) ?_
       refine AOps.cons rfl rfl (q_alloc 1702) ?_
       refine AOps.cons rfl rfl (q_store) ?_
       refine AOps.nil ?_
       refine AWp.region ?_
       refine AOps.bool rfl rfl (q_move) (fun h17_0 => ?_) (fun h17_0 => ?_)
       ·
        refine AOps.cons rfl rfl (q_move) ?_
        refine AOps.gcons rfl rfl rfl rfl rfl (q_move) ?_
        refine AOps.gcons rfl rfl rfl rfl rfl (q_load) ?_
        refine AOps.gcons rfl rfl rfl rfl rfl (q_callB (0) [(0, 703), (1, 4048), (2, 701)] [] [(_, _), (_, _), (_, _)] (hobj := by repeat' (first | exact trivial | exact lv_ok rfl | exact lv_sl rfl rfl | exact lv_ptr rfl rfl | exact lv_mp rfl rfl | exact lobj_row (fun _ => rfl) | exact lobj_me (fun _ => rfl) | refine lobj_box ?_ | refine ⟨rfl, ⟨_, rfl, ?_⟩, ?_⟩ | refine ⟨?_, ?_⟩)) (hB := by repeat' (first | exact trivial | exact hb_rowc (lv := 0) (fun _ => rfl) | exact hb_me (lv := 0) (fun _ => rfl) | exact rfl | refine ⟨rfl, rfl, ?_, ?_⟩)) (hL := by repeat' (first | exact trivial | exact hl_row (fun _ => rfl) | exact hl_me (fun _ => rfl) | exact ⟨rfl, rfl⟩ | refine ⟨?_, ?_⟩)) (hc := (c_wrec (m.rrs.getD i default) w v hr hW (by have := hF h17_0; omega)))) ?_
        refine AOps.cons rfl rfl (q_pick) ?_
        refine AOps.bool rfl rfl (q_move) (fun h17_6 => ?_) (fun h17_6 => ?_)
        ·
         refine AOps.gcons rfl rfl rfl rfl rfl (q_move) ?_
         refine AOps.gcons rfl rfl rfl rfl rfl (q_nil) ?_
         refine AOps.gcons rfl rfl rfl rfl rfl (q_fa) ?_
         refine AOps.gcons rfl rfl rfl rfl rfl (q_load) ?_
         refine AOps.gcons rfl rfl rfl rfl rfl (q_len) ?_
         refine AOps.gcons rfl rfl rfl rfl rfl (q_leq) ?_
         refine AOps.cons rfl rfl (q_pick) ?_
         refine AOps.cons rfl rfl (q_assign) ?_
         refine AOps.nil ?_
         refine AWp.region ?_
         refine AOps.cons rfl rfl (q_add) ?_
         refine AOps.cons rfl rfl (q_move) ?_
         refine AOps.nil ?_
         refine ⟨(i + 1, wrRec (m.rrs.getD i default) w, v + recC (m.rrs.getD i default) w, decide (((wrRec (m.rrs.getD i default) w).b.length : Int) ≤ 65535)), ?_, Back.mk' (HasT.cons (HasT.cons HasT.nil)) (HasH.cons (HasH.cons (HasH.cons HasH.nil (h2 := by exact objIn_me (fun _ => rfl)) ))), ?_⟩
         ·
          try dsimp only
          exact ⟨by omega, by rw [hst, if_pos h17_0, h17_6, Bool.true_and], wrRec_ok hr hW, fun h => by simpa using h⟩
         ·
          try dsimp only
          first | omega | (simp; omega)
        ·
         refine AOps.gskip rfl rfl rfl rfl rfl rfl rfl rfl ?_
         refine AOps.gskip rfl rfl rfl rfl rfl rfl rfl rfl ?_
         refine AOps.gskip rfl rfl rfl rfl rfl rfl rfl rfl ?_
         refine AOps.gskip rfl rfl rfl rfl rfl rfl rfl rfl ?_
         refine AOps.gskip rfl rfl rfl rfl rfl rfl rfl rfl ?_
         refine AOps.gskip rfl rfl rfl rfl rfl rfl rfl rfl ?_
         refine AOps.cons rfl rfl (q_pick) ?_
         refine AOps.cons rfl rfl (q_assign) ?_
         refine AOps.nil ?_
         refine AWp.region ?_
         refine AOps.cons rfl rfl (q_add) ?_
         refine AOps.cons rfl rfl (q_move) ?_
         refine AOps.nil ?_
         refine ⟨(i + 1, wrRec (m.rrs.getD i default) w, v + recC (m.rrs.getD i default) w, false), ?_, Back.mk' (HasT.cons (HasT.cons HasT.nil)) (HasH.cons (HasH.cons (HasH.cons HasH.nil (h2 := by exact objIn_me (fun _ => rfl)) ))), ?_⟩
         ·
          try dsimp only
          exact ⟨by omega, by rw [hst, if_pos h17_0, h17_6]; rfl, wrRec_ok hr hW, fun h => by cases h⟩
         ·
          try dsimp only
          first | omega | (simp; omega)
       ·
        refine AOps.cons rfl rfl (q_move) ?_
        refine AOps.gskip rfl rfl rfl rfl rfl rfl rfl rfl ?_
        refine AOps.gskip rfl rfl rfl rfl rfl rfl rfl rfl ?_
        refine AOps.gskip rfl rfl rfl rfl rfl rfl rfl rfl ?_
        refine AOps.cons rfl rfl (q_pick) ?_
        refine AOps.cons rfl rfl (q_move) ?_
        refine AOps.gskip rfl rfl rfl rfl rfl rfl rfl rfl ?_
        refine AOps.gskip rfl rfl rfl rfl rfl rfl rfl rfl ?_
        refine AOps.gskip rfl rfl rfl rfl rfl rfl rfl rfl ?_
        refine AOps.gskip rfl rfl rfl rfl rfl rfl rfl rfl ?_
        refine AOps.gskip rfl rfl rfl rfl rfl rfl rfl rfl ?_
        refine AOps.gskip rfl rfl rfl rfl rfl rfl rfl rfl ?_
        refine AOps.cons rfl rfl (q_pick) ?_
        refine AOps.cons rfl rfl (q_assign) ?_
        refine AOps.nil ?_
        refine AWp.region ?_
        refine AOps.cons rfl rfl (q_add) ?_
        refine AOps.cons rfl rfl (q_move) ?_
        refine AOps.nil ?_
        refine ⟨(i + 1, w, v, false), ?_, Back.mk' (HasT.cons (HasT.cons HasT.nil)) (HasH.cons (HasH.cons (HasH.cons HasH.nil (h2 := by exact objIn_me (fun _ => rfl)) ))), ?_⟩
        ·
         try dsimp only
         exact ⟨by omega, by rw [hst, if_neg (by simp [h17_0]), h17_0], hW, fun h => by cases h⟩
        ·
         try dsimp only
         first | omega | (simp; omega)
      ·
       refine AOps.nil ?_
       refine AWp.seq ?_
       refine AWp.cond_f rfl ?_
       refine AWp.exit ?_
       refine AWp.seq ?_
       refine AWp.seq ?_
       refine AWp.region ?_
       obtain rfl : i = m.rrs.length := by omega
       rw [List.take_length] at hw
       have hew : encW m = (w, f) := hw.symm
       refine AOps.bool rfl rfl (q_move) (fun h19_0 => ?_) (fun h19_0 => ?_)
       ·
        refine AOps.cons rfl rfl (q_not) ?_
        refine AOps.nil ?_
        refine AWp.cond_f rfl ?_
        refine AWp.skip ?_
        refine AWp.seq ?_
        refine AWp.region ?_
        refine AOps.cons rfl rfl (q_move) ?_
        refine AOps.cons rfl rfl (q_nil) ?_
        refine AOps.cons rfl rfl (q_fa) ?_
        refine AOps.cons rfl rfl (q_load) ?_
        refine AOps.cons rfl rfl (q_assign) ?_
        refine AOps.cons rfl rfl (q_assign) ?_
        refine AOps.nil ?_
        refine AWp.ret ?_
        show Fin te Try.f11 _ _
        refine q_ret (0) [_, _] [_, _] ?_
        rw [encB, encE, h1_1, hew, h19_0]; rfl
       ·
        refine AOps.cons rfl rfl (q_not) ?_
        refine AOps.nil ?_
        refine AWp.cond_t rfl ?_
        refine AWp.seq ?_
        refine AWp.region ?_
        refine AOps.cons rfl rfl (q_nilz (0) bc) ?_
        refine AOps.cons rfl rfl (q_assign) ?_
        refine AOps.nil ?_
        refine AWp.ret ?_
        show Fin te Try.f11 _ _
        refine q_ret (0) [_, _] [_, _] ?_
        rw [encB, encE, h1_1, hew, h19_0]; rfl
 ·
  refine AOps.cons rfl rfl (q_not) ?_
  refine AOps.nil ?_
  refine AWp.cond_t rfl ?_
  refine AWp.seq ?_
  refine AWp.region ?_
  refine AOps.cons rfl rfl (q_nilz (0) bc) ?_
  refine AOps.cons rfl rfl (q_assign) ?_
  refine AOps.nil ?_
  refine AWp.ret ?_
  show Fin te Try.f11 _ _
  refine q_ret (0) [_, _] [_, _] ?_
  rw [encB, encE, h1_1]; rfl
end Go.Proofs.Ytkfccjbihcbmiaa.Fw


set_option linter.unusedVariables false
set_option linter.unusedSimpArgs false
set_option linter.unusedSectionVars false
namespace Go.Proofs.Ytkfccjbihcbmiaa.Fw
open Go.RowKit
section rules
variable {n : Nat} {s : AS} {o : Oper} {d : Option Tmp} {Q : APost} {κ β : Type} [DecidableEq κ]
theorem q_insert {t kt et : TypeId} {x y z : Operand} {id : Nat} (K : MKey κ) {f : β → AV} {m : List (κ × β)} {k : κ} (v : β) {ti : TI} (ho : o.op = .insert t x y z := by exact rfl) (hx : s.ev x = .mp id 0 := by exact rfl) (hy : s.ev y = .v (K.kv k) := by exact rfl)
    (hob : s.h id = some (.map (me K f m)) := by exact rfl) (hz : s.ev z = f v := by exact rfl) (ht : te.get t = some ti := by exact rfl) (hk : ti.k = .map kt et := by exact rfl) (hkd : Try.prog.underlying kt = some K.d := by exact rfl)
    (hdd : o.dst = d := by conv => lhs; whnf) (hd : d.all (Nat.blt · n) = true := by exact rfl) : OpOk Try.prog n o s ((s.seth id (some (.map (me K f (mput m k v))))).put d (.v undef)) :=
  .chg hdd hd fun Λ w φ a hs => by
    obtain ⟨l, b, ents, clock, h1, h2, h3, h4, h5⟩ := map_at hs.hs hob
    have hxv := hs.ev x
    rw [hx] at hxv
    have e1 := rep_mp hxv h1 h3 h2
    have e2 := ev_v hs hy
    have e3 := hs.ev z
    rw [hz] at e3
    have hu := (te_ok.tells ht).map hk
    have hck := MapKept.run_checkKey (w := w) hkd (K.isKey k) false 9999
    rcases mfind m k with ⟨g1, g2, g3, _⟩ | ⟨j, p, g1, g2, g3, g4, g5, _⟩
    · have hf := MapKept.run_findKey (w := w) hkd (h5.none g2)
      have hc := Chg.map hs.hs h1 h2 h4 (.map (ents.push { key := K.kv k, val := a.eval z, born := clock }) (clock + 1))
      refine ⟨.skip, _, l, ?_, hc, ⟨b, _, _, h2, h3, (MapKept.heap_set h4).1, ?_, fun q r hq => ?_⟩, undef, .inr ⟨rfl, rfl⟩, .v⟩
      · simp [execOp, ho, e1, e2, Instr.mapUpdate, run_underlying hu, MapKept.run_getObj_map h4, hck, hf, Result.andThen, MapKept.run_setObj_map _ h4]
      · rw [g3]; simp [me, h5.size]
      · rw [g3, me, List.getElem?_map, Option.map_eq_some_iff] at hq
        obtain ⟨p, hp, rfl⟩ := hq
        by_cases hlt : q < m.length
        · rw [List.getElem?_append_left hlt] at hp
          obtain ⟨e, q1, q2, q3⟩ := h5.at' q p hp
          exact ⟨e, by rw [Array.getElem?_push, if_neg (by rw [h5.size]; omega)]; exact q1, q2, hc.rep q3⟩
        · rw [List.getElem?_append_right (by omega)] at hp
          have hq0 : q - m.length = 0 := by
            have := (List.getElem?_eq_some_iff.1 hp).1
            simp at this; omega
          rw [hq0] at hp
          simp at hp; subst hp
          exact ⟨{ key := K.kv k, val := a.eval z, born := clock }, by rw [Array.getElem?_push, if_pos (by rw [h5.size]; omega)], rfl, hc.rep e3⟩
    · obtain ⟨e, q1, q2, q3, q4⟩ := h5.some g1 g2 g3
      have hf := MapKept.run_findKey (w := w) hkd q4
      have hc := Chg.map hs.hs h1 h2 h4 (.map (ents.modify j fun e => { e with key := K.kv k, val := a.eval z }) clock)
      refine ⟨.skip, _, l, ?_, hc, ⟨b, _, _, h2, h3, (MapKept.heap_set h4).1, ?_, fun q r hq => ?_⟩, undef, .inr ⟨rfl, rfl⟩, .v⟩
      · simp [execOp, ho, e1, e2, Instr.mapUpdate, run_underlying hu, MapKept.run_getObj_map h4, hck, hf, Result.andThen, MapKept.run_setObj_map _ h4, q1, q2, Instr.keyThatStays, K.same]
      · rw [g5]; simp [me, h5.size]
      · rw [g5, me, List.getElem?_map, Option.map_eq_some_iff] at hq
        obtain ⟨p', hp, rfl⟩ := hq
        rw [List.getElem?_set] at hp
        by_cases hjq : j = q
        · subst hjq
          have hlt := (List.getElem?_eq_some_iff.1 g1).1
          simp [hlt] at hp; subst hp
          exact ⟨{ e with key := K.kv k, val := a.eval z }, by rw [Array.getElem?_modify, if_pos rfl, q1]; rfl, rfl, hc.rep e3⟩
        · rw [if_neg hjq] at hp
          obtain ⟨e', r1, r2, r3⟩ := h5.at' q p' hp
          exact ⟨e', by rw [Array.getElem?_modify, if_neg hjq]; exact r1, r2, hc.rep r3⟩
end rules
section jumpsR
variable {P : Program} {n : Nat} {Q : APost} {s : AS}
def AExit.jumpB (l : Nat) (J : AS → Prop) (Q : APost) : APost
  | .goto l', s' => l' = l ∧ J s'
  | e, s' => Q e s'
theorem AWp.jumpsR {α : Type} {c rest : Code} (l : Nat) (K : List Nat) (T : α → List (Nat × AV)) (H : α → List (Nat × AObj)) (I : α → Prop) (μ : α → Nat) (hf : findLabel c l = some (.seq .skip rest))
    (first : (∀ s', (∃ x, I x ∧ Back s s' K (T x) (H x)) → AWp P n (.seq (.label l) rest) (AExit.jumpTo l (fun x => s.over K (T x) (H x)) I Q) s') → AWp P n c (AExit.jumpTo l (fun x => s.over K (T x) (H x)) I Q) s)
    (pass : ∀ x, I x → AWp P n rest (AExit.jumpB l (fun s' => ∃ x', I x' ∧ Back s s' K (T x') (H x') ∧ μ x' < μ x) Q) (s.over K (T x) (H x))) : AWp P n (.scope c) Q s :=
  .dom fun hd => AWp.jumps l (fun x => s.over K (T x) (H x)) I μ hf (fun hj => first fun s' ⟨x, a, b⟩ => hj s' ⟨x, a, b.weak hd⟩) fun x hx => (pass x hx).mono fun e s' q => by
    cases e with
    | goto l' => obtain ⟨h1, x', h2, h3, h4⟩ := q; exact ⟨h1, x', h2, h3.weak hd, h4⟩
    | normal => exact q
    | exit id => exact q
    | ret => exact q
    | panic v => exact q
end jumpsR
section bad
theorem AC.bad {f : FuncId} {A : List AV} {h : Heap} {po : Option Value} {r : AV} {hl : List (Nat × AObj)} {hp : Int → List (Nat × AObj)} {x : Value} (hx : po = some x) (hc : AC Try.prog f A h (RetP po r hl hp)) : AC Try.prog f A h (RetP po (.fz 0 1 []) (hp 0) hp) := by
  subst hx
  exact hc.mono fun e h' k => k
theorem AWp.bot {P : Program} {n d : Nat} {c : Code} {Q : APost} {s : AS} (h : s.t d = .fz 0 1 []) : AWp P n c Q s := by
  intro Λ w φ a hs
  have e := hs.ev (.tmp d)
  have e2 : s.ev (.tmp d) = .fz 0 1 [] := h
  rw [e2] at e
  generalize a.eval (.tmp d) = v at e
  exfalso
  cases e with
  | fz vf h1 h2 h3 h4 h5 h6 => exact absurd h6 (by simp)
theorem OpAtX.bot {P : Program} {n d i : Nat} {ops : Array Oper} {QP : Value → AS → Prop} {s s' : AS} (h : s.t d = .fz 0 1 []) : OpAtX P n ops QP i s s' := by
  intro Λ w φ a hs
  have e := hs.ev (.tmp d)
  have e2 : s.ev (.tmp d) = .fz 0 1 [] := h
  rw [e2] at e
  generalize a.eval (.tmp d) = v at e
  exfalso
  cases e with
  | fz vf h1 h2 h3 h4 h5 h6 => exact absurd h6 (by simp)
end bad
end Go.Proofs.Ytkfccjbihcbmiaa.Fw


set_option linter.unusedVariables false
set_option linter.unusedSimpArgs false
namespace Go.Proofs.Ytkfccjbihcbmiaa.Fw
open Go.RowKit
def pE (e : Int) : Value := .iface 35 (.int .i64 e)
def pNo (c : Bool) (e : Int) : Option Value := if c then none else some (pE e)
theorem pNo_some {c : Bool} {e : Int} {x : Value} (h : pNo c e = some x) : c = false ∧ pE e = x := by
  cases c with
  | true => cases h
  | false => exact ⟨rfl, by simpa [pNo] using h⟩
theorem pNo_none {c : Bool} {e : Int} (h : pNo c e = none) : c = true := by
  cases c with
  | true => rfl
  | false => simp [pNo] at h
def perr {α : Type} : Except Int α → Option Value
  | .error e => some (pE e)
  | .ok _ => none
def resE {α : Type} [Inhabited α] : Except Int α → α
  | .error _ => default
  | .ok a => a
def kB (b : List UInt8) (i : Nat) : Nat := (b.getD i default).toNat
def toI (b : List UInt8) (i : Nat) : Nat := kB b i % 64 * 256 + kB b (i + 1)
theorem kB_lt (b : List UInt8) (i : Nat) : kB b i < 256 := (b.getD i default).toNat_lt
def rdN (b : List UInt8) (sh : Int) (p fi li : Nat) (bh : Option Nat) (n : List UInt8) : Except Int (List UInt8 × Nat) :=
  if h0 : li ≤ p then .error sh
  else if kB b p = 0 then (if n.length < 255 then .ok (n ++ [0], bh.getD (p + 1)) else .error 11)
  else if 192 ≤ kB b p then
    (if li ≤ p + 1 then .error sh
    else if h : toI b p < fi then rdN b sh (toI b p) (toI b p) b.length (some (bh.getD (p + 2))) n
    else .error 40)
  else if 64 ≤ kB b p then .error 10
  else if li < p + 1 + kB b p then .error sh
  else if (n ++ (b.take (p + 1 + kB b p)).drop p).length < 255 then rdN b sh (p + 1 + kB b p) fi li bh (n ++ (b.take (p + 1 + kB b p)).drop p)
  else .error 11
termination_by (fi, li - p)
decreasing_by
  · exact Prod.Lex.left _ _ h
  · exact Prod.Lex.right _ (by omega)
section rdN
variable {b : List UInt8} {sh : Int} {p fi li : Nat} {bh : Option Nat} {n : List UInt8}
theorem rdN_short (h : li ≤ p) : rdN b sh p fi li bh n = .error sh := by rw [rdN, dif_pos h]
theorem rdN_end (h : ¬ li ≤ p) (h1 : kB b p = 0) (h2 : n.length < 255) : rdN b sh p fi li bh n = .ok (n ++ [0], bh.getD (p + 1)) := by rw [rdN, dif_neg h, if_pos h1, if_pos h2]
theorem rdN_long0 (h : ¬ li ≤ p) (h1 : kB b p = 0) (h2 : ¬ n.length < 255) : rdN b sh p fi li bh n = .error 11 := by rw [rdN, dif_neg h, if_pos h1, if_neg h2]
theorem rdN_pshort (h : ¬ li ≤ p) (h1 : 192 ≤ kB b p) (h2 : li ≤ p + 1) : rdN b sh p fi li bh n = .error sh := by rw [rdN, dif_neg h, if_neg (by omega), if_pos h1, if_pos h2]
theorem rdN_pbad (h : ¬ li ≤ p) (h1 : 192 ≤ kB b p) (h2 : ¬ li ≤ p + 1) (h3 : ¬ toI b p < fi) : rdN b sh p fi li bh n = .error 40 := by rw [rdN, dif_neg h, if_neg (by omega), if_pos h1, if_neg h2, dif_neg h3]
theorem rdN_ptr (h : ¬ li ≤ p) (h1 : 192 ≤ kB b p) (h2 : ¬ li ≤ p + 1) (h3 : toI b p < fi) : rdN b sh p fi li bh n = rdN b sh (toI b p) (toI b p) b.length (some (bh.getD (p + 2))) n := by rw [rdN, dif_neg h, if_neg (by omega), if_pos h1, if_neg h2, dif_pos h3]
theorem rdN_label (h : ¬ li ≤ p) (h1 : 64 ≤ kB b p) (h2 : ¬ 192 ≤ kB b p) : rdN b sh p fi li bh n = .error 10 := by rw [rdN, dif_neg h, if_neg (by omega), if_neg h2, if_pos h1]
theorem rdN_lshort (h : ¬ li ≤ p) (h1 : kB b p ≠ 0) (h2 : ¬ 64 ≤ kB b p) (h3 : li < p + 1 + kB b p) : rdN b sh p fi li bh n = .error sh := by rw [rdN, dif_neg h, if_neg h1, if_neg (by omega), if_neg h2, if_pos h3]
theorem rdN_llong (h : ¬ li ≤ p) (h1 : kB b p ≠ 0) (h2 : ¬ 64 ≤ kB b p) (h3 : ¬ li < p + 1 + kB b p) (h4 : ¬ (n ++ (b.take (p + 1 + kB b p)).drop p).length < 255) : rdN b sh p fi li bh n = .error 11 := by rw [rdN, dif_neg h, if_neg h1, if_neg (by omega), if_neg h2, if_neg h3, if_neg h4]
theorem rdN_lab (h : ¬ li ≤ p) (h1 : kB b p ≠ 0) (h2 : ¬ 64 ≤ kB b p) (h3 : ¬ li < p + 1 + kB b p) (h4 : (n ++ (b.take (p + 1 + kB b p)).drop p).length < 255) : rdN b sh p fi li bh n = rdN b sh (p + 1 + kB b p) fi li bh (n ++ (b.take (p + 1 + kB b p)).drop p) := by rw [rdN, dif_neg h, if_neg h1, if_neg (by omega), if_neg h2, if_neg h3, if_pos h4]
end rdN
def bhI : Option Nat → Int
  | none => -1
  | some a => a
theorem bhI_neg {o : Option Nat} (h : bhI o < 0) : o = none := by
  cases o with
  | none => rfl
  | some a => simp only [bhI] at h; omega
theorem bhI_pos {o : Option Nat} (h : ¬ bhI o < 0) : ∃ a, o = some a := by
  cases o with
  | none => exact absurd (by decide) h
  | some a => exact ⟨a, rfl⟩
theorem and63 (k : Nat) : (((k : Int).toNat &&& (63 : Int).toNat : Nat) : Int) = ((k % 64 : Nat) : Int) := by
  rw [Int.toNat_natCast, show (63 : Int).toNat = 2 ^ 6 - 1 by decide, Nat.and_two_pow_sub_one_eq_mod]
theorem or_ptr (k : Nat) (q : UInt8) : ((((k % 64 : Nat) : Int) * 2 ^ 8).toNat ||| ((q.toNat : Int)).toNat : Nat) = k % 64 * 256 + q.toNat := by
  have hq := q.toNat_lt
  have e : (((k % 64 : Nat) : Int) * 2 ^ 8).toNat = 2 ^ 8 * (k % 64) := by omega
  rw [e, Int.toNat_natCast, ← Nat.two_pow_add_eq_or_of_lt (by omega : q.toNat < 2 ^ 8) (k % 64)]
  omega
theorem q_and63 {n : Nat} {s : AS} {o : Oper} {d : Option Tmp} {t u : TypeId} {x y : Operand} {k : Nat} (ho : o.op = .binOp .and t x y u := by exact rfl) (hx : s.ev x = i64 k := by exact rfl) (hy : s.ev y = i64 63 := by exact rfl) (hk : k < 256)
    (hdd : o.dst = d := by conv => lhs; whnf) (hd : d.all (Nat.blt · n) = true := by exact rfl) : OpOk Try.prog n o s (s.put d (i64 ((k % 64 : Nat) : Int))) := by
  rw [← and63]
  exact q_and ho hx hy (by omega) (by omega) hdd hd
theorem q_orp {n : Nat} {s : AS} {o : Oper} {d : Option Tmp} {t u : TypeId} {x y : Operand} {k : Nat} {q : UInt8} (ho : o.op = .binOp .or t x y u := by exact rfl) (hx : s.ev x = i64 (((k % 64 : Nat) : Int) * 2 ^ 8) := by exact rfl) (hy : s.ev y = i64 q.toNat := by exact rfl)
    (hdd : o.dst = d := by conv => lhs; whnf) (hd : d.all (Nat.blt · n) = true := by exact rfl) : OpOk Try.prog n o s (s.put d (i64 ((k % 64 * 256 + q.toNat : Nat) : Int))) := by
  have hq := q.toNat_lt
  rw [← or_ptr]
  exact q_or ho hx hy (by omega) (by omega) hdd hd
set_option maxRecDepth 20000 in
set_option maxHeartbeats 2000000 in
theorem c_wire_no (c : Bool) (e : Int) : AC Try.prog 68 [tf c, i64 e] (hlook []) (RetP (pNo c e) (.tup []) [] (fun k => [])) := by
 refine AC.intro te_ok (fn := Try.f68) ⟨Try.func68, rfl, rfl⟩ (Nat.le_of_ble_eq_true rfl) ?_
 refine AWp.seq ?_
 refine AWp.region ?_
 refine AOps.bool rfl rfl (q_move) (fun h0_0 => ?_) (fun h0_0 => ?_)
 ·
  refine AOps.cons rfl rfl (q_not) ?_
  refine AOps.nil ?_
  refine AWp.cond_f rfl ?_
  refine AWp.skip ?_
  show Fin te Try.f68 _ _
  obtain rfl : c = true := by simpa using h0_0
  refine Fin.retP (by rfl) ?_
  refine q_retH (0) [] [] [] [] ?_
  rfl
 ·
  refine AOps.cons rfl rfl (q_not) ?_
  refine AOps.nil ?_
  refine AWp.cond_t rfl ?_
  refine AWp.region ?_
  refine AOps.cons rfl rfl (q_move) ?_
  refine AOps.cons rfl rfl (q_mkif) ?_
  refine AOps.panic ?_
  show Post te Try.f68 _ (.panic _) _
  refine Post.panicH (0) (0) ?_ (by repeat' (first | exact trivial | exact lv_ok rfl | exact lv_sl rfl rfl | exact lv_ptr rfl rfl | exact lv_mp rfl rfl | exact lobj_row (fun _ => rfl) | refine lobj_box ?_ | refine ⟨rfl, ⟨_, rfl, ?_⟩, ?_⟩ | refine ⟨?_, ?_⟩)) rfl
  rw [show c = false by simpa using h0_0]; rfl
set_option maxRecDepth 20000 in
set_option maxHeartbeats 2000000 in
theorem c_rdname (b : List UInt8) (sh : Int) (p0 en : Nat) (hb : b.length ≤ 65535) (he : en ≤ b.length) (hp : p0 ≤ 100000) : AC Try.prog 70 [.ptr 0 0 0, i64 en, i64 sh] (hlook [(0, .box [.fz 1 b.length (cl bc b), i64 p0])]) (RetP (perr (rdN b sh p0 p0 en none [])) (str (resE (rdN b sh p0 p0 en none [])).1) [(0, .box [.fz 1 b.length (cl bc b), i64 (resE (rdN b sh p0 p0 en none [])).2])] (fun k => [(0, .box [.fz 1 b.length (cl bc b), i64 k])])) := by
 refine AC.intro te_ok (fn := Try.f70) ⟨Try.func70, rfl, rfl⟩ (Nat.le_of_ble_eq_true rfl) ?_
 refine AWp.seq ?_
 refine AWp.region ?_
 refine AOps.cons rfl rfl (q_assign) ?_
 refine AOps.nil ?_
 refine AWp.jumpsR (α := Nat × Nat × Nat × Option Nat × List UInt8 × Nat) 0 [6, 7, 8, 9, 10, 11, 12, 13, 14, 15, 16, 17, 18, 19, 20, 21, 22, 23, 24, 25, 26, 27, 28, 29, 30, 31, 32, 33, 34, 35, 36, 37, 38, 39, 40, 41, 42, 43, 44, 45, 46, 47, 48, 49, 50, 51, 52, 53, 54, 55, 56, 57, 58, 59, 60, 61, 62, 63, 64, 65, 66, 67, 68, 69, 70, 71, 72, 73, 74, 75, 76, 77, 78, 79, 80, 81, 82, 83, 84, 85, 86, 87, 88, 89, 90, 91, 92, 93, 94, 95, 96, 97, 98, 99, 100, 101, 102, 103, 104, 105, 106, 107, 108, 109, 110, 111, 112, 113, 114, 115, 116, 117, 118, 119, 120, 121, 122, 123] (fun x_ => [(8, i64 (x_.1)), (9, i64 (x_.2.1)), (10, i64 (x_.2.2.1)), (11, i64 (bhI (x_.2.2.2.1))), (7, .sl 200 (x_.2.2.2.2.2) 0 (x_.2.2.2.2.1).length 1)]) (fun x_ => [(200, .row (cl bc (x_.2.2.2.2.1)) 1 (x_.2.2.2.2.2))]) (fun x_ => rdN b sh (x_.1) (x_.2.1) (x_.2.2.1) (x_.2.2.2.1) (x_.2.2.2.2.1) = rdN b sh p0 p0 en none [] ∧ (x_.2.2.1) ≤ b.length ∧ (x_.2.2.2.2.1).length < 255 ∧ (x_.1) ≤ 200000 ∧ (x_.2.1) ≤ 100000) (fun x_ => (x_.2.1) * (b.length + 1) + ((x_.2.2.1) - (x_.1))) rfl (fun hj => ?_) ?_
 ·
  refine AWp.seq ?_
  refine AWp.region ?_
  refine AOps.cons rfl rfl (q_nilrow 200 1 bc) ?_
  refine AOps.nil ?_
  refine AWp.seq ?_
  refine AWp.draws [⟨0, [0], [], some 14, _, []⟩,
      ⟨1, [14], [0], some 15, _, []⟩,
      ⟨2, [15], [0], some 16, _, []⟩,
      ⟨3, [16], [0], some 17, _, []⟩,
      ⟨4, [0], [], some 18, _, []⟩,
      ⟨5, [18], [0], some 19, _, []⟩,
      ⟨6, [19], [0], some 20, _, []⟩,
      ⟨7, [20], [0], some 21, _, []⟩,
      ⟨8, [1], [], some 22, _, []⟩,
      ⟨9, [17], [], some 8, _, []⟩,
      ⟨10, [21], [], some 9, _, []⟩,
      ⟨11, [22], [], some 10, _, []⟩,
      ⟨12, [], [], some 11, _, []⟩]
   [⟨0, [0], [], some 14, .any, []⟩,
       ⟨1, [14], [0], some 15, .any, []⟩,
       ⟨2, [15], [0], some 16, .any, []⟩,
       ⟨3, [16], [0], some 17, .any, []⟩,
       ⟨4, [0], [], some 18, .any, []⟩,
       ⟨5, [18], [0], some 19, .any, []⟩,
       ⟨6, [19], [0], some 20, .any, []⟩,
       ⟨7, [20], [0], some 21, .any, []⟩,
       ⟨8, [1], [], some 22, .any, []⟩,
       ⟨9, [17], [], some 8, .any, []⟩,
       ⟨10, [21], [], some 9, .any, []⟩,
       ⟨11, [22], [], some 10, .any, []⟩,
       ⟨12, [], [], some 11, .any, []⟩]
   mixed_ok rfl (by kernel_rfl) ⟨DS.ok_over fun s0 => OpAt.go rfl rfl (q_move),
       DS.ok_over fun s0 => OpAt.go rfl rfl (q_nil),
       DS.ok_over fun s0 => OpAt.go rfl rfl (q_fa),
       DS.ok_over fun s0 => OpAt.go rfl rfl (q_load),
       DS.ok_over fun s0 => OpAt.go rfl rfl (q_move),
       DS.ok_over fun s0 => OpAt.go rfl rfl (q_nil),
       DS.ok_over fun s0 => OpAt.go rfl rfl (q_fa),
       DS.ok_over fun s0 => OpAt.go rfl rfl (q_load),
       DS.ok_over fun s0 => OpAt.go rfl rfl (q_move),
       DS.ok_over fun s0 => OpAt.go rfl rfl (q_assign),
       DS.ok_over fun s0 => OpAt.go rfl rfl (q_assign),
       DS.ok_over fun s0 => OpAt.go rfl rfl (q_assign),
       DS.ok_over fun s0 => OpAt.go rfl rfl (q_assign), trivial⟩ ?_
  dsimp only [final, DS.upd, AS.seto]
  refine hj _ ⟨(p0, p0, en, none, [], 0), ?_, Back.mk' (HasT.cons (HasT.cons (HasT.cons (HasT.cons (HasT.cons HasT.nil))))) (HasH.cons HasH.nil)⟩
  exact ⟨rfl, he, by show 0 < 255; decide, by show p0 ≤ _; omega, hp⟩
 ·
  rintro ⟨p, fi, li, bh, n, v⟩ hI
  change rdN b sh p fi li bh n = rdN b sh p0 p0 en none [] ∧ li ≤ b.length ∧ n.length < 255 ∧ p ≤ 200000 ∧ fi ≤ 100000 at hI
  obtain ⟨hE, hL, hN, hP, hF⟩ := hI
  refine AWp.as (s' := AS.over _ [6, 7, 8, 9, 10, 11, 12, 13, 14, 15, 16, 17, 18, 19, 20, 21, 22, 23, 24, 25, 26, 27, 28, 29, 30, 31, 32, 33, 34, 35, 36, 37, 38, 39, 40, 41, 42, 43, 44, 45, 46, 47, 48, 49, 50, 51, 52, 53, 54, 55, 56, 57, 58, 59, 60, 61, 62, 63, 64, 65, 66, 67, 68, 69, 70, 71, 72, 73, 74, 75, 76, 77, 78, 79, 80, 81, 82, 83, 84, 85, 86, 87, 88, 89, 90, 91, 92, 93, 94, 95, 96, 97, 98, 99, 100, 101, 102, 103, 104, 105, 106, 107, 108, 109, 110, 111, 112, 113, 114, 115, 116, 117, 118, 119, 120, 121, 122, 123] [(8, i64 p), (9, i64 fi), (10, i64 li), (11, i64 (bhI bh)), (7, .sl 200 v 0 n.length 1)] [(200, .row (cl bc n) 1 v)]) rfl ?_
  have hk256 := kB_lt b p
  refine AWp.seq ?_
  refine AWp.region ?_
  refine AOps.cons rfl rfl (q_move) ?_
  refine AOps.cons rfl rfl (q_move) ?_
  refine AOps.cons rfl rfl (q_lss) ?_
  refine AOps.cons rfl rfl (q_move) ?_
  refine AOps.callP (hp' := fun k => []) (1) [] [] [] (c_wire_no (decide ((p : Int) < (li : Int))) sh) (fun h3_4 => ?_) (fun x k h3_4 => ?_)
  ·
   refine AOps.nil ?_
   refine AWp.seq ?_
   refine AWp.region ?_
   have g1 : ¬ li ≤ p := by have := pNo_none h3_4; simp at this; omega
   refine AOps.cons rfl rfl (q_move) ?_
   refine AOps.cons rfl rfl (q_nil) ?_
   refine AOps.cons rfl rfl (q_fa) ?_
   refine AOps.cons rfl rfl (q_load) ?_
   refine AOps.cons rfl rfl (q_move) ?_
   refine AOps.cons rfl rfl (q_ix) ?_
   refine AOps.cons rfl rfl (q_load) ?_
   refine AOps.cons rfl rfl (q_conv_8i) ?_
   refine AOps.cons rfl rfl (q_assign) ?_
   refine AOps.nil ?_
   refine AWp.seq ?_
   refine AWp.block ?_
   refine AWp.seq ?_
   refine AWp.region ?_
   rw [show (b.getD ((p : Nat) : Int).toNat default).toNat = kB b p from rfl]
   refine AOps.cons rfl rfl (q_move) ?_
   refine AOps.dec rfl rfl (q_eql) (fun h5_1 => ?_) (fun h5_1 => ?_)
   ·
    refine AOps.cons rfl rfl (q_assign) ?_
    refine AOps.nil ?_
    refine AWp.cond_t rfl ?_
    refine AWp.seq ?_
    refine AWp.region ?_
    refine AOps.cons rfl rfl (q_move) ?_
    refine AOps.cons rfl rfl (q_len) ?_
    refine AOps.cons rfl rfl (q_lss) ?_
    refine AOps.callP (hp' := fun k => []) (1) [] [] [] (c_wire_no (decide ((n.length : Int) < 255)) 11) (fun h6_3 => ?_) (fun x k h6_3 => ?_)
    ·
     refine AOps.nil ?_
     refine AWp.seq ?_
     refine AWp.seq ?_
     refine AWp.region ?_
     have g2 : n.length < 255 := hN
     have hk0 : kB b p = 0 := by omega
     refine AOps.cons rfl rfl (q_move) ?_
     refine AOps.dec rfl rfl (q_lss) (fun h7_1 => ?_) (fun h7_1 => ?_)
     ·
      refine AOps.nil ?_
      refine AWp.cond_t rfl ?_
      refine AWp.region ?_
      obtain rfl := bhI_neg h7_1
      refine AOps.cons rfl rfl (q_move) ?_
      refine AOps.cons rfl rfl (q_add) ?_
      refine AOps.cons rfl rfl (q_assign) ?_
      refine AOps.nil ?_
      refine AWp.seq ?_
      refine AWp.region ?_
      refine AOps.cons rfl rfl (q_move) ?_
      refine AOps.cons rfl rfl (q_move) ?_
      refine AOps.cons rfl rfl (q_nil) ?_
      refine AOps.cons rfl rfl (q_fa) ?_
      refine AOps.cons rfl rfl (q_store) ?_
      refine AOps.nil ?_
      refine AWp.seq ?_
      refine AWp.region ?_
      refine AOps.cons rfl rfl (q_move) ?_
      refine AOps.cons rfl rfl (q_bs 1101 bc [0] [(_, _)]) ?_
      refine AOps.cons rfl rfl (q_app) ?_
      refine AOps.cons rfl rfl (q_conv_ls) ?_
      refine AOps.cons rfl rfl (q_assign) ?_
      refine AOps.nil ?_
      refine AWp.ret ?_
      show Fin te Try.f70 _ _
      rw [← hE, rdN_end g1 hk0 g2]
      refine Fin.retP (by rfl) ?_
      refine q_retHD (1) (0) [] [_] [_] [(_, _)] ?_
      rfl
     ·
      refine AOps.nil ?_
      refine AWp.cond_f rfl ?_
      refine AWp.skip ?_
      refine AWp.seq ?_
      refine AWp.region ?_
      obtain ⟨a, rfl⟩ := bhI_pos h7_1
      refine AOps.cons rfl rfl (q_move) ?_
      refine AOps.cons rfl rfl (q_move) ?_
      refine AOps.cons rfl rfl (q_nil) ?_
      refine AOps.cons rfl rfl (q_fa) ?_
      refine AOps.cons rfl rfl (q_store) ?_
      refine AOps.nil ?_
      refine AWp.seq ?_
      refine AWp.region ?_
      refine AOps.cons rfl rfl (q_move) ?_
      refine AOps.cons rfl rfl (q_bs 1101 bc [0] [(_, _)]) ?_
      refine AOps.cons rfl rfl (q_app) ?_
      refine AOps.cons rfl rfl (q_conv_ls) ?_
      refine AOps.cons rfl rfl (q_assign) ?_
      refine AOps.nil ?_
      refine AWp.ret ?_
      show Fin te Try.f70 _ _
      rw [← hE, rdN_end g1 hk0 g2]
      refine Fin.retP (by rfl) ?_
      refine q_retHD (1) (0) [] [_] [_] [(_, _)] ?_
      rfl
    ·
     show Post te Try.f70 _ (.panic _) _
     refine Post.panicH (1) (p0) ?_ (by repeat' (first | exact trivial | exact lv_ok rfl | exact lv_sl rfl rfl | exact lv_ptr rfl rfl | exact lv_mp rfl rfl | exact lobj_row (fun _ => rfl) | refine lobj_box ?_ | refine ⟨rfl, ⟨_, rfl, ?_⟩, ?_⟩ | refine ⟨?_, ?_⟩)) rfl
     obtain ⟨c1, rfl⟩ := pNo_some h6_3
     rw [← hE, rdN_long0 g1 (by omega) (by simp at c1; omega)]; rfl
   ·
    refine AOps.cons rfl rfl (q_assign) ?_
    refine AOps.nil ?_
    refine AWp.cond_f rfl ?_
    refine AWp.seq ?_
    refine AWp.region ?_
    refine AOps.cons rfl rfl (q_move) ?_
    refine AOps.dec rfl rfl (q_geq) (fun h11_1 => ?_) (fun h11_1 => ?_)
    ·
     refine AOps.cons rfl rfl (q_assign) ?_
     refine AOps.nil ?_
     refine AWp.cond_t rfl ?_
     refine AWp.seq ?_
     refine AWp.region ?_
     refine AOps.cons rfl rfl (q_move) ?_
     refine AOps.cons rfl rfl (q_add) ?_
     refine AOps.cons rfl rfl (q_move) ?_
     refine AOps.cons rfl rfl (q_lss) ?_
     refine AOps.cons rfl rfl (q_move) ?_
     refine AOps.callP (hp' := fun k => []) (1) [] [] [] (c_wire_no (decide ((p : Int) + 1 < (li : Int))) sh) (fun h12_5 => ?_) (fun x k h12_5 => ?_)
     ·
      refine AOps.nil ?_
      refine AWp.seq ?_
      refine AWp.region ?_
      have g2 : ¬ li ≤ p + 1 := by have := pNo_none h12_5; simp at this; omega
      have hk : 192 ≤ kB b p := by omega
      refine AOps.cons rfl rfl (q_move) ?_
      refine AOps.cons rfl rfl (q_and63 (k := kB b p) (hk := hk256)) ?_
      refine AOps.cons rfl rfl (q_shl 8) ?_
      refine AOps.cons rfl rfl (q_move) ?_
      refine AOps.cons rfl rfl (q_nil) ?_
      refine AOps.cons rfl rfl (q_fa) ?_
      refine AOps.cons rfl rfl (q_load) ?_
      refine AOps.cons rfl rfl (q_move) ?_
      refine AOps.cons rfl rfl (q_add) ?_
      refine AOps.cons rfl rfl (q_ix) ?_
      refine AOps.cons rfl rfl (q_load) ?_
      refine AOps.cons rfl rfl (q_conv_8i) ?_
      refine AOps.cons rfl rfl (q_orp (k := kB b p)) ?_
      refine AOps.cons rfl rfl (q_assign) ?_
      refine AOps.nil ?_
      refine AWp.seq ?_
      refine AWp.region ?_
      rw [show (kB b p % 64 * 256 + (b.getD ((p : Int) + 1).toNat default).toNat : Nat) = toI b p from rfl]
      refine AOps.cons rfl rfl (q_move) ?_
      refine AOps.cons rfl rfl (q_move) ?_
      refine AOps.cons rfl rfl (q_lss) ?_
      refine AOps.callP (hp' := fun k => []) (1) [] [] [] (c_wire_no (decide ((toI b p : Int) < (fi : Int))) 40) (fun h14_3 => ?_) (fun x k h14_3 => ?_)
      ·
       refine AOps.nil ?_
       refine AWp.seq ?_
       refine AWp.seq ?_
       refine AWp.region ?_
       have g3 : toI b p < fi := by have := pNo_none h14_3; simp at this; omega
       refine AOps.cons rfl rfl (q_move) ?_
       refine AOps.dec rfl rfl (q_lss) (fun h15_1 => ?_) (fun h15_1 => ?_)
       ·
        refine AOps.nil ?_
        refine AWp.cond_t rfl ?_
        refine AWp.region ?_
        obtain rfl := bhI_neg h15_1
        refine AOps.cons rfl rfl (q_move) ?_
        refine AOps.cons rfl rfl (q_add) ?_
        refine AOps.cons rfl rfl (q_assign) ?_
        refine AOps.nil ?_
        refine AWp.seq ?_
        refine AWp.draws [⟨0, [13], [], some 85, _, []⟩,
            ⟨1, [13], [], some 86, _, []⟩,
            ⟨2, [0], [], some 87, _, []⟩,
            ⟨3, [87], [0], some 88, _, []⟩,
            ⟨4, [88], [0], some 89, _, []⟩,
            ⟨5, [89], [0], some 90, _, []⟩,
            ⟨6, [90], [], some 91, _, []⟩,
            ⟨7, [85], [], some 8, _, []⟩,
            ⟨8, [86], [], some 9, _, []⟩,
            ⟨9, [91], [], some 10, _, []⟩]
         [⟨0, [13], [], some 85, .any, []⟩,
             ⟨1, [13], [], some 86, .any, []⟩,
             ⟨2, [0], [], some 87, .any, []⟩,
             ⟨3, [87], [0], some 88, .any, []⟩,
             ⟨4, [88], [0], some 89, .any, []⟩,
             ⟨5, [89], [0], some 90, .any, []⟩,
             ⟨6, [90], [], some 91, .any, []⟩,
             ⟨7, [85], [], some 8, .any, []⟩,
             ⟨8, [86], [], some 9, .any, []⟩,
             ⟨9, [91], [], some 10, .any, []⟩]
         mixed_ok rfl (by kernel_rfl) ⟨DS.ok_over fun s0 => OpAt.go rfl rfl (q_move),
             DS.ok_over fun s0 => OpAt.go rfl rfl (q_move),
             DS.ok_over fun s0 => OpAt.go rfl rfl (q_move),
             DS.ok_over fun s0 => OpAt.go rfl rfl (q_nil),
             DS.ok_over fun s0 => OpAt.go rfl rfl (q_fa),
             DS.ok_over fun s0 => OpAt.go rfl rfl (q_load),
             DS.ok_over fun s0 => OpAt.go rfl rfl (q_len),
             DS.ok_over fun s0 => OpAt.go rfl rfl (q_assign),
             DS.ok_over fun s0 => OpAt.go rfl rfl (q_assign),
             DS.ok_over fun s0 => OpAt.go rfl rfl (q_assign), trivial⟩ ?_
        dsimp only [final, DS.upd, AS.seto]
        refine AWp.goto ?_
        refine ⟨rfl, (toI b p, toI b p, b.length, some (p + 2), n, v), ?_, Back.mk' (HasT.cons (HasT.cons (HasT.cons (HasT.cons (HasT.cons HasT.nil))))) (HasH.cons HasH.nil), ?_⟩
        ·
         try dsimp only
         exact ⟨by rw [← hE, rdN_ptr g1 hk g2 g3]; rfl, Nat.le_refl _, hN, by omega, by omega⟩
        ·
         try dsimp only
         have := Nat.mul_le_mul_right (b.length + 1) (show toI b p + 1 ≤ fi by omega)
         rw [Nat.succ_mul] at this; omega
       ·
        refine AOps.nil ?_
        refine AWp.cond_f rfl ?_
        refine AWp.skip ?_
        refine AWp.seq ?_
        obtain ⟨a, rfl⟩ := bhI_pos h15_1
        refine AWp.draws [⟨0, [13], [], some 85, _, []⟩,
            ⟨1, [13], [], some 86, _, []⟩,
            ⟨2, [0], [], some 87, _, []⟩,
            ⟨3, [87], [0], some 88, _, []⟩,
            ⟨4, [88], [0], some 89, _, []⟩,
            ⟨5, [89], [0], some 90, _, []⟩,
            ⟨6, [90], [], some 91, _, []⟩,
            ⟨7, [85], [], some 8, _, []⟩,
            ⟨8, [86], [], some 9, _, []⟩,
            ⟨9, [91], [], some 10, _, []⟩]
         [⟨0, [13], [], some 85, .any, []⟩,
             ⟨1, [13], [], some 86, .any, []⟩,
             ⟨2, [0], [], some 87, .any, []⟩,
             ⟨3, [87], [0], some 88, .any, []⟩,
             ⟨4, [88], [0], some 89, .any, []⟩,
             ⟨5, [89], [0], some 90, .any, []⟩,
             ⟨6, [90], [], some 91, .any, []⟩,
             ⟨7, [85], [], some 8, .any, []⟩,
             ⟨8, [86], [], some 9, .any, []⟩,
             ⟨9, [91], [], some 10, .any, []⟩]
         mixed_ok rfl (by kernel_rfl) ⟨DS.ok_over fun s0 => OpAt.go rfl rfl (q_move),
             DS.ok_over fun s0 => OpAt.go rfl rfl (q_move),
             DS.ok_over fun s0 => OpAt.go rfl rfl (q_move),
             DS.ok_over fun s0 => OpAt.go rfl rfl (q_nil),
             DS.ok_over fun s0 => OpAt.go rfl rfl (q_fa),
             DS.ok_over fun s0 => OpAt.go rfl rfl (q_load),
             DS.ok_over fun s0 => OpAt.go rfl rfl (q_len),
             DS.ok_over fun s0 => OpAt.go rfl rfl (q_assign),
             DS.ok_over fun s0 => OpAt.go rfl rfl (q_assign),
             DS.ok_over fun s0 => OpAt.go rfl rfl (q_assign), trivial⟩ ?_
        dsimp only [final, DS.upd, AS.seto]
        refine AWp.goto ?_
        refine ⟨rfl, (toI b p, toI b p, b.length, some a, n, v), ?_, Back.mk' (HasT.cons (HasT.cons (HasT.cons (HasT.cons (HasT.cons HasT.nil))))) (HasH.cons HasH.nil), ?_⟩
        ·
         try dsimp only
         exact ⟨by rw [← hE, rdN_ptr g1 hk g2 g3]; rfl, Nat.le_refl _, hN, by omega, by omega⟩
        ·
         try dsimp only
         have := Nat.mul_le_mul_right (b.length + 1) (show toI b p + 1 ≤ fi by omega)
         rw [Nat.succ_mul] at this; omega
      ·
       show Post te Try.f70 _ (.panic _) _
       refine Post.panicH (1) (p0) ?_ (by repeat' (first | exact trivial | exact lv_ok rfl | exact lv_sl rfl rfl | exact lv_ptr rfl rfl | exact lv_mp rfl rfl | exact lobj_row (fun _ => rfl) | refine lobj_box ?_ | refine ⟨rfl, ⟨_, rfl, ?_⟩, ?_⟩ | refine ⟨?_, ?_⟩)) rfl
       obtain ⟨c1, rfl⟩ := pNo_some h14_3
       rw [← hE, rdN_pbad g1 hk g2 (by simp at c1; omega)]; rfl
     ·
      show Post te Try.f70 _ (.panic _) _
      refine Post.panicH (1) (p0) ?_ (by repeat' (first | exact trivial | exact lv_ok rfl | exact lv_sl rfl rfl | exact lv_ptr rfl rfl | exact lv_mp rfl rfl | exact lobj_row (fun _ => rfl) | refine lobj_box ?_ | refine ⟨rfl, ⟨_, rfl, ?_⟩, ?_⟩ | refine ⟨?_, ?_⟩)) rfl
      obtain ⟨c1, rfl⟩ := pNo_some h12_5
      rw [← hE, rdN_pshort g1 (by omega) (by simp at c1; omega)]; rfl
    ·
     refine AOps.cons rfl rfl (q_assign) ?_
     refine AOps.nil ?_
     refine AWp.cond_f rfl ?_
     refine AWp.seq ?_
     refine AWp.region ?_
     refine AOps.cons rfl rfl (q_move) ?_
     refine AOps.dec rfl rfl (q_gtr) (fun h18_1 => ?_) (fun h18_1 => ?_)
     ·
      refine AOps.cons rfl rfl (q_assign) ?_
      refine AOps.nil ?_
      refine AWp.cond_t rfl ?_
      refine AWp.region ?_
      refine AOps.cons rfl rfl (q_mkif) ?_
      refine AOps.panic ?_
      show Post te Try.f70 _ (.panic _) _
      refine Post.panicH (1) (p0) ?_ (by repeat' (first | exact trivial | exact lv_ok rfl | exact lv_sl rfl rfl | exact lv_ptr rfl rfl | exact lv_mp rfl rfl | exact lobj_row (fun _ => rfl) | refine lobj_box ?_ | refine ⟨rfl, ⟨_, rfl, ?_⟩, ?_⟩ | refine ⟨?_, ?_⟩)) rfl
      rw [← hE, rdN_label g1 (by omega) (by omega)]; rfl
     ·
      refine AOps.cons rfl rfl (q_assign) ?_
      refine AOps.nil ?_
      refine AWp.cond_f rfl ?_
      refine AWp.skip ?_
      refine AWp.seq ?_
      refine AWp.region ?_
      have hk0 : kB b p ≠ 0 := by omega
      have hk1 : ¬ 64 ≤ kB b p := by omega
      refine AOps.cons rfl rfl (q_move) ?_
      refine AOps.cons rfl rfl (q_add) ?_
      refine AOps.cons rfl rfl (q_move) ?_
      refine AOps.cons rfl rfl (q_add) ?_
      refine AOps.cons rfl rfl (q_move) ?_
      refine AOps.cons rfl rfl (q_leq) ?_
      refine AOps.cons rfl rfl (q_move) ?_
      refine AOps.callP (hp' := fun k => []) (1) [] [] [] (c_wire_no (decide ((p : Int) + 1 + (kB b p : Int) ≤ (li : Int))) sh) (fun h20_7 => ?_) (fun x k h20_7 => ?_)
      ·
       refine AOps.nil ?_
       refine AWp.seq ?_
       refine AWp.region ?_
       have g2 : ¬ li < p + 1 + kB b p := by have := pNo_none h20_7; simp at this; omega
       refine AOps.cons rfl rfl (q_move) ?_
       refine AOps.cons rfl rfl (q_move) ?_
       refine AOps.cons rfl rfl (q_nil) ?_
       refine AOps.cons rfl rfl (q_fa) ?_
       refine AOps.cons rfl rfl (q_load) ?_
       refine AOps.cons rfl rfl (q_move) ?_
       refine AOps.cons rfl rfl (q_move) ?_
       refine AOps.cons rfl rfl (q_add) ?_
       refine AOps.cons rfl rfl (q_move) ?_
       refine AOps.cons rfl rfl (q_add) ?_
       refine AOps.cons rfl rfl (q_sl) ?_
       refine AOps.cons rfl rfl (q_app) ?_
       refine AOps.cons rfl rfl (q_assign) ?_
       refine AOps.nil ?_
       refine AWp.seq ?_
       refine AWp.region ?_
       rw [show ((p : Int) + 1 + (kB b p : Int)).toNat = p + 1 + kB b p by omega, show ((p : Nat) : Int).toNat = p by omega]
       obtain ⟨N, hNN⟩ : ∃ N, N = n ++ (b.take (p + 1 + kB b p)).drop p := ⟨_, rfl⟩
       rw [← hNN]
       have hNl : N.length = n.length + (1 + kB b p) := by rw [hNN, List.length_append, List.length_drop, List.length_take]; omega
       refine AOps.cons rfl rfl (q_move) ?_
       refine AOps.cons rfl rfl (q_len) ?_
       refine AOps.cons rfl rfl (q_lss) ?_
       refine AOps.callP (hp' := fun k => []) (1) [] [] [] (c_wire_no (decide ((N.length : Int) < 255)) 11) (fun h22_3 => ?_) (fun x k h22_3 => ?_)
       ·
        refine AOps.nil ?_
        refine AWp.seq ?_
        refine AWp.region ?_
        have g3 : N.length < 255 := by have := pNo_none h22_3; simp at this; omega
        refine AOps.cons rfl rfl (q_move) ?_
        refine AOps.cons rfl rfl (q_move) ?_
        refine AOps.cons rfl rfl (q_add) ?_
        refine AOps.cons rfl rfl (q_add) ?_
        refine AOps.cons rfl rfl (q_assign) ?_
        refine AOps.nil ?_
        refine AWp.goto ?_
        refine ⟨rfl, (p + 1 + kB b p, fi, li, bh, N, v + 1), ?_, Back.mk' (HasT.cons (HasT.cons (HasT.cons (HasT.cons (HasT.cons HasT.nil)))) (h1 := by exact i64_eq (by omega)) ) (HasH.cons HasH.nil), ?_⟩
        ·
         try dsimp only
         exact ⟨by rw [← hE, rdN_lab g1 hk0 hk1 g2 (by rw [← hNN]; omega), ← hNN], hL, by omega, by omega, hF⟩
        ·
         try dsimp only
         omega
       ·
        show Post te Try.f70 _ (.panic _) _
        refine Post.panicH (1) (p0) ?_ (by repeat' (first | exact trivial | exact lv_ok rfl | exact lv_sl rfl rfl | exact lv_ptr rfl rfl | exact lv_mp rfl rfl | exact lobj_row (fun _ => rfl) | refine lobj_box ?_ | refine ⟨rfl, ⟨_, rfl, ?_⟩, ?_⟩ | refine ⟨?_, ?_⟩)) rfl
        obtain ⟨c1, rfl⟩ := pNo_some h22_3
        rw [← hE, rdN_llong g1 hk0 hk1 g2 (by rw [← hNN]; simp at c1; omega)]; rfl
      ·
       show Post te Try.f70 _ (.panic _) _
       refine Post.panicH (1) (p0) ?_ (by repeat' (first | exact trivial | exact lv_ok rfl | exact lv_sl rfl rfl | exact lv_ptr rfl rfl | exact lv_mp rfl rfl | exact lobj_row (fun _ => rfl) | refine lobj_box ?_ | refine ⟨rfl, ⟨_, rfl, ?_⟩, ?_⟩ | refine ⟨?_, ?_⟩)) rfl
       obtain ⟨c1, rfl⟩ := pNo_some h20_7
       rw [← hE, rdN_lshort g1 hk0 hk1 (by simp at c1; omega)]; rfl
  ·
   show Post te Try.f70 _ (.panic _) _
   refine Post.panicH (1) (p0) ?_ (by repeat' (first | exact trivial | exact lv_ok rfl | exact lv_sl rfl rfl | exact lv_ptr rfl rfl | exact lv_mp rfl rfl | exact lobj_row (fun _ => rfl) | refine lobj_box ?_ | refine ⟨rfl, ⟨_, rfl, ?_⟩, ?_⟩ | refine ⟨?_, ?_⟩)) rfl
   obtain ⟨c1, rfl⟩ := pNo_some h3_4
   rw [← hE, rdN_short (by simp at c1; omega)]; rfl
end Go.Proofs.Ytkfccjbihcbmiaa.Fw


set_option linter.unusedVariables false
set_option linter.unusedSimpArgs false
namespace Go.Proofs.Ytkfccjbihcbmiaa.Fw
open Go.RowKit
theorem perr_none {α : Type} {r : Except Int α} (h : perr r = none) : ∃ a, r = .ok a := by
  cases r with
  | error e => simp [perr] at h
  | ok a => exact ⟨a, rfl⟩
theorem perr_some {α : Type} {r : Except Int α} {x : Value} (h : perr r = some x) : ∃ e, r = .error e ∧ pE e = x := by
  cases r with
  | error e => exact ⟨e, rfl, by simpa [perr] using h⟩
  | ok a => simp [perr] at h
theorem rdN_ok {b : List UInt8} {sh : Int} : ∀ (p fi li : Nat) (bh : Option Nat) (n : List UInt8), ∀ {N : List UInt8} {P : Nat}, rdN b sh p fi li bh n = .ok (N, P) → N.length ≤ 255 ∧ (bh = none → p < P ∧ P ≤ li) ∧ (∀ a, bh = some a → P = a) := by
  intro p fi li bh n
  induction p, fi, li, bh, n using rdN.induct b with
  | case1 p fi li bh n h => intro N P e; rw [rdN_short h] at e; cases e
  | case2 p fi li bh n h h1 h2 =>
    intro N P e
    rw [rdN_end h h1 h2] at e; cases e
    refine ⟨by simp; omega, fun hb => by subst hb; simp; omega, fun a ha => by subst ha; rfl⟩
  | case3 p fi li bh n h h1 h2 => intro N P e; rw [rdN_long0 h h1 h2] at e; cases e
  | case4 p fi li bh n h h1 h2 h3 => intro N P e; rw [rdN_pshort h h2 h3] at e; cases e
  | case5 p fi li bh n h h1 h2 h3 h4 ih =>
    intro N P e
    rw [rdN_ptr h h2 h3 h4] at e
    obtain ⟨a, b1, c⟩ := ih e
    have hP := c _ rfl
    refine ⟨a, fun hb => ?_, fun x hx => ?_⟩
    · subst hb; rw [hP]; show p < p + 2 ∧ p + 2 ≤ li; omega
    · subst hx; rw [hP]; rfl
  | case6 p fi li bh n h h1 h2 h3 h4 => intro N P e; rw [rdN_pbad h h2 h3 h4] at e; cases e
  | case7 p fi li bh n h h1 h2 h3 => intro N P e; rw [rdN_label h h3 h2] at e; cases e
  | case8 p fi li bh n h h1 h2 h3 h4 => intro N P e; rw [rdN_lshort h h1 h3 h4] at e; cases e
  | case9 p fi li bh n h h1 h2 h3 h4 h5 ih =>
    intro N P e
    rw [rdN_lab h h1 h3 h4 h5] at e
    obtain ⟨a, b1, c⟩ := ih e
    exact ⟨a, fun hb => by have := b1 hb; omega, c⟩
  | case10 p fi li bh n h h1 h2 h3 h4 h5 => intro N P e; rw [rdN_llong h h1 h3 h4 h5] at e; cases e
def nV (l : List UInt8) : Nat := l.foldl (fun a x => a * 256 + x.toNat) 0
theorem nV_snoc (l : List UInt8) (x : UInt8) : nV (l ++ [x]) = nV l * 256 + x.toNat := by simp [nV, List.foldl_append]
theorem nV_lt' (l : List UInt8) (a : Nat) : l.foldl (fun a x => a * 256 + x.toNat) a < (a + 1) * 256 ^ l.length := by
  induction l generalizing a with
  | nil => simp
  | cons x l ih =>
    have h1 := ih (a * 256 + x.toNat)
    have h2 := x.toNat_lt
    have h3 : (a * 256 + x.toNat + 1) * 256 ^ l.length ≤ ((a + 1) * 256) * 256 ^ l.length := Nat.mul_le_mul_right _ (by omega)
    rw [List.foldl_cons, List.length_cons, Nat.pow_succ, Nat.mul_comm (256 ^ l.length) 256, ← Nat.mul_assoc]
    omega
theorem nV_lt (l : List UInt8) : nV l < 256 ^ l.length := by have := nV_lt' l 0; simpa [nV] using this
theorem nV_lt4 {l : List UInt8} (h : l.length ≤ 4) : nV l < 4294967296 :=
  Nat.lt_of_lt_of_le (nV_lt l) (Nat.le_trans (Nat.pow_le_pow_right (by decide) h) (by decide))
def bN (b : List UInt8) (i w : Nat) : Nat := nV ((b.take (i + w)).drop i)
theorem or_acc (a : Nat) (q : UInt8) : (((a : Int) * 2 ^ 8).toNat ||| ((q.toNat : Int)).toNat : Nat) = a * 256 + q.toNat := by
  have hq := q.toNat_lt
  have e : ((a : Int) * 2 ^ 8).toNat = 2 ^ 8 * a := by omega
  rw [e, Int.toNat_natCast, ← Nat.two_pow_add_eq_or_of_lt (by omega : q.toNat < 2 ^ 8) a]
  omega
theorem q_ora {n : Nat} {s : AS} {o : Oper} {d : Option Tmp} {t u : TypeId} {x y : Operand} {a : Nat} {q : UInt8} (ho : o.op = .binOp .or t x y u := by exact rfl) (hx : s.ev x = i64 ((a : Int) * 2 ^ 8) := by exact rfl) (hy : s.ev y = i64 q.toNat := by exact rfl) (ha : a < 4294967296)
    (hdd : o.dst = d := by conv => lhs; whnf) (hd : d.all (Nat.blt · n) = true := by exact rfl) : OpOk Try.prog n o s (s.put d (i64 ((a * 256 + q.toNat : Nat) : Int))) := by
  have hq := q.toNat_lt
  rw [← or_acc]
  exact q_or ho hx hy (by omega) (by omega) hdd hd
def nCnt (t : Int) : Nat := if t = 6 then 2 else if t = 2 ∨ t = 5 ∨ t = 12 ∨ t = 15 then 1 else 0
def mCnt : List (Int × Int) := mput (mput (mput (mput (mput [] 2 1) 5 1) 12 1) 15 1) 6 2
theorem nCnt_eq (t : Int) : (mget mCnt t).getD 0 = (nCnt t : Int) := by
  have e : mCnt = [(2, 1), (5, 1), (12, 1), (15, 1), (6, 2)] := rfl
  rw [e]
  unfold nCnt
  by_cases h6 : t = 6
  · subst h6; rfl
  · by_cases h : t = 2 ∨ t = 5 ∨ t = 12 ∨ t = 15
    · rw [if_neg h6, if_pos h]
      rcases h with rfl | rfl | rfl | rfl <;> rfl
    · rw [if_neg h6, if_neg h]
      simp only [not_or] at h
      simp [mget, Ne.symm h.1, Ne.symm h.2.1, Ne.symm h.2.2.1, Ne.symm h.2.2.2, Ne.symm h6]
def rdNs (b : List UInt8) (en : Nat) : Nat → List UInt8 → Nat → Except Int (List UInt8 × Nat)
  | 0, acc, p => .ok (acc, p)
  | k + 1, acc, p => match rdN b 30 p p en none [] with
    | .error e => .error e
    | .ok a => rdNs b en k (acc ++ a.1) a.2
def rdO (b : List UInt8) (t : Int) (en : Nat) : Except Int (List UInt8 × Nat) → Except Int (List UInt8)
  | .error e => .error e
  | .ok a => if canS t (a.1 ++ (b.take en).drop a.2) then .ok (a.1 ++ (b.take en).drop a.2) else .error 30
def rdD (b : List UInt8) (t : Int) (p en : Nat) : Except Int (List UInt8) :=
  if t = 15 ∧ en < p + 2 then .error 30
  else rdO b t en (rdNs b en (nCnt t) (if t = 15 then (b.take (p + 2)).drop p else []) (if t = 15 then p + 2 else p))
theorem rdNs_err {b : List UInt8} {en k : Nat} {acc : List UInt8} {p : Nat} {e : Int} (h : rdN b 30 p p en none [] = .error e) : rdNs b en (k + 1) acc p = .error e := by simp only [rdNs, h]
theorem rdNs_ok {b : List UInt8} {en k : Nat} {acc : List UInt8} {p : Nat} {a : List UInt8 × Nat} (h : rdN b 30 p p en none [] = .ok a) : rdNs b en (k + 1) acc p = rdNs b en k (acc ++ a.1) a.2 := by simp only [rdNs, h]
theorem rdD_go {b : List UInt8} {t : Int} {p en : Nat} (h : ¬ (t = 15 ∧ en < p + 2)) : rdD b t p en = rdO b t en (rdNs b en (nCnt t) (if t = 15 then (b.take (p + 2)).drop p else []) (if t = 15 then p + 2 else p)) := if_neg h
set_option maxRecDepth 20000 in
set_option maxHeartbeats 2000000 in
theorem c_rdnum (b : List UInt8) (p0 w : Nat) (hb : b.length ≤ 65535) (hp : p0 ≤ 200000) (hw : w ≤ 4) : AC Try.prog 71 [.ptr 0 0 0, i64 w] (hlook [(0, .box [.fz 1 b.length (cl bc b), i64 p0])]) (RetP (pNo (decide (p0 + w ≤ b.length)) 20) (i64 (bN b p0 w)) [(0, .box [.fz 1 b.length (cl bc b), i64 ((p0 + w : Nat) : Int)])] (fun k => [(0, .box [.fz 1 b.length (cl bc b), i64 k])])) := by
 refine AC.intro te_ok (fn := Try.f71) ⟨Try.func71, rfl, rfl⟩ (Nat.le_of_ble_eq_true rfl) ?_
 refine AWp.seq ?_
 refine AWp.region ?_
 refine AOps.cons rfl rfl (q_assign) ?_
 refine AOps.nil ?_
 refine AWp.seq ?_
 rcases hpo : pNo (decide ((w : Int) ≤ (b.length : Int) - (p0 : Int))) 20 with _ | xx
 ·
  refine AWp.drawsX _ [⟨0, [0], [], some 8, _, []⟩,
      ⟨1, [8], [0], some 9, _, []⟩,
      ⟨2, [9], [0], some 10, _, []⟩,
      ⟨3, [10], [0], some 11, _, []⟩,
      ⟨4, [11], [], some 12, _, []⟩,
      ⟨5, [0], [], some 13, _, []⟩,
      ⟨6, [13], [0], some 14, _, []⟩,
      ⟨7, [14], [0], some 15, _, []⟩,
      ⟨8, [15], [0], some 16, _, []⟩,
      ⟨9, [12, 16], [], some 17, _, []⟩,
      ⟨10, [1], [], some 18, _, []⟩,
      ⟨11, [17, 18], [], some 19, _, []⟩,
      ⟨12, [19], [0, 1, 2, 3, 4, 5, 6, 7], some 20, _, []⟩]
   [⟨0, [0], [], some 8, .any, []⟩,
       ⟨1, [8], [0], some 9, .any, []⟩,
       ⟨2, [9], [0], some 10, .any, []⟩,
       ⟨3, [10], [0], some 11, .any, []⟩,
       ⟨4, [11], [], some 12, .any, []⟩,
       ⟨5, [0], [], some 13, .any, []⟩,
       ⟨6, [13], [0], some 14, .any, []⟩,
       ⟨7, [14], [0], some 15, .any, []⟩,
       ⟨8, [15], [0], some 16, .any, []⟩,
       ⟨9, [12, 16], [], some 17, .any, []⟩,
       ⟨10, [1], [], some 18, .any, []⟩,
       ⟨11, [17, 18], [], some 19, .any, []⟩,
       ⟨12, [19], [0, 1, 2, 3, 4, 5, 6, 7], some 20, .any, []⟩]
   mixed_ok rfl (by kernel_rfl) ⟨DS.okX_over fun s0 => (OpAt.go rfl rfl (q_move)).x,
       DS.okX_over fun s0 => (OpAt.go rfl rfl (q_nil)).x,
       DS.okX_over fun s0 => (OpAt.go rfl rfl (q_fa)).x,
       DS.okX_over fun s0 => (OpAt.go rfl rfl (q_load)).x,
       DS.okX_over fun s0 => (OpAt.go rfl rfl (q_len)).x,
       DS.okX_over fun s0 => (OpAt.go rfl rfl (q_move)).x,
       DS.okX_over fun s0 => (OpAt.go rfl rfl (q_nil)).x,
       DS.okX_over fun s0 => (OpAt.go rfl rfl (q_fa)).x,
       DS.okX_over fun s0 => (OpAt.go rfl rfl (q_load)).x,
       DS.okX_over fun s0 => (OpAt.go rfl rfl (q_sub)).x,
       DS.okX_over fun s0 => (OpAt.go rfl rfl (q_move)).x,
       DS.okX_over fun s0 => (OpAt.go rfl rfl (q_geq)).x,
       DS.okX_over fun s0 => at_callP (hp' := fun k => []) (1) [] [] [] (c_wire_no (decide ((w : Int) ≤ (b.length : Int) - (p0 : Int))) 20) (fun x k h1_12 => ?_), trivial⟩ ?_ (fun _ _ h => h)
  ·
   exact absurd (hpo.symm.trans h1_12) (by simp)
  dsimp only [final, DS.upd, AS.seto]
  refine AWp.seq ?_
  refine AWp.region ?_
  have g1 : p0 + w ≤ b.length := by have := pNo_none hpo; simp at this; omega
  refine AOps.cons rfl rfl (q_assign) ?_
  refine AOps.nil ?_
  refine AWp.seq ?_
  refine AWp.seq ?_
  refine AWp.draws [⟨0, [0], [], some 21, _, []⟩,
      ⟨1, [21], [0], some 22, _, []⟩,
      ⟨2, [22], [0], some 23, _, []⟩,
      ⟨3, [23], [0], some 24, _, []⟩,
      ⟨4, [0], [], some 25, _, []⟩,
      ⟨5, [25], [0], some 26, _, []⟩,
      ⟨6, [26], [0], some 27, _, []⟩,
      ⟨7, [27], [0], some 28, _, []⟩,
      ⟨8, [0], [], some 29, _, []⟩,
      ⟨9, [29], [0], some 30, _, []⟩,
      ⟨10, [30], [0], some 31, _, []⟩,
      ⟨11, [31], [0], some 32, _, []⟩,
      ⟨12, [1], [], some 33, _, []⟩,
      ⟨13, [32, 33], [], some 34, _, []⟩,
      ⟨14, [24, 28, 34], [], some 35, _, []⟩,
      ⟨15, [35], [], some 36, _, []⟩,
      ⟨16, [], [], some 37, _, []⟩]
   [⟨0, [0], [], some 21, .any, []⟩,
       ⟨1, [21], [0], some 22, .any, []⟩,
       ⟨2, [22], [0], some 23, .any, []⟩,
       ⟨3, [23], [0], some 24, .any, []⟩,
       ⟨4, [0], [], some 25, .any, []⟩,
       ⟨5, [25], [0], some 26, .any, []⟩,
       ⟨6, [26], [0], some 27, .any, []⟩,
       ⟨7, [27], [0], some 28, .any, []⟩,
       ⟨8, [0], [], some 29, .any, []⟩,
       ⟨9, [29], [0], some 30, .any, []⟩,
       ⟨10, [30], [0], some 31, .any, []⟩,
       ⟨11, [31], [0], some 32, .any, []⟩,
       ⟨12, [1], [], some 33, .any, []⟩,
       ⟨13, [32, 33], [], some 34, .any, []⟩,
       ⟨14, [24, 28, 34], [], some 35, .any, []⟩,
       ⟨15, [35], [], some 36, .any, []⟩,
       ⟨16, [], [], some 37, .any, []⟩]
   mixed_ok rfl (by kernel_rfl) ⟨DS.ok_over fun s0 => OpAt.go rfl rfl (q_move),
       DS.ok_over fun s0 => OpAt.go rfl rfl (q_nil),
       DS.ok_over fun s0 => OpAt.go rfl rfl (q_fa),
       DS.ok_over fun s0 => OpAt.go rfl rfl (q_load),
       DS.ok_over fun s0 => OpAt.go rfl rfl (q_move),
       DS.ok_over fun s0 => OpAt.go rfl rfl (q_nil),
       DS.ok_over fun s0 => OpAt.go rfl rfl (q_fa),
       DS.ok_over fun s0 => OpAt.go rfl rfl (q_load),
       DS.ok_over fun s0 => OpAt.go rfl rfl (q_move),
       DS.ok_over fun s0 => OpAt.go rfl rfl (q_nil),
       DS.ok_over fun s0 => OpAt.go rfl rfl (q_fa),
       DS.ok_over fun s0 => OpAt.go rfl rfl (q_load),
       DS.ok_over fun s0 => OpAt.go rfl rfl (q_move),
       DS.ok_over fun s0 => OpAt.go rfl rfl (q_add),
       DS.ok_over fun s0 => OpAt.go rfl rfl (q_sl),
       DS.ok_over fun s0 => OpAt.go rfl rfl (q_len),
       DS.ok_over fun s0 => OpAt.go rfl rfl (q_move), trivial⟩ ?_
  dsimp only [final, DS.upd, AS.seto]
  rw [show ((p0 : Int) + (w : Int)).toNat = p0 + w by omega, show ((p0 : Nat) : Int).toNat = p0 by omega]
  refine AWp.block ?_
  refine AWp.loopR (α := Nat) [5, 7, 37, 38, 39, 40, 41, 42, 43, 44, 45, 46] (fun i => [(37, i64 i), (5, i64 (nV (((b.take (p0 + w)).drop p0).take i)))]) (fun i => []) (fun i => i ≤ w) (fun i => w - i) 0 ?_ (Back.mk' (HasT.cons (HasT.cons HasT.nil)) HasH.nil) ?_
  ·
   exact Nat.zero_le _
  ·
   rintro i hi
   have hSl : ((b.take (p0 + w)).drop p0).length = w := by rw [List.length_drop, List.length_take]; omega
   have hv : nV (((b.take (p0 + w)).drop p0).take i) < 4294967296 := nV_lt4 (by rw [List.length_take]; omega)
   refine AWp.seq ?_
   refine AWp.region ?_
   refine AOps.dec rfl rfl (q_lss) (fun h4_0 => ?_) (fun h4_0 => ?_)
   ·
    refine AOps.nil ?_
    refine AWp.seq ?_
    refine AWp.cond_t rfl ?_
    refine AWp.skip ?_
    refine AWp.seq ?_
    refine AWp.block ?_
    refine AWp.seq ?_
    refine AWp.region ?_
    refine AOps.cons rfl rfl (q_ix) ?_
    refine AOps.cons rfl rfl (q_load) ?_
    refine AOps.cons rfl rfl (q_assign) ?_
    refine AOps.nil ?_
    refine AWp.region ?_
    refine AOps.cons rfl rfl (q_move) ?_
    refine AOps.cons rfl rfl (q_shl 8) ?_
    refine AOps.cons rfl rfl (q_move) ?_
    refine AOps.cons rfl rfl (q_conv_8i) ?_
    refine AOps.cons rfl rfl (q_ora (ha := hv)) ?_
    refine AOps.cons rfl rfl (q_assign) ?_
    refine AOps.nil ?_
    refine AWp.region ?_
    refine AOps.cons rfl rfl (q_add) ?_
    refine AOps.cons rfl rfl (q_move) ?_
    refine AOps.nil ?_
    refine ⟨i + 1, ?_, Back.mk' (HasT.cons (HasT.cons HasT.nil (h1 := by exact i64_eq (by rw [take_step' (by omega), nV_snoc]; rfl)) )) HasH.nil, ?_⟩
    ·
     first | assumption | omega | decide | (simp; omega) | (simp [*]; done)
    ·
     first | omega | (simp; omega)
   ·
    refine AOps.nil ?_
    refine AWp.seq ?_
    refine AWp.cond_f rfl ?_
    refine AWp.exit ?_
    refine AWp.seq ?_
    refine AWp.region ?_
    refine AOps.cons rfl rfl (q_move) ?_
    refine AOps.cons rfl rfl (q_nil) ?_
    refine AOps.cons rfl rfl (q_fa) ?_
    refine AOps.cons rfl rfl (q_load) ?_
    refine AOps.cons rfl rfl (q_move) ?_
    refine AOps.cons rfl rfl (q_add) ?_
    refine AOps.cons rfl rfl (q_nil) ?_
    refine AOps.cons rfl rfl (q_fa) ?_
    refine AOps.cons rfl rfl (q_store) ?_
    refine AOps.nil ?_
    refine AWp.seq ?_
    refine AWp.region ?_
    refine AOps.cons rfl rfl (q_move) ?_
    refine AOps.cons rfl rfl (q_assign) ?_
    refine AOps.nil ?_
    refine AWp.ret ?_
    show Fin te Try.f71 _ _
    obtain rfl : i = w := by omega
    rw [decide_eq_true g1]
    have hSi : ((b.take (p0 + i)).drop p0).take i = (b.take (p0 + i)).drop p0 := List.take_of_length_le (by omega)
    rw [hSi]
    refine Fin.retP (by rfl) ?_
    refine q_retHD (1) (0) [] [_] [_] [(_, _)] ?_
    rfl
 ·
  refine AWp.drawsX _ [⟨0, [0], [], some 8, _, []⟩,
      ⟨1, [8], [0], some 9, _, []⟩,
      ⟨2, [9], [0], some 10, _, []⟩,
      ⟨3, [10], [0], some 11, _, []⟩,
      ⟨4, [11], [], some 12, _, []⟩,
      ⟨5, [0], [], some 13, _, []⟩,
      ⟨6, [13], [0], some 14, _, []⟩,
      ⟨7, [14], [0], some 15, _, []⟩,
      ⟨8, [15], [0], some 16, _, []⟩,
      ⟨9, [12, 16], [], some 17, _, []⟩,
      ⟨10, [1], [], some 18, _, []⟩,
      ⟨11, [17, 18], [], some 19, _, []⟩,
      ⟨12, [19], [0, 1, 2, 3, 4, 5, 6, 7], some 20, _, []⟩]
   [⟨0, [0], [], some 8, .any, []⟩,
       ⟨1, [8], [0], some 9, .any, []⟩,
       ⟨2, [9], [0], some 10, .any, []⟩,
       ⟨3, [10], [0], some 11, .any, []⟩,
       ⟨4, [11], [], some 12, .any, []⟩,
       ⟨5, [0], [], some 13, .any, []⟩,
       ⟨6, [13], [0], some 14, .any, []⟩,
       ⟨7, [14], [0], some 15, .any, []⟩,
       ⟨8, [15], [0], some 16, .any, []⟩,
       ⟨9, [12, 16], [], some 17, .any, []⟩,
       ⟨10, [1], [], some 18, .any, []⟩,
       ⟨11, [17, 18], [], some 19, .any, []⟩,
       ⟨12, [19], [0, 1, 2, 3, 4, 5, 6, 7], some 20, .any, []⟩]
   mixed_ok rfl (by kernel_rfl) ⟨DS.okX_over fun s0 => (OpAt.go rfl rfl (q_move)).x,
       DS.okX_over fun s0 => (OpAt.go rfl rfl (q_nil)).x,
       DS.okX_over fun s0 => (OpAt.go rfl rfl (q_fa)).x,
       DS.okX_over fun s0 => (OpAt.go rfl rfl (q_load)).x,
       DS.okX_over fun s0 => (OpAt.go rfl rfl (q_len)).x,
       DS.okX_over fun s0 => (OpAt.go rfl rfl (q_move)).x,
       DS.okX_over fun s0 => (OpAt.go rfl rfl (q_nil)).x,
       DS.okX_over fun s0 => (OpAt.go rfl rfl (q_fa)).x,
       DS.okX_over fun s0 => (OpAt.go rfl rfl (q_load)).x,
       DS.okX_over fun s0 => (OpAt.go rfl rfl (q_sub)).x,
       DS.okX_over fun s0 => (OpAt.go rfl rfl (q_move)).x,
       DS.okX_over fun s0 => (OpAt.go rfl rfl (q_geq)).x,
       DS.okX_over fun s0 => at_callP (hp' := fun k => []) (1) [] [] [] (AC.bad hpo (c_wire_no (decide ((w : Int) ≤ (b.length : Int) - (p0 : Int))) 20)) (fun x k h1_12 => ?_), trivial⟩ ?_ (fun _ _ h => h)
  ·
   show Post te Try.f71 _ (.panic _) _
   refine Post.panicH (1) (p0) ?_ (by repeat' (first | exact trivial | exact lv_ok rfl | exact lv_sl rfl rfl | exact lv_ptr rfl rfl | exact lv_mp rfl rfl | exact lobj_row (fun _ => rfl) | refine lobj_box ?_ | refine ⟨rfl, ⟨_, rfl, ?_⟩, ?_⟩ | refine ⟨?_, ?_⟩)) rfl
   obtain ⟨c1, rfl⟩ := pNo_some h1_12
   rw [decide_eq_false (by simp at c1; omega)]; rfl
  dsimp only [final, DS.upd, AS.seto]
  exact AWp.bot (d := 20) rfl
end Go.Proofs.Ytkfccjbihcbmiaa.Fw


set_option linter.unusedVariables false
set_option linter.unusedSimpArgs false
namespace Go.Proofs.Ytkfccjbihcbmiaa.Fw
open Go.RowKit
theorem rdN_ok0 {b : List UInt8} {sh : Int} {p li : Nat} {a : List UInt8 × Nat} (h : rdN b sh p p li none [] = .ok a) : a.1.length ≤ 255 ∧ p < a.2 ∧ a.2 ≤ li := by
  obtain ⟨N, P⟩ := a
  obtain ⟨h1, h2, _⟩ := rdN_ok _ _ _ _ _ h
  exact ⟨h1, (h2 rfl).1, (h2 rfl).2⟩
theorem nCnt_le (t : Int) : nCnt t ≤ 2 := by unfold nCnt; split <;> (try split) <;> omega
def rdR2 (b : List UInt8) (n : List UInt8) (q : Nat) : Except Int (List UInt8) → Except Int (Rr × Nat)
  | .error e => .error e
  | .ok d => .ok (⟨n, bN b q 2, bN b (q + 2) 2, bN b (q + 4) 4, d⟩, q + 10 + bN b (q + 8) 2)
def rdR1 (b : List UInt8) : Except Int (List UInt8 × Nat) → Except Int (Rr × Nat)
  | .error e => .error e
  | .ok a => if b.length < a.2 + 10 ∨ b.length < a.2 + 10 + bN b (a.2 + 8) 2 then .error 20 else rdR2 b a.1 a.2 (rdD b (bN b a.2 2) (a.2 + 10) (a.2 + 10 + bN b (a.2 + 8) 2))
def rdR (b : List UInt8) (p : Nat) : Except Int (Rr × Nat) := rdR1 b (rdN b 20 p p b.length none [])
theorem rdR_bad {b : List UInt8} {p : Nat} {a : List UInt8 × Nat} (h : rdN b 20 p p b.length none [] = .ok a) (h1 : b.length < a.2 + 10 ∨ b.length < a.2 + 10 + bN b (a.2 + 8) 2) : rdR b p = .error 20 := by rw [rdR, h, rdR1, if_pos h1]
theorem rdR_go {b : List UInt8} {p : Nat} {a : List UInt8 × Nat} (h : rdN b 20 p p b.length none [] = .ok a) (h1 : ¬ b.length < a.2 + 10) (h2 : ¬ b.length < a.2 + 10 + bN b (a.2 + 8) 2) : rdR b p = rdR2 b a.1 a.2 (rdD b (bN b a.2 2) (a.2 + 10) (a.2 + 10 + bN b (a.2 + 8) 2)) := by rw [rdR, h, rdR1, if_neg (by omega)]
theorem bN_lt {b : List UInt8} {i w : Nat} (h : w ≤ 4) : bN b i w < 4294967296 := nV_lt4 (by rw [List.length_drop, List.length_take]; omega)
theorem bN_lt2 {b : List UInt8} {i : Nat} : bN b i 2 < 65536 := by
  have h := nV_lt ((b.take (i + 2)).drop i)
  have h2 : ((b.take (i + 2)).drop i).length ≤ 2 := by rw [List.length_drop, List.length_take]; omega
  have h3 : 256 ^ ((b.take (i + 2)).drop i).length ≤ 256 ^ 2 := Nat.pow_le_pow_right (by decide) h2
  exact Nat.lt_of_lt_of_le h h3
set_option maxRecDepth 20000 in
set_option maxHeartbeats 2000000 in
theorem c_rddata (b : List UInt8) (t : Int) (p0 en : Nat) (hb : b.length ≤ 65535) (he : en ≤ b.length) (hp : p0 ≤ en) : AC Try.prog 93 [.ptr 0 0 0, i64 t, i64 en] (hlook [(0, .box [.fz 1 b.length (cl bc b), i64 p0])]) (RetP (perr (rdD b t p0 en)) (.fz 0 (resE (rdD b t p0 en)).length (cl bc (resE (rdD b t p0 en)))) [(0, .box [.fz 1 b.length (cl bc b), i64 en])] (fun k => [(0, .box [.fz 1 b.length (cl bc b), i64 k])])) := by
 have hc2 := nCnt_le t
 refine AC.intro te_ok (fn := Try.f93) ⟨Try.func93, rfl, rfl⟩ (Nat.le_of_ble_eq_true rfl) ?_
 refine AWp.seq ?_
 refine AWp.region ?_
 refine AOps.cons rfl rfl (q_nilz (0) bc) ?_
 refine AOps.nil ?_
 refine AWp.seq ?_
 refine AWp.region ?_
 refine AOps.cons rfl rfl (q_nilrow 200 1 bc) ?_
 refine AOps.nil ?_
 refine AWp.seq ?_
 refine AWp.region ?_
 refine AOps.cons rfl rfl (q_makeMap 300 MInt (fun b : Int => i64 b)) ?_
 refine AOps.cons rfl rfl (q_insert MInt (f := fun b : Int => i64 b) (m := ([] : List (Int × Int))) 1) ?_
 refine AOps.cons rfl rfl (q_insert MInt (f := fun b : Int => i64 b) (m := mput [] 2 1) 1) ?_
 refine AOps.cons rfl rfl (q_insert MInt (f := fun b : Int => i64 b) (m := mput (mput [] 2 1) 5 1) 1) ?_
 refine AOps.cons rfl rfl (q_insert MInt (f := fun b : Int => i64 b) (m := mput (mput (mput [] 2 1) 5 1) 12 1) 1) ?_
 refine AOps.cons rfl rfl (q_insert MInt (f := fun b : Int => i64 b) (m := mput (mput (mput (mput [] 2 1) 5 1) 12 1) 15 1) 2) ?_
 refine AOps.cons rfl rfl (q_move) ?_
 refine AOps.cons rfl rfl (q_assign) ?_
 refine AOps.nil ?_
 refine AWp.cutR (α := List UInt8 × Nat × Nat) [7, 11, 12, 13, 14, 15, 16, 17, 18, 19, 20, 21, 22, 23, 24, 25, 26, 27, 28, 29, 30, 31, 32, 33, 34, 35, 36, 37, 38, 39, 40, 41, 42, 43] (fun x_ => [(7, .sl 200 (x_.2.2) 0 (x_.1).length 1)]) (fun x_ => [(0, .box [.fz 1 b.length (cl bc b), i64 (x_.2.1)]), (200, .row (cl bc (x_.1)) 1 (x_.2.2))]) (fun x_ => (x_.1) = (if t = 15 then (b.take (p0 + 2)).drop p0 else []) ∧ (x_.2.1) = (if t = 15 then p0 + 2 else p0) ∧ ¬ (t = 15 ∧ en < p0 + 2) ∧ (x_.1).length ≤ 2 ∧ (x_.2.1) ≤ en) ?_ ?_
 ·
  refine AWp.seq ?_
  refine AWp.region ?_
  refine AOps.cons rfl rfl (q_move) ?_
  refine AOps.dec rfl rfl (q_eql) (fun h3_1 => ?_) (fun h3_1 => ?_)
  ·
   refine AOps.nil ?_
   refine AWp.cond_t rfl ?_
   refine AWp.seq ?_
   refine AWp.region ?_
   refine AOps.cons rfl rfl (q_move) ?_
   refine AOps.cons rfl rfl (q_move) ?_
   refine AOps.cons rfl rfl (q_nil) ?_
   refine AOps.cons rfl rfl (q_fa) ?_
   refine AOps.cons rfl rfl (q_load) ?_
   refine AOps.cons rfl rfl (q_sub) ?_
   refine AOps.cons rfl rfl (q_geq) ?_
   refine AOps.callP (hp' := fun k => []) (1) [] [] [] (c_wire_no (decide (2 ≤ (en : Int) - (p0 : Int))) 30) (fun h4_7 => ?_) (fun x k h4_7 => ?_)
   ·
    refine AOps.nil ?_
    refine AWp.seq ?_
    have g1 : ¬ en < p0 + 2 := by have := pNo_none h4_7; simp at this; omega
    refine AWp.draws [⟨0, [7], [], some 21, _, []⟩,
        ⟨1, [0], [], some 22, _, []⟩,
        ⟨2, [22], [0], some 23, _, []⟩,
        ⟨3, [23], [0], some 24, _, []⟩,
        ⟨4, [24], [0], some 25, _, []⟩,
        ⟨5, [0], [], some 26, _, []⟩,
        ⟨6, [26], [0], some 27, _, []⟩,
        ⟨7, [27], [0], some 28, _, []⟩,
        ⟨8, [28], [0], some 29, _, []⟩,
        ⟨9, [0], [], some 30, _, []⟩,
        ⟨10, [30], [0], some 31, _, []⟩,
        ⟨11, [31], [0], some 32, _, []⟩,
        ⟨12, [32], [0], some 33, _, []⟩,
        ⟨13, [33], [], some 34, _, []⟩,
        ⟨14, [25, 29, 34], [], some 35, _, []⟩,
        ⟨15, [21, 35], [200], some 36, _, [(200, _)]⟩,
        ⟨16, [36], [], some 7, _, []⟩]
     [⟨0, [7], [], some 21, .any, []⟩,
         ⟨1, [0], [], some 22, .any, []⟩,
         ⟨2, [22], [0], some 23, .any, []⟩,
         ⟨3, [23], [0], some 24, .any, []⟩,
         ⟨4, [24], [0], some 25, .any, []⟩,
         ⟨5, [0], [], some 26, .any, []⟩,
         ⟨6, [26], [0], some 27, .any, []⟩,
         ⟨7, [27], [0], some 28, .any, []⟩,
         ⟨8, [28], [0], some 29, .any, []⟩,
         ⟨9, [0], [], some 30, .any, []⟩,
         ⟨10, [30], [0], some 31, .any, []⟩,
         ⟨11, [31], [0], some 32, .any, []⟩,
         ⟨12, [32], [0], some 33, .any, []⟩,
         ⟨13, [33], [], some 34, .any, []⟩,
         ⟨14, [25, 29, 34], [], some 35, .any, []⟩,
         ⟨15, [21, 35], [200], some 36, .any, [(200, .box [])]⟩,
         ⟨16, [36], [], some 7, .any, []⟩]
     mixed_ok rfl (by kernel_rfl) ⟨DS.ok_over fun s0 => OpAt.go rfl rfl (q_move),
         DS.ok_over fun s0 => OpAt.go rfl rfl (q_move),
         DS.ok_over fun s0 => OpAt.go rfl rfl (q_nil),
         DS.ok_over fun s0 => OpAt.go rfl rfl (q_fa),
         DS.ok_over fun s0 => OpAt.go rfl rfl (q_load),
         DS.ok_over fun s0 => OpAt.go rfl rfl (q_move),
         DS.ok_over fun s0 => OpAt.go rfl rfl (q_nil),
         DS.ok_over fun s0 => OpAt.go rfl rfl (q_fa),
         DS.ok_over fun s0 => OpAt.go rfl rfl (q_load),
         DS.ok_over fun s0 => OpAt.go rfl rfl (q_move),
         DS.ok_over fun s0 => OpAt.go rfl rfl (q_nil),
         DS.ok_over fun s0 => OpAt.go rfl rfl (q_fa),
         DS.ok_over fun s0 => OpAt.go rfl rfl (q_load),
         DS.ok_over fun s0 => OpAt.go rfl rfl (q_add),
         DS.ok_over fun s0 => OpAt.go rfl rfl (q_sl),
         DS.ok_over fun s0 => OpAt.go rfl rfl (q_app),
         DS.ok_over fun s0 => OpAt.go rfl rfl (q_assign), trivial⟩ ?_
    dsimp only [final, DS.upd, AS.seto]
    refine AWp.region ?_
    refine AOps.cons rfl rfl (q_move) ?_
    refine AOps.cons rfl rfl (q_nil) ?_
    refine AOps.cons rfl rfl (q_fa) ?_
    refine AOps.cons rfl rfl (q_load) ?_
    refine AOps.cons rfl rfl (q_add) ?_
    refine AOps.cons rfl rfl (q_nil) ?_
    refine AOps.cons rfl rfl (q_fa) ?_
    refine AOps.cons rfl rfl (q_store) ?_
    refine AOps.nil ?_
    rw [show ((p0 : Int) + 2).toNat = p0 + 2 by omega, show ((p0 : Nat) : Int).toNat = p0 by omega]
    refine ⟨((b.take (p0 + 2)).drop p0, p0 + 2, 1), ?_, Back.mk' (HasT.cons HasT.nil) (HasH.cons (HasH.cons HasH.nil))⟩
    try dsimp only
    exact ⟨by rw [if_pos h3_1], by rw [if_pos h3_1], by omega, by rw [List.length_drop, List.length_take]; omega, by omega⟩
   ·
    show Post te Try.f93 _ (.panic _) _
    refine Post.panicH (1) (p0) ?_ (by repeat' (first | exact trivial | exact lv_ok rfl | exact lv_sl rfl rfl | exact lv_ptr rfl rfl | exact lv_mp rfl rfl | exact lobj_row (fun _ => rfl) | refine lobj_box ?_ | refine ⟨rfl, ⟨_, rfl, ?_⟩, ?_⟩ | refine ⟨?_, ?_⟩)) rfl
    obtain ⟨c1, rfl⟩ := pNo_some h4_7
    rw [rdD, if_pos ⟨h3_1, by simp at c1; omega⟩]; rfl
  ·
   refine AOps.nil ?_
   refine AWp.cond_f rfl ?_
   refine AWp.skip ?_
   refine ⟨([], p0, 0), ?_, Back.mk' (HasT.cons HasT.nil) (HasH.cons (HasH.cons HasH.nil))⟩
   try dsimp only
   exact ⟨by rw [if_neg h3_1], by rw [if_neg h3_1], by omega, by simp, hp⟩
 ·
  rintro ⟨acc, p, v⟩ hC7
  change acc = (if t = 15 then (b.take (p0 + 2)).drop p0 else []) ∧ p = (if t = 15 then p0 + 2 else p0) ∧ ¬ (t = 15 ∧ en < p0 + 2) ∧ acc.length ≤ 2 ∧ p ≤ en at hC7
  obtain ⟨ha0, hp1, hg, hal, hpe⟩ := hC7
  refine AWp.as (s' := AS.over _ [7, 11, 12, 13, 14, 15, 16, 17, 18, 19, 20, 21, 22, 23, 24, 25, 26, 27, 28, 29, 30, 31, 32, 33, 34, 35, 36, 37, 38, 39, 40, 41, 42, 43] [(7, .sl 200 v 0 acc.length 1)] [(0, .box [.fz 1 b.length (cl bc b), i64 p]), (200, .row (cl bc acc) 1 v)]) rfl ?_
  refine AWp.seq ?_
  refine AWp.seq ?_
  refine AWp.region ?_
  refine AOps.cons rfl rfl (q_move) ?_
  refine AOps.cons rfl rfl (q_move) ?_
  refine AOps.cons rfl rfl (q_lookup MInt (f := fun b : Int => i64 b) (m := mCnt)) ?_
  rw [nCnt_eq]
  refine AOps.cons rfl rfl (q_move) ?_
  refine AOps.nil ?_
  refine AWp.block ?_
  refine AWp.loopR (α := Nat × List UInt8 × Nat × Nat) [7, 47, 48, 49, 50, 51, 52, 53, 54] (fun x_ => [(47, i64 (x_.1)), (7, .sl 200 (x_.2.2.2) 0 (x_.2.1).length 1)]) (fun x_ => [(0, .box [.fz 1 b.length (cl bc b), i64 (x_.2.2.1)]), (200, .row (cl bc (x_.2.1)) 1 (x_.2.2.2))]) (fun x_ => (x_.1) ≤ nCnt t ∧ rdNs b en (nCnt t - (x_.1)) (x_.2.1) (x_.2.2.1) = rdNs b en (nCnt t) (if t = 15 then (b.take (p0 + 2)).drop p0 else []) (if t = 15 then p0 + 2 else p0) ∧ (x_.2.1).length ≤ 2 + 255 * (x_.1) ∧ (x_.2.2.1) ≤ en) (fun x_ => nCnt t - (x_.1)) (0, acc, p, v) ?_ (Back.mk' (HasT.cons (HasT.cons HasT.nil)) (HasH.cons (HasH.cons HasH.nil))) ?_
  ·
   exact ⟨Nat.zero_le _, by show rdNs b en (nCnt t - 0) acc p = _; rw [ha0, hp1]; rfl, hal, hpe⟩
  ·
   rintro ⟨i, ac, p, v⟩ hI8
   change i ≤ nCnt t ∧ rdNs b en (nCnt t - i) ac p = rdNs b en (nCnt t) (if t = 15 then (b.take (p0 + 2)).drop p0 else []) (if t = 15 then p0 + 2 else p0) ∧ ac.length ≤ 2 + 255 * i ∧ p ≤ en at hI8
   obtain ⟨hi, hE, hal, hpe⟩ := hI8
   refine AWp.as (s' := AS.over _ [7, 47, 48, 49, 50, 51, 52, 53, 54] [(47, i64 i), (7, .sl 200 v 0 ac.length 1)] [(0, .box [.fz 1 b.length (cl bc b), i64 p]), (200, .row (cl bc ac) 1 v)]) rfl ?_
   refine AWp.seq ?_
   refine AWp.region ?_
   refine AOps.dec rfl rfl (q_lss) (fun h8_0 => ?_) (fun h8_0 => ?_)
   ·
    refine AOps.nil ?_
    refine AWp.seq ?_
    refine AWp.cond_t rfl ?_
    refine AWp.skip ?_
    refine AWp.seq ?_
    refine AWp.block ?_
    refine AWp.region ?_
    refine AOps.cons rfl rfl (q_move) ?_
    refine AOps.cons rfl rfl (q_move) ?_
    refine AOps.cons rfl rfl (q_move) ?_
    refine AOps.callP (hp' := fun k => [(0, .box [_, i64 k])]) (1) [(0, 0)] [] [(_, _)] (c_rdname b 30 p en hb he (by omega)) (fun h9_3 => ?_) (fun x k h9_3 => ?_)
    ·
     obtain ⟨a, ha⟩ := perr_none h9_3
     obtain ⟨n1, n2, n3⟩ := rdN_ok0 ha
     rw [ha]
     dsimp only [resE]
     refine AOps.cons rfl rfl (q_app) ?_
     refine AOps.cons rfl rfl (q_assign) ?_
     refine AOps.nil ?_
     refine AWp.region ?_
     refine AOps.cons rfl rfl (q_add) ?_
     refine AOps.cons rfl rfl (q_move) ?_
     refine AOps.nil ?_
     refine ⟨(i + 1, ac ++ a.1, a.2, v + 1), ?_, Back.mk' (HasT.cons (HasT.cons HasT.nil)) (HasH.cons (HasH.cons HasH.nil)), ?_⟩
     ·
      try dsimp only
      refine ⟨by omega, ?_, by rw [List.length_append]; omega, n3⟩
      rw [← hE, show nCnt t - i = (nCnt t - (i + 1)) + 1 by omega, rdNs_ok ha]
     ·
      try dsimp only
      first | omega | (simp; omega)
    ·
     show Post te Try.f93 _ (.panic _) _
     refine Post.panicH (1) (k) ?_ (by repeat' (first | exact trivial | exact lv_ok rfl | exact lv_sl rfl rfl | exact lv_ptr rfl rfl | exact lv_mp rfl rfl | exact lobj_row (fun _ => rfl) | refine lobj_box ?_ | refine ⟨rfl, ⟨_, rfl, ?_⟩, ?_⟩ | refine ⟨?_, ?_⟩)) rfl
     obtain ⟨e, he1, rfl⟩ := perr_some h9_3
     rw [rdD_go hg, ← hE, show nCnt t - i = (nCnt t - (i + 1)) + 1 by omega, rdNs_err he1]; rfl
   ·
    refine AOps.nil ?_
    refine AWp.seq ?_
    refine AWp.cond_f rfl ?_
    refine AWp.exit ?_
    refine AWp.seq ?_
    obtain rfl : i = nCnt t := by omega
    rw [Nat.sub_self] at hE
    have hE2 := hE.symm
    rw [rdNs] at hE2
    refine AWp.draws [⟨0, [7], [], some 55, _, []⟩,
        ⟨1, [0], [], some 56, _, []⟩,
        ⟨2, [56], [0], some 57, _, []⟩,
        ⟨3, [57], [0], some 58, _, []⟩,
        ⟨4, [58], [0], some 59, _, []⟩,
        ⟨5, [0], [], some 60, _, []⟩,
        ⟨6, [60], [0], some 61, _, []⟩,
        ⟨7, [61], [0], some 62, _, []⟩,
        ⟨8, [62], [0], some 63, _, []⟩,
        ⟨9, [2], [], some 64, _, []⟩,
        ⟨10, [59, 63, 64], [], some 65, _, []⟩,
        ⟨11, [55, 65], [200], some 66, _, [(200, _)]⟩,
        ⟨12, [66], [], some 7, _, []⟩]
     [⟨0, [7], [], some 55, .any, []⟩,
         ⟨1, [0], [], some 56, .any, []⟩,
         ⟨2, [56], [0], some 57, .any, []⟩,
         ⟨3, [57], [0], some 58, .any, []⟩,
         ⟨4, [58], [0], some 59, .any, []⟩,
         ⟨5, [0], [], some 60, .any, []⟩,
         ⟨6, [60], [0], some 61, .any, []⟩,
         ⟨7, [61], [0], some 62, .any, []⟩,
         ⟨8, [62], [0], some 63, .any, []⟩,
         ⟨9, [2], [], some 64, .any, []⟩,
         ⟨10, [59, 63, 64], [], some 65, .any, []⟩,
         ⟨11, [55, 65], [200], some 66, .any, [(200, .box [])]⟩,
         ⟨12, [66], [], some 7, .any, []⟩]
     mixed_ok rfl (by kernel_rfl) ⟨DS.ok_over fun s0 => OpAt.go rfl rfl (q_move),
         DS.ok_over fun s0 => OpAt.go rfl rfl (q_move),
         DS.ok_over fun s0 => OpAt.go rfl rfl (q_nil),
         DS.ok_over fun s0 => OpAt.go rfl rfl (q_fa),
         DS.ok_over fun s0 => OpAt.go rfl rfl (q_load),
         DS.ok_over fun s0 => OpAt.go rfl rfl (q_move),
         DS.ok_over fun s0 => OpAt.go rfl rfl (q_nil),
         DS.ok_over fun s0 => OpAt.go rfl rfl (q_fa),
         DS.ok_over fun s0 => OpAt.go rfl rfl (q_load),
         DS.ok_over fun s0 => OpAt.go rfl rfl (q_move),
         DS.ok_over fun s0 => OpAt.go rfl rfl (q_sl),
         DS.ok_over fun s0 => OpAt.go rfl rfl (q_app),
         DS.ok_over fun s0 => OpAt.go rfl rfl (q_assign), trivial⟩ ?_
    dsimp only [final, DS.upd, AS.seto]
    rw [show ((en : Nat) : Int).toNat = en by omega, show ((p : Nat) : Int).toNat = p by omega]
    refine AWp.seq ?_
    refine AWp.region ?_
    refine AOps.cons rfl rfl (q_move) ?_
    refine AOps.cons rfl rfl (q_move) ?_
    refine AOps.cons rfl rfl (q_nil) ?_
    refine AOps.cons rfl rfl (q_fa) ?_
    refine AOps.cons rfl rfl (q_store) ?_
    refine AOps.nil ?_
    refine AWp.seq ?_
    refine AWp.region ?_
    refine AOps.cons rfl rfl (q_move) ?_
    refine AOps.cons rfl rfl (q_move) ?_
    refine AOps.cons rfl rfl (q_call (1) (hc := (c_CanA t (ac ++ (b.take en).drop p) 2 (by rw [List.length_append, List.length_drop, List.length_take]; omega)))) ?_
    refine AOps.callP (hp' := fun k => []) (1) [] [] [] (c_wire_no (canS t (ac ++ (b.take en).drop p)) 30) (fun h13_3 => ?_) (fun x k h13_3 => ?_)
    ·
     refine AOps.nil ?_
     refine AWp.seq ?_
     refine AWp.region ?_
     have g4 : canS t (ac ++ (b.take en).drop p) = true := pNo_none h13_3
     refine AOps.cons rfl rfl (q_move) ?_
     refine AOps.cons rfl rfl (q_assign) ?_
     refine AOps.nil ?_
     refine AWp.ret ?_
     show Fin te Try.f93 _ _
     rw [rdD_go hg, hE2, rdO, if_pos g4]
     refine Fin.retP (by rfl) ?_
     refine q_retHD (1) (0) [] [_] [_] [(_, _)] ?_
     rfl
    ·
     show Post te Try.f93 _ (.panic _) _
     refine Post.panicH (1) (en) ?_ (by repeat' (first | exact trivial | exact lv_ok rfl | exact lv_sl rfl rfl | exact lv_ptr rfl rfl | exact lv_mp rfl rfl | exact lobj_row (fun _ => rfl) | refine lobj_box ?_ | refine ⟨rfl, ⟨_, rfl, ?_⟩, ?_⟩ | refine ⟨?_, ?_⟩)) rfl
     obtain ⟨c1, rfl⟩ := pNo_some h13_3
     rw [rdD_go hg, hE2, rdO, if_neg (by rw [c1]; simp)]; rfl
set_option maxRecDepth 20000 in
set_option maxHeartbeats 2000000 in
theorem c_rdrec (b : List UInt8) (p0 : Nat) (hb : b.length ≤ 65535) (hp : p0 ≤ 100000) : AC Try.prog 72 [.ptr 0 0 0] (hlook [(0, .box [.fz 1 b.length (cl bc b), i64 p0])]) (RetP (perr (rdR b p0)) (.agg (rrc (resE (rdR b p0)).1)) [(0, .box [.fz 1 b.length (cl bc b), i64 (resE (rdR b p0)).2])] (fun k => [(0, .box [.fz 1 b.length (cl bc b), i64 k])])) := by
 refine AC.intro te_ok (fn := Try.f72) ⟨Try.func72, rfl, rfl⟩ (Nat.le_of_ble_eq_true rfl) ?_
 refine AWp.seq ?_
 refine AWp.region ?_
 refine AOps.cons rfl rfl (q_alloc 100) ?_
 refine AOps.nil ?_
 refine AWp.seq ?_
 refine AWp.region ?_
 refine AOps.cons rfl rfl (q_move) ?_
 refine AOps.cons rfl rfl (q_move) ?_
 refine AOps.cons rfl rfl (q_nil) ?_
 refine AOps.cons rfl rfl (q_fa) ?_
 refine AOps.cons rfl rfl (q_load) ?_
 refine AOps.cons rfl rfl (q_len) ?_
 refine AOps.callP (hp' := fun k => [(0, .box [_, i64 k])]) (1) [(0, 0)] [] [(_, _)] (c_rdname b 20 p0 b.length hb (Nat.le_refl _) hp) (fun h1_6 => ?_) (fun x k h1_6 => ?_)
 ·
  obtain ⟨a, ha⟩ := perr_none h1_6
  obtain ⟨n1, n2, n3⟩ := rdN_ok0 ha
  rw [ha]
  dsimp only [resE]
  have hsz := bN_lt2 (b := b) (i := a.2 + 8)
  refine AOps.cons rfl rfl (q_build [(_, _)]) ?_
  refine AOps.cons rfl rfl (q_alloc 208) ?_
  refine AOps.cons rfl rfl (q_store) ?_
  refine AOps.nil ?_
  refine AWp.seq ?_
  refine AWp.region ?_
  refine AOps.cons rfl rfl (q_move) ?_
  refine AOps.callP (hp' := fun k => [(0, .box [_, i64 k])]) (1) [(0, 0)] [] [(_, _)] (c_rdnum b a.2 2 hb (by omega) (by omega)) (fun h2_1 => ?_) (fun x k h2_1 => ?_)
  ·
   refine AOps.cons rfl rfl (q_move) ?_
   refine AOps.callP (hp' := fun k => [(0, .box [_, i64 k])]) (1) [(0, 0)] [] [(_, _)] (c_rdnum b (a.2 + 2) 2 hb (by omega) (by omega)) (fun h2_3 => ?_) (fun x k h2_3 => ?_)
   ·
    refine AOps.cons rfl rfl (q_move) ?_
    refine AOps.callP (hp' := fun k => [(0, .box [_, i64 k])]) (1) [(0, 0)] [] [(_, _)] (c_rdnum b (a.2 + 4) 4 hb (by omega) (by omega)) (fun h2_5 => ?_) (fun x k h2_5 => ?_)
    ·
     refine AOps.cons rfl rfl (q_fa) ?_
     refine AOps.cons rfl rfl (q_store) ?_
     refine AOps.cons rfl rfl (q_fa) ?_
     refine AOps.cons rfl rfl (q_store) ?_
     refine AOps.cons rfl rfl (q_fa) ?_
     refine AOps.cons rfl rfl (q_store) ?_
     refine AOps.nil ?_
     refine AWp.seq ?_
     refine AWp.region ?_
     refine AOps.cons rfl rfl (q_move) ?_
     refine AOps.callP (hp' := fun k => [(0, .box [_, i64 k])]) (1) [(0, 0)] [] [(_, _)] (c_rdnum b (a.2 + 8) 2 hb (by omega) (by omega)) (fun h3_1 => ?_) (fun x k h3_1 => ?_)
     ·
      have g1 : ¬ b.length < a.2 + 10 := by have := pNo_none h3_1; simp at this; omega
      refine AOps.cons rfl rfl (q_assign) ?_
      refine AOps.nil ?_
      refine AWp.seq ?_
      rcases hpo : pNo (decide (((bN b (a.2 + 8) 2 : Nat) : Int) ≤ (b.length : Int) - ((a.2 + 10 : Nat) : Int))) 20 with _ | xx
      ·
       refine AWp.drawsX _ [⟨0, [0], [], some 24, _, []⟩,
           ⟨1, [24], [0], some 25, _, []⟩,
           ⟨2, [25], [0], some 26, _, []⟩,
           ⟨3, [26], [0], some 27, _, []⟩,
           ⟨4, [27], [], some 28, _, []⟩,
           ⟨5, [0], [], some 29, _, []⟩,
           ⟨6, [29], [0], some 30, _, []⟩,
           ⟨7, [30], [0], some 31, _, []⟩,
           ⟨8, [31], [0], some 32, _, []⟩,
           ⟨9, [28, 32], [], some 33, _, []⟩,
           ⟨10, [4], [], some 34, _, []⟩,
           ⟨11, [33, 34], [], some 35, _, []⟩,
           ⟨12, [35], [0, 1, 2, 3, 4, 5, 6, 7], some 36, _, []⟩]
        [⟨0, [0], [], some 24, .any, []⟩,
            ⟨1, [24], [0], some 25, .any, []⟩,
            ⟨2, [25], [0], some 26, .any, []⟩,
            ⟨3, [26], [0], some 27, .any, []⟩,
            ⟨4, [27], [], some 28, .any, []⟩,
            ⟨5, [0], [], some 29, .any, []⟩,
            ⟨6, [29], [0], some 30, .any, []⟩,
            ⟨7, [30], [0], some 31, .any, []⟩,
            ⟨8, [31], [0], some 32, .any, []⟩,
            ⟨9, [28, 32], [], some 33, .any, []⟩,
            ⟨10, [4], [], some 34, .any, []⟩,
            ⟨11, [33, 34], [], some 35, .any, []⟩,
            ⟨12, [35], [0, 1, 2, 3, 4, 5, 6, 7], some 36, .any, []⟩]
        mixed_ok rfl (by kernel_rfl) ⟨DS.okX_over fun s0 => (OpAt.go rfl rfl (q_move)).x,
            DS.okX_over fun s0 => (OpAt.go rfl rfl (q_nil)).x,
            DS.okX_over fun s0 => (OpAt.go rfl rfl (q_fa)).x,
            DS.okX_over fun s0 => (OpAt.go rfl rfl (q_load)).x,
            DS.okX_over fun s0 => (OpAt.go rfl rfl (q_len)).x,
            DS.okX_over fun s0 => (OpAt.go rfl rfl (q_move)).x,
            DS.okX_over fun s0 => (OpAt.go rfl rfl (q_nil)).x,
            DS.okX_over fun s0 => (OpAt.go rfl rfl (q_fa)).x,
            DS.okX_over fun s0 => (OpAt.go rfl rfl (q_load)).x,
            DS.okX_over fun s0 => (OpAt.go rfl rfl (q_sub)).x,
            DS.okX_over fun s0 => (OpAt.go rfl rfl (q_move)).x,
            DS.okX_over fun s0 => (OpAt.go rfl rfl (q_geq)).x,
            DS.okX_over fun s0 => at_callP (hp' := fun k => []) (1) [] [] [] (c_wire_no (decide (((bN b (a.2 + 8) 2 : Nat) : Int) ≤ (b.length : Int) - ((a.2 + 10 : Nat) : Int))) 20) (fun x k h4_12 => ?_), trivial⟩ ?_ (fun _ _ h => h)
       ·
        exact absurd (hpo.symm.trans h4_12) (by simp)
       dsimp only [final, DS.upd, AS.seto]
       refine AWp.seq ?_
       have g2 : ¬ b.length < a.2 + 10 + bN b (a.2 + 8) 2 := by have := pNo_none hpo; simp at this; omega
       rcases hpo : perr (rdD b (bN b a.2 2) (a.2 + 10) (a.2 + 10 + bN b (a.2 + 8) 2)) with _ | xx
       ·
        refine AWp.drawsX _ [⟨0, [0], [], some 37, _, []⟩,
            ⟨1, [3], [208], some 38, _, []⟩,
            ⟨2, [38], [208], some 39, _, []⟩,
            ⟨3, [0], [], some 40, _, []⟩,
            ⟨4, [40], [0], some 41, _, []⟩,
            ⟨5, [41], [0], some 42, _, []⟩,
            ⟨6, [42], [0], some 43, _, []⟩,
            ⟨7, [4], [], some 44, _, []⟩,
            ⟨8, [43, 44], [], some 45, _, []⟩,
            ⟨9, [37, 39, 45], [0, 1, 2, 3, 4, 5, 6, 7], some 46, _, [(0, _)]⟩,
            ⟨10, [3], [208], some 47, _, []⟩,
            ⟨11, [46, 47], [208], none, _, [(208, _)]⟩]
         [⟨0, [0], [], some 37, .any, []⟩,
             ⟨1, [3], [208], some 38, .any, []⟩,
             ⟨2, [38], [208], some 39, .any, []⟩,
             ⟨3, [0], [], some 40, .any, []⟩,
             ⟨4, [40], [0], some 41, .any, []⟩,
             ⟨5, [41], [0], some 42, .any, []⟩,
             ⟨6, [42], [0], some 43, .any, []⟩,
             ⟨7, [4], [], some 44, .any, []⟩,
             ⟨8, [43, 44], [], some 45, .any, []⟩,
             ⟨9, [37, 39, 45], [0, 1, 2, 3, 4, 5, 6, 7], some 46, .any, [(0, .box [])]⟩,
             ⟨10, [3], [208], some 47, .any, []⟩,
             ⟨11, [46, 47], [208], none, .any, [(208, .box [])]⟩]
         mixed_ok rfl (by kernel_rfl) ⟨DS.okX_over fun s0 => (OpAt.go rfl rfl (q_move)).x,
             DS.okX_over fun s0 => (OpAt.go rfl rfl (q_fa)).x,
             DS.okX_over fun s0 => (OpAt.go rfl rfl (q_load)).x,
             DS.okX_over fun s0 => (OpAt.go rfl rfl (q_move)).x,
             DS.okX_over fun s0 => (OpAt.go rfl rfl (q_nil)).x,
             DS.okX_over fun s0 => (OpAt.go rfl rfl (q_fa)).x,
             DS.okX_over fun s0 => (OpAt.go rfl rfl (q_load)).x,
             DS.okX_over fun s0 => (OpAt.go rfl rfl (q_move)).x,
             DS.okX_over fun s0 => (OpAt.go rfl rfl (q_add)).x,
             DS.okX_over fun s0 => at_callP (hp' := fun k => [(0, .box [_, i64 k])]) (1) [(0, 0)] [] [(_, _)] (c_rddata b (bN b a.2 2) (a.2 + 10) (a.2 + 10 + bN b (a.2 + 8) 2) hb (by omega) (by omega)) (fun x k h5_9 => ?_),
             DS.okX_over fun s0 => (OpAt.go rfl rfl (q_fa)).x,
             DS.okX_over fun s0 => (OpAt.go rfl rfl (q_store)).x, trivial⟩ ?_ (fun _ _ h => h)
        ·
         exact absurd (hpo.symm.trans h5_9) (by simp)
        dsimp only [final, DS.upd, AS.seto]
        refine AWp.seq ?_
        refine AWp.region ?_
        obtain ⟨dd, hd⟩ := perr_none hpo
        rw [hd]
        dsimp only [resE]
        refine AOps.cons rfl rfl (q_load) ?_
        refine AOps.cons rfl rfl (q_store) ?_
        refine AOps.nil ?_
        refine AWp.ret ?_
        show Fin te Try.f72 _ _
        rw [rdR_go ha g1 g2, hd]
        refine Fin.retP (by rfl) ?_
        refine q_retHD (1) (0) [] [_] [_] [(_, _)] ?_
        rfl
       ·
        refine AWp.drawsX _ [⟨0, [0], [], some 37, _, []⟩,
            ⟨1, [3], [208], some 38, _, []⟩,
            ⟨2, [38], [208], some 39, _, []⟩,
            ⟨3, [0], [], some 40, _, []⟩,
            ⟨4, [40], [0], some 41, _, []⟩,
            ⟨5, [41], [0], some 42, _, []⟩,
            ⟨6, [42], [0], some 43, _, []⟩,
            ⟨7, [4], [], some 44, _, []⟩,
            ⟨8, [43, 44], [], some 45, _, []⟩,
            ⟨9, [37, 39, 45], [0, 1, 2, 3, 4, 5, 6, 7], some 46, _, [(0, _)]⟩,
            ⟨10, [3], [208], some 47, _, []⟩,
            ⟨11, [46, 47], [208], none, .fz 0 1 [], [(208, .box [])]⟩]
         [⟨0, [0], [], some 37, .any, []⟩,
             ⟨1, [3], [208], some 38, .any, []⟩,
             ⟨2, [38], [208], some 39, .any, []⟩,
             ⟨3, [0], [], some 40, .any, []⟩,
             ⟨4, [40], [0], some 41, .any, []⟩,
             ⟨5, [41], [0], some 42, .any, []⟩,
             ⟨6, [42], [0], some 43, .any, []⟩,
             ⟨7, [4], [], some 44, .any, []⟩,
             ⟨8, [43, 44], [], some 45, .any, []⟩,
             ⟨9, [37, 39, 45], [0, 1, 2, 3, 4, 5, 6, 7], some 46, .any, [(0, .box [])]⟩,
             ⟨10, [3], [208], some 47, .any, []⟩,
             ⟨11, [46, 47], [208], none, .any, [(208, .box [])]⟩]
         mixed_ok rfl (by kernel_rfl) ⟨DS.okX_over fun s0 => (OpAt.go rfl rfl (q_move)).x,
             DS.okX_over fun s0 => (OpAt.go rfl rfl (q_fa)).x,
             DS.okX_over fun s0 => (OpAt.go rfl rfl (q_load)).x,
             DS.okX_over fun s0 => (OpAt.go rfl rfl (q_move)).x,
             DS.okX_over fun s0 => (OpAt.go rfl rfl (q_nil)).x,
             DS.okX_over fun s0 => (OpAt.go rfl rfl (q_fa)).x,
             DS.okX_over fun s0 => (OpAt.go rfl rfl (q_load)).x,
             DS.okX_over fun s0 => (OpAt.go rfl rfl (q_move)).x,
             DS.okX_over fun s0 => (OpAt.go rfl rfl (q_add)).x,
             DS.okX_over fun s0 => at_callP (hp' := fun k => [(0, .box [_, i64 k])]) (1) [(0, 0)] [] [(_, _)] (AC.bad hpo (c_rddata b (bN b a.2 2) (a.2 + 10) (a.2 + 10 + bN b (a.2 + 8) 2) hb (by omega) (by omega))) (fun x k h5_9 => ?_),
             DS.okX_over fun s0 => (OpAt.go rfl rfl (q_fa)).x,
             DS.okX_over fun s0 => OpAtX.bot (d := 46) rfl, trivial⟩ ?_ (fun _ _ h => h)
        ·
         show Post te Try.f72 _ (.panic _) _
         refine Post.panicH (1) (k) ?_ (by repeat' (first | exact trivial | exact lv_ok rfl | exact lv_sl rfl rfl | exact lv_ptr rfl rfl | exact lv_mp rfl rfl | exact lobj_row (fun _ => rfl) | refine lobj_box ?_ | refine ⟨rfl, ⟨_, rfl, ?_⟩, ?_⟩ | refine ⟨?_, ?_⟩)) rfl
         obtain ⟨e, he1, rfl⟩ := perr_some h5_9
         rw [rdR_go ha g1 g2, he1]; rfl
        dsimp only [final, DS.upd, AS.seto]
        exact AWp.bot (d := 46) rfl
      ·
       refine AWp.drawsX _ [⟨0, [0], [], some 24, _, []⟩,
           ⟨1, [24], [0], some 25, _, []⟩,
           ⟨2, [25], [0], some 26, _, []⟩,
           ⟨3, [26], [0], some 27, _, []⟩,
           ⟨4, [27], [], some 28, _, []⟩,
           ⟨5, [0], [], some 29, _, []⟩,
           ⟨6, [29], [0], some 30, _, []⟩,
           ⟨7, [30], [0], some 31, _, []⟩,
           ⟨8, [31], [0], some 32, _, []⟩,
           ⟨9, [28, 32], [], some 33, _, []⟩,
           ⟨10, [4], [], some 34, _, []⟩,
           ⟨11, [33, 34], [], some 35, _, []⟩,
           ⟨12, [35], [0, 1, 2, 3, 4, 5, 6, 7], some 36, _, []⟩]
        [⟨0, [0], [], some 24, .any, []⟩,
            ⟨1, [24], [0], some 25, .any, []⟩,
            ⟨2, [25], [0], some 26, .any, []⟩,
            ⟨3, [26], [0], some 27, .any, []⟩,
            ⟨4, [27], [], some 28, .any, []⟩,
            ⟨5, [0], [], some 29, .any, []⟩,
            ⟨6, [29], [0], some 30, .any, []⟩,
            ⟨7, [30], [0], some 31, .any, []⟩,
            ⟨8, [31], [0], some 32, .any, []⟩,
            ⟨9, [28, 32], [], some 33, .any, []⟩,
            ⟨10, [4], [], some 34, .any, []⟩,
            ⟨11, [33, 34], [], some 35, .any, []⟩,
            ⟨12, [35], [0, 1, 2, 3, 4, 5, 6, 7], some 36, .any, []⟩]
        mixed_ok rfl (by kernel_rfl) ⟨DS.okX_over fun s0 => (OpAt.go rfl rfl (q_move)).x,
            DS.okX_over fun s0 => (OpAt.go rfl rfl (q_nil)).x,
            DS.okX_over fun s0 => (OpAt.go rfl rfl (q_fa)).x,
            DS.okX_over fun s0 => (OpAt.go rfl rfl (q_load)).x,
            DS.okX_over fun s0 => (OpAt.go rfl rfl (q_len)).x,
            DS.okX_over fun s0 => (OpAt.go rfl rfl (q_move)).x,
            DS.okX_over fun s0 => (OpAt.go rfl rfl (q_nil)).x,
            DS.okX_over fun s0 => (OpAt.go rfl rfl (q_fa)).x,
            DS.okX_over fun s0 => (OpAt.go rfl rfl (q_load)).x,
            DS.okX_over fun s0 => (OpAt.go rfl rfl (q_sub)).x,
            DS.okX_over fun s0 => (OpAt.go rfl rfl (q_move)).x,
            DS.okX_over fun s0 => (OpAt.go rfl rfl (q_geq)).x,
            DS.okX_over fun s0 => at_callP (hp' := fun k => []) (1) [] [] [] (AC.bad hpo (c_wire_no (decide (((bN b (a.2 + 8) 2 : Nat) : Int) ≤ (b.length : Int) - ((a.2 + 10 : Nat) : Int))) 20)) (fun x k h4_12 => ?_), trivial⟩ ?_ (fun _ _ h => h)
       ·
        show Post te Try.f72 _ (.panic _) _
        refine Post.panicH (1) (((a.2 + 10 : Nat) : Int)) ?_ (by repeat' (first | exact trivial | exact lv_ok rfl | exact lv_sl rfl rfl | exact lv_ptr rfl rfl | exact lv_mp rfl rfl | exact lobj_row (fun _ => rfl) | refine lobj_box ?_ | refine ⟨rfl, ⟨_, rfl, ?_⟩, ?_⟩ | refine ⟨?_, ?_⟩)) rfl
        obtain ⟨c1, rfl⟩ := pNo_some h4_12
        rw [rdR_bad ha (by simp at c1; omega)]; rfl
       dsimp only [final, DS.upd, AS.seto]
       exact AWp.bot (d := 36) rfl
     ·
      show Post te Try.f72 _ (.panic _) _
      refine Post.panicH (1) (k) ?_ (by repeat' (first | exact trivial | exact lv_ok rfl | exact lv_sl rfl rfl | exact lv_ptr rfl rfl | exact lv_mp rfl rfl | exact lobj_row (fun _ => rfl) | refine lobj_box ?_ | refine ⟨rfl, ⟨_, rfl, ?_⟩, ?_⟩ | refine ⟨?_, ?_⟩)) rfl
      obtain ⟨c1, rfl⟩ := pNo_some h3_1
      rw [rdR_bad ha (by simp at c1; omega)]; rfl
    ·
     show Post te Try.f72 _ (.panic _) _
     refine Post.panicH (1) (k) ?_ (by repeat' (first | exact trivial | exact lv_ok rfl | exact lv_sl rfl rfl | exact lv_ptr rfl rfl | exact lv_mp rfl rfl | exact lobj_row (fun _ => rfl) | refine lobj_box ?_ | refine ⟨rfl, ⟨_, rfl, ?_⟩, ?_⟩ | refine ⟨?_, ?_⟩)) rfl
     obtain ⟨c1, rfl⟩ := pNo_some h2_5
     rw [rdR_bad ha (by simp at c1; omega)]; rfl
   ·
    show Post te Try.f72 _ (.panic _) _
    refine Post.panicH (1) (k) ?_ (by repeat' (first | exact trivial | exact lv_ok rfl | exact lv_sl rfl rfl | exact lv_ptr rfl rfl | exact lv_mp rfl rfl | exact lobj_row (fun _ => rfl) | refine lobj_box ?_ | refine ⟨rfl, ⟨_, rfl, ?_⟩, ?_⟩ | refine ⟨?_, ?_⟩)) rfl
    obtain ⟨c1, rfl⟩ := pNo_some h2_3
    rw [rdR_bad ha (by simp at c1; omega)]; rfl
  ·
   show Post te Try.f72 _ (.panic _) _
   refine Post.panicH (1) (k) ?_ (by repeat' (first | exact trivial | exact lv_ok rfl | exact lv_sl rfl rfl | exact lv_ptr rfl rfl | exact lv_mp rfl rfl | exact lobj_row (fun _ => rfl) | refine lobj_box ?_ | refine ⟨rfl, ⟨_, rfl, ?_⟩, ?_⟩ | refine ⟨?_, ?_⟩)) rfl
   obtain ⟨c1, rfl⟩ := pNo_some h2_1
   rw [rdR_bad ha (by simp at c1; omega)]; rfl
 ·
  show Post te Try.f72 _ (.panic _) _
  refine Post.panicH (1) (k) ?_ (by repeat' (first | exact trivial | exact lv_ok rfl | exact lv_sl rfl rfl | exact lv_ptr rfl rfl | exact lv_mp rfl rfl | exact lobj_row (fun _ => rfl) | refine lobj_box ?_ | refine ⟨rfl, ⟨_, rfl, ?_⟩, ?_⟩ | refine ⟨?_, ?_⟩)) rfl
  obtain ⟨e, he1, rfl⟩ := perr_some h1_6
  rw [rdR, he1]; rfl
end Go.Proofs.Ytkfccjbihcbmiaa.Fw


