/- Walks of layer 2: what each comes to; its conditions stand ahead of it. -/
import Derived.Test.YtahkngplohnliaaW11
import Derived.Test.YtahkngplohnliaaWs
set_option linter.unusedVariables false
set_option linter.unusedSimpArgs false
namespace Go.Proofs.Ytahkngplohnliaa.Fw
open Go.RowKit


def wideB (b : Nat) (n : Int) : Bool := decide (n < 0) || decide (n ≥ 1 * 2 ^ b)
theorem wideB4 {n : Int} : wideB 4 n = false ↔ 0 ≤ n ∧ n ≤ 15 := by simp [wideB]; omega
theorem wideB16 {n : Int} : wideB 16 n = false ↔ 0 ≤ n ∧ n ≤ 65535 := by simp [wideB]; omega
theorem pow_le {b : Nat} (hb : b ≤ 16) : 0 ≤ (2 : Int) ^ b ∧ (2 : Int) ^ b ≤ 65536 := by
  have h : ∀ b : _root_.Fin 17, 0 ≤ (2 : Int) ^ b.val ∧ (2 : Int) ^ b.val ≤ 65536 := by decide
  exact h ⟨b, by omega⟩
structure Hd where
  id : Int
  resp : Bool
  op : Int
  aa : Bool
  tc : Bool
  rd : Bool
  ra : Bool
  code : Int
abbrev Hd.cells (h : Hd) : List AV := [i64 h.id, tf h.resp, i64 h.op, tf h.aa, tf h.tc, tf h.rd, tf h.ra, i64 h.code]
def Hd.can (h : Hd) (c0 c1 c2 c3 : Int) : Prop := (0 ≤ h.id ∧ h.id ≤ 65535) ∧ (0 ≤ h.op ∧ h.op ≤ 15) ∧ (0 ≤ h.code ∧ h.code ≤ 15) ∧ (0 ≤ c0 ∧ c0 ≤ 65535) ∧ (0 ≤ c1 ∧ c1 ≤ 65535) ∧ (0 ≤ c2 ∧ c2 ≤ 65535) ∧ (0 ≤ c3 ∧ c3 ≤ 65535)
instance (h : Hd) (c0 c1 c2 c3 : Int) : Decidable (h.can c0 c1 c2 c3) := by unfold Hd.can; infer_instance
def Hd.flN (h : Hd) (i : Nat) : Int := h.op * 2048 + h.code + (if 0 < i ∧ h.resp = true then 32768 else 0) + (if 1 < i ∧ h.aa = true then 1024 else 0) + (if 2 < i ∧ h.tc = true then 512 else 0) + (if 3 < i ∧ h.rd = true then 256 else 0) + (if 4 < i ∧ h.ra = true then 128 else 0)
def two (n : Int) : List UInt8 := [byte (n / 2 ^ 8), byte n]
def Hd.nums (h : Hd) (c0 c1 c2 c3 : Int) : List Int := [h.id, h.flN 5, c0, c1, c2, c3]
def Hd.bytes (h : Hd) (c0 c1 c2 c3 : Int) : List UInt8 := (h.nums c0 c1 c2 c3).flatMap two
theorem Hd.bytes_length (h : Hd) (c0 c1 c2 c3 : Int) : (h.bytes c0 c1 c2 c3).length = 12 := rfl
theorem can_iff {h : Hd} {c0 c1 c2 c3 : Int} : h.can c0 c1 c2 c3 ↔ wideB 16 h.id = false ∧ (wideB 4 h.op = false ∧ wideB 4 h.code = false) ∧ wideB 16 c0 = false ∧ wideB 16 c1 = false ∧ wideB 16 c2 = false ∧ wideB 16 c3 = false := by
  simp only [wideB16, wideB4, Hd.can, and_assoc]
theorem or_pow (x k : Nat) (h : x / 2 ^ k % 2 = 0) : x ||| 2 ^ k = x + 2 ^ k := by
  have h1 : x = 2 ^ (k + 1) * (x / 2 ^ (k + 1)) + x % 2 ^ k := by
    have e1 := Nat.div_add_mod x (2 ^ k)
    have e2 := Nat.div_add_mod (x / 2 ^ k) 2
    rw [h, Nat.add_zero, Nat.div_div_eq_div_mul, ← Nat.pow_succ] at e2
    rw [Nat.pow_succ, Nat.mul_assoc, ← Nat.pow_succ, e2]
    exact e1.symm
  have hlt : x % 2 ^ k < 2 ^ k := Nat.mod_lt _ (Nat.two_pow_pos k)
  generalize hq : x / 2 ^ (k + 1) = q at h1
  generalize hr : x % 2 ^ k = r at h1 hlt
  subst h1
  have e3 : 2 ^ (k + 1) = 2 ^ k * 2 := Nat.pow_succ ..
  rw [Nat.two_pow_add_eq_or_of_lt (by omega : r < 2 ^ (k + 1)) q, Nat.or_assoc]
  have e4 : r ||| 2 ^ k = 2 ^ k * 1 + r := by
    rw [Nat.two_pow_add_eq_or_of_lt hlt 1, Nat.mul_one, Nat.or_comm]
  rw [e4, ← Nat.two_pow_add_eq_or_of_lt (by omega : 2 ^ k * 1 + r < 2 ^ (k + 1)) q, ← Nat.two_pow_add_eq_or_of_lt (by omega : r < 2 ^ (k + 1)) q]
  omega
theorem or_int {x : Int} {k : Nat} {m : Int} (h0 : 0 ≤ x) (hm : m = 2 ^ k) (h : x.toNat / 2 ^ k % 2 = 0) : ((x.toNat ||| m.toNat : Nat) : Int) = x + m := by
  subst hm
  have : ((2 : Int) ^ k).toNat = 2 ^ k := by
    have : (2 : Int) ^ k = ((2 ^ k : Nat) : Int) := by simp
    rw [this, Int.toNat_natCast]
  rw [this, or_pow _ _ h]
  simp
  omega
theorem fl_start {h : Hd} (hop : 0 ≤ h.op ∧ h.op ≤ 15) (hco : 0 ≤ h.code ∧ h.code ≤ 15) : (((h.op * 2 ^ 11).toNat ||| h.code.toNat : Nat) : Int) = h.op * 2048 + h.code := by
  have e : (h.op * 2 ^ 11).toNat = 2 ^ 11 * h.op.toNat := by omega
  rw [e, ← Nat.two_pow_add_eq_or_of_lt (by omega : h.code.toNat < 2 ^ 11) h.op.toNat]
  omega
theorem fl_start' {h : Hd} (hop : 0 ≤ h.op ∧ h.op ≤ 15) (hco : 0 ≤ h.code ∧ h.code ≤ 15) : (((h.op * 2 ^ 11).toNat ||| h.code.toNat : Nat) : Int) = h.flN 0 := by
  rw [fl_start hop hco]
  simp [Hd.flN]
theorem Hd.fl_pos {h : Hd} (hop : 0 ≤ h.op ∧ h.op ≤ 15) (hco : 0 ≤ h.code ∧ h.code ≤ 15) (i : Nat) : 0 ≤ h.flN i ∧ h.flN i ≤ 65535 := by
  unfold Hd.flN
  repeat' split
  all_goals omega
theorem Hd.fl0 {h : Hd} (hop : 0 ≤ h.op ∧ h.op ≤ 15) (hco : 0 ≤ h.code ∧ h.code ≤ 15) (hb : h.resp = true) : (((h.flN 0).toNat ||| (32768 : Int).toNat : Nat) : Int) = h.flN 1 := by
  rw [or_int (k := 15) (hop.1 |> fun _ => (Hd.fl_pos hop hco 0).1) (by decide) (by simp [Hd.flN]; omega)]
  simp [Hd.flN, hb]
theorem Hd.fl1 {h : Hd} (hop : 0 ≤ h.op ∧ h.op ≤ 15) (hco : 0 ≤ h.code ∧ h.code ≤ 15) (hb : h.aa = true) : (((h.flN 1).toNat ||| (1024 : Int).toNat : Nat) : Int) = h.flN 2 := by
  rw [or_int (k := 10) (Hd.fl_pos hop hco 1).1 (by decide) (by cases hr : h.resp <;> simp [Hd.flN, hr] <;> omega)]
  simp [Hd.flN, hb]
theorem Hd.fl2 {h : Hd} (hop : 0 ≤ h.op ∧ h.op ≤ 15) (hco : 0 ≤ h.code ∧ h.code ≤ 15) (hb : h.tc = true) : (((h.flN 2).toNat ||| (512 : Int).toNat : Nat) : Int) = h.flN 3 := by
  rw [or_int (k := 9) (Hd.fl_pos hop hco 2).1 (by decide) (by cases hr : h.resp <;> cases ha : h.aa <;> simp [Hd.flN, hr, ha] <;> omega)]
  simp [Hd.flN, hb]
theorem Hd.fl3 {h : Hd} (hop : 0 ≤ h.op ∧ h.op ≤ 15) (hco : 0 ≤ h.code ∧ h.code ≤ 15) (hb : h.rd = true) : (((h.flN 3).toNat ||| (256 : Int).toNat : Nat) : Int) = h.flN 4 := by
  rw [or_int (k := 8) (Hd.fl_pos hop hco 3).1 (by decide) (by cases hr : h.resp <;> cases ha : h.aa <;> cases ht : h.tc <;> simp [Hd.flN, hr, ha, ht] <;> omega)]
  simp [Hd.flN, hb]
theorem Hd.fl4 {h : Hd} (hop : 0 ≤ h.op ∧ h.op ≤ 15) (hco : 0 ≤ h.code ∧ h.code ≤ 15) (hb : h.ra = true) : (((h.flN 4).toNat ||| (128 : Int).toNat : Nat) : Int) = h.flN 5 := by
  rw [or_int (k := 7) (Hd.fl_pos hop hco 4).1 (by decide) (by cases hr : h.resp <;> cases ha : h.aa <;> cases ht : h.tc <;> cases hd : h.rd <;> simp [Hd.flN, hr, ha, ht, hd] <;> omega)]
  simp [Hd.flN, hb]
theorem Hd.fl_skip {h : Hd} (i : Nat) (hb : (i = 0 → h.resp = false) ∧ (i = 1 → h.aa = false) ∧ (i = 2 → h.tc = false) ∧ (i = 3 → h.rd = false) ∧ (i = 4 → h.ra = false)) : h.flN i = h.flN (i + 1) := by
  obtain ⟨h0, h1, h2, h3, h4⟩ := hb
  rcases i with _ | _ | _ | _ | _ | i
  · simp [Hd.flN, h0 rfl]
  · simp [Hd.flN, h1 rfl]
  · simp [Hd.flN, h2 rfl]
  · simp [Hd.flN, h3 rfl]
  · simp [Hd.flN, h4 rfl]
  · simp [Hd.flN]

def hB (h : Hd) (c0 c1 c2 c3 : Int) : List UInt8 := if h.can c0 c1 c2 c3 then h.bytes c0 c1 c2 c3 else []
def hE (h : Hd) (c0 c1 c2 c3 : Int) : Int := if h.can c0 c1 c2 c3 then 0 else 1
theorem hB_yes {h : Hd} {c0 c1 c2 c3 : Int} (k : h.can c0 c1 c2 c3) : hB h c0 c1 c2 c3 = h.bytes c0 c1 c2 c3 := if_pos k
theorem hE_yes {h : Hd} {c0 c1 c2 c3 : Int} (k : h.can c0 c1 c2 c3) : hE h c0 c1 c2 c3 = 0 := if_pos k
theorem hB_no {h : Hd} {c0 c1 c2 c3 : Int} (k : ¬ h.can c0 c1 c2 c3) : hB h c0 c1 c2 c3 = [] := if_neg k
theorem hE_no {h : Hd} {c0 c1 c2 c3 : Int} (k : ¬ h.can c0 c1 c2 c3) : hE h c0 c1 c2 c3 = 1 := if_neg k
abbrev Hd.flags (h : Hd) : List Bool := [h.resp, h.aa, h.tc, h.rd, h.ra]
abbrev masks : List Int := [32768, 1024, 512, 256, 128]
theorem masks_at (i : Nat) : 0 ≤ masks.getD i default ∧ masks.getD i default ≤ 32768 := by
  match i with
  | 0 | 1 | 2 | 3 | 4 => simp
  | i + 5 => simp
theorem Hd.fl_on {h : Hd} (hop : 0 ≤ h.op ∧ h.op ≤ 15) (hco : 0 ≤ h.code ∧ h.code ≤ 15) {i : Nat} (hi : i < 5) (hb : h.flags.getD i default = true) : (((h.flN i).toNat ||| (masks.getD i default).toNat : Nat) : Int) = h.flN (i + 1) := by
  match i, hi, hb with
  | 0, _, hb => exact Hd.fl0 hop hco hb
  | 1, _, hb => exact Hd.fl1 hop hco hb
  | 2, _, hb => exact Hd.fl2 hop hco hb
  | 3, _, hb => exact Hd.fl3 hop hco hb
  | 4, _, hb => exact Hd.fl4 hop hco hb
theorem Hd.fl_off {h : Hd} {i : Nat} (hi : i < 5) (hb : h.flags.getD i default = false) : h.flN i = h.flN (i + 1) := by
  match i, hi, hb with
  | 0, _, hb => exact Hd.fl_skip 0 (by simp_all)
  | 1, _, hb => exact Hd.fl_skip 1 (by simp_all)
  | 2, _, hb => exact Hd.fl_skip 2 (by simp_all)
  | 3, _, hb => exact Hd.fl_skip 3 (by simp_all)
  | 4, _, hb => exact Hd.fl_skip 4 (by simp_all)
theorem two_step {l : List Int} {j : Nat} (hj : j < l.length) : (l.take (j + 1)).flatMap two = (l.take j).flatMap two ++ [byte (l.getD j default / 2 ^ 8), byte (l.getD j default)] := by
  rw [List.take_succ_eq_append_getElem hj, List.flatMap_append]
  simp [two, List.getD_eq_getElem?_getD, List.getElem?_eq_getElem hj]
theorem fl_ref (h : Hd) : (if h.resp then (2 : Int) ^ 15 else 0) + h.op * 2 ^ 11 + (if h.aa then (2 : Int) ^ 10 else 0) + (if h.tc then (2 : Int) ^ 9 else 0) + (if h.rd then (2 : Int) ^ 8 else 0) + (if h.ra then (2 : Int) ^ 7 else 0) + h.code = h.flN 5 := by
  simp [Hd.flN]
  omega
theorem nums_pos {h : Hd} {c0 c1 c2 c3 : Int} (k : h.can c0 c1 c2 c3) (j : Nat) : 0 ≤ (h.nums c0 c1 c2 c3).getD j default ∧ (h.nums c0 c1 c2 c3).getD j default ≤ 65535 := by
  obtain ⟨hid, hop, hco, hc0, hc1, hc2, hc3⟩ := k
  have hf := Hd.fl_pos hop hco 5
  match j with
  | 0 => exact hid
  | 1 => exact hf
  | 2 => exact hc0
  | 3 => exact hc1
  | 4 => exact hc2
  | 5 => exact hc3
  | j + 6 => simp [Hd.nums]
theorem two_len : ∀ l : List Int, (l.flatMap two).length = 2 * l.length
  | [] => rfl
  | a :: l => by rw [List.flatMap_cons, List.length_append, two_len l, List.length_cons]; simp [two]; omega
theorem anyw {b : Nat} {l : List Int} (h : l.any (wideB b) = false) : ∀ x ∈ l, wideB b x = false := by simpa using h
theorem Hd.can_of {h : Hd} {c0 c1 c2 c3 : Int} (h1 : [h.id].any (wideB 16) = false) (h2 : [h.op, h.code].any (wideB 4) = false) (h3 : [c0, c1, c2, c3].any (wideB 16) = false) : h.can c0 c1 c2 c3 := by
  simp only [List.any_cons, List.any_nil, Bool.or_false, Bool.or_eq_false_iff] at h1 h2 h3
  exact can_iff.2 ⟨h1, h2, h3⟩
theorem Hd.not_can1 {h : Hd} {c0 c1 c2 c3 : Int} (h1 : [h.id].any (wideB 16) = true) : ¬ h.can c0 c1 c2 c3 := fun hc => by
  obtain ⟨q1, _⟩ := can_iff.1 hc
  simp [q1] at h1
theorem Hd.not_can2 {h : Hd} {c0 c1 c2 c3 : Int} (h1 : [h.op, h.code].any (wideB 4) = true) : ¬ h.can c0 c1 c2 c3 := fun hc => by
  obtain ⟨_, ⟨q1, q2⟩, _⟩ := can_iff.1 hc
  simp [q1, q2] at h1
theorem Hd.not_can3 {h : Hd} {c0 c1 c2 c3 : Int} (h1 : [c0, c1, c2, c3].any (wideB 16) = true) : ¬ h.can c0 c1 c2 c3 := fun hc => by
  obtain ⟨_, _, q1, q2, q3, q4⟩ := can_iff.1 hc
  simp [q1, q2, q3, q4] at h1

set_option maxRecDepth 20000 in
theorem c_header_wide_1 (n : Int) (b lv : Nat) (hb : b ≤ 16) : AC Try.prog 35 [i64 n, .fp lv [i64 b]] emp (Ret (tf (wideB b n))) := by
  have hp := pow_le hb
  refine AC.intro te_ok (fn := Try.f35) ⟨Try.func35, rfl, rfl⟩ (Nat.le_of_ble_eq_true rfl) ?_
  refine AWp.seq ?_
  refine AWp.region ?_
  refine AOps.cons rfl rfl (q_assign) ?_
  refine AOps.nil ?_
  refine AWp.seq ?_
  refine AWp.region ?_
  refine AOps.cons rfl rfl (q_move) ?_
  refine AOps.dec rfl rfl (q_lss) (fun h1_1 => ?_) (fun h1_1 => ?_)
  · skip
    refine AOps.cons rfl rfl (q_move) ?_
    refine AOps.gskip rfl rfl rfl rfl rfl rfl rfl rfl ?_
    refine AOps.gskip rfl rfl rfl rfl rfl rfl rfl rfl ?_
    refine AOps.gskip rfl rfl rfl rfl rfl rfl rfl rfl ?_
    refine AOps.gskip rfl rfl rfl rfl rfl rfl rfl rfl ?_
    refine AOps.cons rfl rfl (q_pick) ?_
    refine AOps.cons rfl rfl (q_assign) ?_
    refine AOps.nil ?_
    refine AWp.ret ?_
    show Fin te Try.f35 _ _
    refine q_ret (0) [_] [_] ?_
    simp [wideB, h1_1, resVal]
  · skip
    refine AOps.cons rfl rfl (q_move) ?_
    refine AOps.gcons rfl rfl rfl rfl rfl (q_move) ?_
    refine AOps.gcons rfl rfl rfl rfl rfl (q_load) ?_
    refine AOps.gcons rfl rfl rfl rfl rfl (q_shl b) ?_
    refine AOps.gcons rfl rfl rfl rfl rfl (q_geq) ?_
    refine AOps.cons rfl rfl (q_pick) ?_
    refine AOps.cons rfl rfl (q_assign) ?_
    refine AOps.nil ?_
    refine AWp.ret ?_
    show Fin te Try.f35 _ _
    refine q_ret (0) [_] [_] ?_
    simp [wideB, h1_1, resVal]

set_option maxRecDepth 20000 in
theorem c_header_wide (b : Nat) (l : List Int) (lv : Nat) (hb : b ≤ 16) (hl : l.length ≤ 140737488351232) : AC Try.prog 29 [i64 b, .fz lv l.length (cl ic l)] emp (Ret (tf (l.any (wideB b)))) := by
  refine AC.intro te_ok (fn := Try.f29) ⟨Try.func29, rfl, rfl⟩ (Nat.le_of_ble_eq_true rfl) ?_
  refine AWp.seq ?_
  refine AWp.region ?_
  refine AOps.cons rfl rfl (q_box 100) ?_
  refine AOps.cons rfl rfl (q_assign) ?_
  refine AOps.nil ?_
  refine AWp.seq ?_
  refine AWp.region ?_
  refine AOps.cons rfl rfl (q_move) ?_
  refine AOps.cons rfl rfl (q_makeFunc [] [_]) ?_
  refine AOps.cons rfl rfl (q_call (lv) (hc := (c_ContainsFunc_int l lv 0 (lv + 1) _ (wideB b) hl (by simp [AV.oks, AV.ok]) (fun n _ => c_header_wide_1 n b _ hb)))) ?_
  refine AOps.cons rfl rfl (q_assign) ?_
  refine AOps.nil ?_
  refine AWp.ret ?_
  show Fin te Try.f29 _ _
  refine q_ret (0) [_] [_] ?_
  rfl

set_option maxRecDepth 20000 in
theorem co_header_Encode (h : Hd) (c0 c1 c2 c3 : Int) : AC Try.prog 16 [.agg [i64 h.id, tf h.resp, i64 h.op, tf h.aa, tf h.tc, tf h.rd, tf h.ra, i64 h.code], .agg [i64 c0, i64 c1, i64 c2, i64 c3]] (hlook []) (RetH (.tup [.sl 8 0 0 (hB h c0 c1 c2 c3).length 1, i64 (hE h c0 c1 c2 c3)]) [(8, .row (cl bc (hB h c0 c1 c2 c3)) 1 0)]) := by
  refine AC.intro te_ok (fn := Try.f16) ⟨Try.func16, rfl, rfl⟩ (Nat.le_of_ble_eq_true rfl) ?_
  refine AWp.seq ?_
  refine AWp.region ?_
  refine AOps.cons rfl rfl (q_box 100) ?_
  refine AOps.cons rfl rfl (q_box 101) ?_
  refine AOps.cons rfl rfl (q_nilz 0 bc) ?_
  refine AOps.cons rfl rfl (q_assign) ?_
  refine AOps.nil ?_
  refine AWp.seq ?_
  refine AWp.seq ?_
  refine AWp.region ?_
  refine AOps.cons rfl rfl (q_fa) ?_
  refine AOps.cons rfl rfl (q_load) ?_
  refine AOps.cons rfl rfl (q_bs 202 ic [_] [(_, _)]) ?_
  refine AOps.bool rfl rfl (q_call (0) (hc := (c_header_wide 16 [h.id] _ (by decide) (by simp)))) (fun h1_3 => ?_) (fun h1_3 => ?_)
  · skip
    refine AOps.cons rfl rfl (q_move) ?_
    refine AOps.gskip rfl rfl rfl rfl rfl rfl rfl rfl ?_
    refine AOps.gskip rfl rfl rfl rfl rfl rfl rfl rfl ?_
    refine AOps.gskip rfl rfl rfl rfl rfl rfl rfl rfl ?_
    refine AOps.gskip rfl rfl rfl rfl rfl rfl rfl rfl ?_
    refine AOps.gskip rfl rfl rfl rfl rfl rfl rfl rfl ?_
    refine AOps.gskip rfl rfl rfl rfl rfl rfl rfl rfl ?_
    refine AOps.cons rfl rfl (q_pick) ?_
    refine AOps.cons rfl rfl (q_move) ?_
    refine AOps.gskip rfl rfl rfl rfl rfl rfl rfl rfl ?_
    refine AOps.gskip rfl rfl rfl rfl rfl rfl rfl rfl ?_
    refine AOps.cons rfl rfl (q_pick) ?_
    refine AOps.nil ?_
    refine AWp.cond_t rfl ?_
    refine AWp.seq ?_
    refine AWp.region ?_
    refine AOps.cons rfl rfl (q_nilrow 8 1 bc) ?_
    refine AOps.cons rfl rfl (q_assign) ?_
    refine AOps.nil ?_
    refine AWp.ret ?_
    show Fin te Try.f16 _ _
    rw [hB_no (Hd.not_can1 h1_3), hE_no (Hd.not_can1 h1_3)]
    refine q_retH (0) [8] [_, _] [.sl 8 0 0 _ 1, _] [(8, .row (cl bc _) 1 0)] ?_
    rfl
  · skip
    refine AOps.cons rfl rfl (q_move) ?_
    refine AOps.gcons rfl rfl rfl rfl rfl (q_fa) ?_
    refine AOps.gcons rfl rfl rfl rfl rfl (q_load) ?_
    refine AOps.gcons rfl rfl rfl rfl rfl (q_fa) ?_
    refine AOps.gcons rfl rfl rfl rfl rfl (q_load) ?_
    refine AOps.gcons rfl rfl rfl rfl rfl (q_bs 209 ic [_, _] [(_, _), (_, _)]) ?_
    refine AOps.gbool rfl rfl rfl rfl rfl (q_call (0) (hc := (c_header_wide 4 [h.op, h.code] _ (by decide) (by simp)))) (fun h1_10 => ?_) (fun h1_10 => ?_)
    · skip
      refine AOps.cons rfl rfl (q_pick) ?_
      refine AOps.cons rfl rfl (q_move) ?_
      refine AOps.gskip rfl rfl rfl rfl rfl rfl rfl rfl ?_
      refine AOps.gskip rfl rfl rfl rfl rfl rfl rfl rfl ?_
      refine AOps.cons rfl rfl (q_pick) ?_
      refine AOps.nil ?_
      refine AWp.cond_t rfl ?_
      refine AWp.seq ?_
      refine AWp.region ?_
      refine AOps.cons rfl rfl (q_nilrow 8 1 bc) ?_
      refine AOps.cons rfl rfl (q_assign) ?_
      refine AOps.nil ?_
      refine AWp.ret ?_
      show Fin te Try.f16 _ _
      rw [hB_no (Hd.not_can2 h1_10), hE_no (Hd.not_can2 h1_10)]
      refine q_retH (0) [8] [_, _] [.sl 8 0 0 _ 1, _] [(8, .row (cl bc _) 1 0)] ?_
      rfl
    · skip
      refine AOps.cons rfl rfl (q_pick) ?_
      refine AOps.cons rfl rfl (q_move) ?_
      refine AOps.gcons rfl rfl rfl rfl rfl (q_sla) ?_
      refine AOps.gbool rfl rfl rfl rfl rfl (q_call (0) (hA := by exact ⟨fv_ok rfl, fv_row rfl rfl rfl (Nat.le_of_ble_eq_true rfl) (by decide) rfl, trivial⟩) (hc := (c_header_wide 16 [c0, c1, c2, c3] _ (by decide) (by simp)))) (fun h1_14 => ?_) (fun h1_14 => ?_)
      · skip
        refine AOps.cons rfl rfl (q_pick) ?_
        refine AOps.nil ?_
        refine AWp.cond_t rfl ?_
        refine AWp.seq ?_
        refine AWp.region ?_
        refine AOps.cons rfl rfl (q_nilrow 8 1 bc) ?_
        refine AOps.cons rfl rfl (q_assign) ?_
        refine AOps.nil ?_
        refine AWp.ret ?_
        show Fin te Try.f16 _ _
        rw [hB_no (Hd.not_can3 h1_14), hE_no (Hd.not_can3 h1_14)]
        refine q_retH (0) [8] [_, _] [.sl 8 0 0 _ 1, _] [(8, .row (cl bc _) 1 0)] ?_
        rfl
      · skip
        refine AOps.cons rfl rfl (q_pick) ?_
        refine AOps.nil ?_
        refine AWp.cond_f rfl ?_
        refine AWp.skip ?_
        refine AWp.seq ?_
        refine AWp.region ?_
        have hcan : h.can c0 c1 c2 c3 := Hd.can_of h1_3 h1_10 h1_14
        obtain ⟨hid, hop, hco, hc0, hc1, hc2, hc3⟩ := id hcan
        refine AOps.cons rfl rfl (q_fa) ?_
        refine AOps.cons rfl rfl (q_load) ?_
        refine AOps.cons rfl rfl (q_shl 11) ?_
        refine AOps.cons rfl rfl (q_fa) ?_
        refine AOps.cons rfl rfl (q_load) ?_
        refine AOps.cons rfl rfl (q_or) ?_
        refine AOps.cons rfl rfl (q_assign) ?_
        refine AOps.nil ?_
        refine AWp.seq ?_
        refine AWp.region ?_
        refine AOps.cons rfl rfl (q_buildA ic [32768, 1024, 512, 256, 128] [(_, _), (_, _), (_, _), (_, _), (_, _)]) ?_
        refine AOps.cons rfl rfl (q_alloc 501) ?_
        refine AOps.cons rfl rfl (q_store) ?_
        refine AOps.nil ?_
        refine AWp.seq ?_
        refine AWp.seq ?_
        refine AWp.region ?_
        refine AOps.cons rfl rfl (q_fa) ?_
        refine AOps.cons rfl rfl (q_load) ?_
        refine AOps.cons rfl rfl (q_fa) ?_
        refine AOps.cons rfl rfl (q_load) ?_
        refine AOps.cons rfl rfl (q_fa) ?_
        refine AOps.cons rfl rfl (q_load) ?_
        refine AOps.cons rfl rfl (q_fa) ?_
        refine AOps.cons rfl rfl (q_load) ?_
        refine AOps.cons rfl rfl (q_fa) ?_
        refine AOps.cons rfl rfl (q_load) ?_
        refine AOps.cons rfl rfl (q_buildA tc [_, _, _, _, _] [(_, _), (_, _), (_, _), (_, _), (_, _)]) ?_
        refine AOps.cons rfl rfl (q_move) ?_
        refine AOps.nil ?_
        refine AWp.block ?_
        refine AWp.loopR (α := Nat) [6, 8, 9, 47, 48, 49, 50, 51, 52, 53, 54, 55, 56, 57] (fun i => [(47, i64 i), (6, i64 (h.flN i))]) (fun i => []) (fun i => i ≤ 5) (fun i => 5 - i) 0 ?_ (Back.mk' (HasT.cons (HasT.cons HasT.nil (h1 := by exact i64_eq (fl_start' hop hco)) )) HasH.nil) ?_
        · decide
        · rintro i hi
          refine AWp.seq ?_
          refine AWp.region ?_
          refine AOps.dec rfl rfl (q_lss) (fun h6_0 => ?_) (fun h6_0 => ?_)
          · skip
            refine AOps.nil ?_
            refine AWp.seq ?_
            refine AWp.cond_t rfl ?_
            refine AWp.skip ?_
            refine AWp.seq ?_
            refine AWp.block ?_
            refine AWp.seq ?_
            refine AWp.region ?_
            refine AOps.cons rfl rfl (q_move) ?_
            refine AOps.bool rfl rfl (q_ixagg) (fun h7_1 => ?_) (fun h7_1 => ?_)
            · skip
              refine AOps.cons rfl rfl (q_assign) ?_
              refine AOps.cons rfl rfl (q_assign) ?_
              refine AOps.nil ?_
              refine AWp.seq ?_
              refine AWp.region ?_
              refine AOps.cons rfl rfl (q_move) ?_
              refine AOps.nil ?_
              refine AWp.cond_t rfl ?_
              refine AWp.region ?_
              have hfl := Hd.fl_pos hop hco i
              have hm : 0 ≤ ([32768, 1024, 512, 256, 128] : List Int).getD (i : Int).toNat default ∧ ([32768, 1024, 512, 256, 128] : List Int).getD (i : Int).toNat default ≤ 32768 := masks_at i
              refine AOps.cons rfl rfl (q_move) ?_
              refine AOps.cons rfl rfl (q_move) ?_
              refine AOps.cons rfl rfl (q_ixa) ?_
              refine AOps.cons rfl rfl (q_load) ?_
              refine AOps.cons rfl rfl (q_or) ?_
              refine AOps.cons rfl rfl (q_assign) ?_
              refine AOps.nil ?_
              refine AWp.region ?_
              refine AOps.cons rfl rfl (q_add) ?_
              refine AOps.cons rfl rfl (q_move) ?_
              refine AOps.nil ?_
              refine ⟨i + 1, ?_, Back.mk' (HasT.cons (HasT.cons HasT.nil (h1 := by exact i64_eq (Hd.fl_on hop hco (by omega) h7_1)) )) HasH.nil, ?_⟩
              · omega
              · first | omega | (simp; omega)
            · skip
              refine AOps.cons rfl rfl (q_assign) ?_
              refine AOps.cons rfl rfl (q_assign) ?_
              refine AOps.nil ?_
              refine AWp.seq ?_
              refine AWp.region ?_
              refine AOps.cons rfl rfl (q_move) ?_
              refine AOps.nil ?_
              refine AWp.cond_f rfl ?_
              refine AWp.skip ?_
              refine AWp.region ?_
              refine AOps.cons rfl rfl (q_add) ?_
              refine AOps.cons rfl rfl (q_move) ?_
              refine AOps.nil ?_
              refine ⟨i + 1, ?_, Back.mk' (HasT.cons (HasT.cons HasT.nil (h1 := by exact i64_eq (Hd.fl_off (by omega) h7_1)) )) HasH.nil, ?_⟩
              · omega
              · first | omega | (simp; omega)
          · skip
            refine AOps.nil ?_
            refine AWp.seq ?_
            refine AWp.cond_f rfl ?_
            refine AWp.exit ?_
            refine AWp.seq ?_
            refine AWp.region ?_
            obtain rfl : i = 5 := by omega
            refine AOps.cons rfl rfl (q_nilrow 8 1 bc) ?_
            refine AOps.nil ?_
            refine AWp.seq ?_
            refine AWp.seq ?_
            refine AWp.region ?_
            refine AOps.cons rfl rfl (q_fa) ?_
            refine AOps.cons rfl rfl (q_load) ?_
            refine AOps.cons rfl rfl (q_move) ?_
            refine AOps.cons rfl rfl (q_ixa) ?_
            refine AOps.cons rfl rfl (q_load) ?_
            refine AOps.cons rfl rfl (q_ixa) ?_
            refine AOps.cons rfl rfl (q_load) ?_
            refine AOps.cons rfl rfl (q_ixa) ?_
            refine AOps.cons rfl rfl (q_load) ?_
            refine AOps.cons rfl rfl (q_ixa) ?_
            refine AOps.cons rfl rfl (q_load) ?_
            refine AOps.cons rfl rfl (q_buildA ic [_, _, _, _, _, _] [(_, _), (_, _), (_, _), (_, _), (_, _), (_, _)]) ?_
            refine AOps.cons rfl rfl (q_move) ?_
            refine AOps.nil ?_
            refine AWp.block ?_
            refine AWp.loopR (α := Nat × List UInt8 × Nat) [10, 12, 70, 71, 72, 73, 74, 75, 76, 77, 78, 79, 80, 81] (fun x_ => [(70, i64 (x_.1)), (10, .sl 8 (x_.2.2) 0 (x_.2.1).length 1)]) (fun x_ => [(8, .row (cl bc (x_.2.1)) 1 (x_.2.2))]) (fun x_ => (x_.1) ≤ 6 ∧ (x_.2.1) = ((h.nums c0 c1 c2 c3).take (x_.1)).flatMap two) (fun x_ => 6 - (x_.1)) (0, [], 0) ?_ (Back.mk' (HasT.cons (HasT.cons HasT.nil)) (HasH.cons HasH.nil)) ?_
            · exact ⟨by decide, rfl⟩
            · rintro ⟨j, acc, v⟩ hI13
              change j ≤ 6 ∧ acc = ((h.nums c0 c1 c2 c3).take j).flatMap two at hI13
              obtain ⟨hj, hacc⟩ := hI13
              refine AWp.as (s' := AS.over _ [10, 12, 70, 71, 72, 73, 74, 75, 76, 77, 78, 79, 80, 81] [(70, i64 j), (10, .sl 8 v 0 acc.length 1)] [(8, .row (cl bc acc) 1 v)]) rfl ?_
              have hal : acc.length ≤ 1000 := by rw [hacc, two_len, List.length_take]; omega
              refine AWp.seq ?_
              refine AWp.region ?_
              refine AOps.dec rfl rfl (q_lss) (fun h13_0 => ?_) (fun h13_0 => ?_)
              · skip
                refine AOps.nil ?_
                refine AWp.seq ?_
                refine AWp.cond_t rfl ?_
                refine AWp.skip ?_
                refine AWp.seq ?_
                refine AWp.block ?_
                refine AWp.seq ?_
                refine AWp.region ?_
                refine AOps.cons rfl rfl (q_ixagg) ?_
                refine AOps.cons rfl rfl (q_assign) ?_
                refine AOps.nil ?_
                refine AWp.region ?_
                refine AOps.cons rfl rfl (q_move) ?_
                refine AOps.cons rfl rfl (q_move) ?_
                refine AOps.cons rfl rfl (q_shr 8) ?_
                refine AOps.cons rfl rfl (q_conv_u8) ?_
                refine AOps.cons rfl rfl (q_move) ?_
                refine AOps.cons rfl rfl (q_conv_u8) ?_
                refine AOps.cons rfl rfl (q_bs 1606 bc [_, _] [(_, _), (_, _)]) ?_
                refine AOps.cons rfl rfl (q_app) ?_
                refine AOps.cons rfl rfl (q_assign) ?_
                refine AOps.nil ?_
                refine AWp.region ?_
                refine AOps.cons rfl rfl (q_add) ?_
                refine AOps.cons rfl rfl (q_move) ?_
                refine AOps.nil ?_
                refine ⟨(j + 1, _, _), ?_, Back.mk' (HasT.cons (HasT.cons HasT.nil)) (HasH.cons HasH.nil), ?_⟩
                · try dsimp only
                  exact ⟨by omega, by rw [two_step (by show j < 6; omega), hacc]; rfl⟩
                · try dsimp only
                  first | omega | (simp; omega)
              · skip
                refine AOps.nil ?_
                refine AWp.seq ?_
                refine AWp.cond_f rfl ?_
                refine AWp.exit ?_
                refine AWp.seq ?_
                refine AWp.region ?_
                refine AOps.cons rfl rfl (q_move) ?_
                refine AOps.cons rfl rfl (q_assign) ?_
                refine AOps.cons rfl rfl (q_assign) ?_
                refine AOps.nil ?_
                refine AWp.ret ?_
                show Fin te Try.f16 _ _
                obtain rfl : j = 6 := by omega
                obtain rfl : acc = h.bytes c0 c1 c2 c3 := hacc
                rw [hB_yes hcan, hE_yes hcan]
                refine q_retH (0) [8] [_, _] [.sl 8 0 0 _ 1, _] [(8, .row (cl bc _) 1 0)] ?_
                rfl


theorem c_header_Encode (h : Hd) (c0 c1 c2 c3 : Int) : AC Try.prog 16 [.agg h.cells, .agg [i64 c0, i64 c1, i64 c2, i64 c3]] emp (Ret (.tup [.fz 0 (hB h c0 c1 c2 c3).length (cl bc (hB h c0 c1 c2 c3)), i64 (hE h c0 c1 c2 c3)])) :=
  (co_header_Encode h c0 c1 c2 c3).fz 0 (fv_tup ⟨fv_row0 rfl .row (fun _ => rfl) (by decide) (fun _ => rfl), fv_ok rfl, trivial⟩)

set_option maxRecDepth 20000 in
theorem c_ciceroneref02_short (n : Int) : AC Try.prog 33 [i64 n] emp (Ret (tf (decide (0 ≤ n ∧ n ≤ 65535)))) := by
  refine AC.intro te_ok (fn := Try.f33) ⟨Try.func33, rfl, rfl⟩ (Nat.le_of_ble_eq_true rfl) ?_
  refine AWp.seq ?_
  refine AWp.region ?_
  refine AOps.cons rfl rfl (q_assign) ?_
  refine AOps.nil ?_
  refine AWp.seq ?_
  refine AWp.region ?_
  refine AOps.cons rfl rfl (q_move) ?_
  refine AOps.dec rfl rfl (q_geq) (fun h1_1 => ?_) (fun h1_1 => ?_)
  · skip
    refine AOps.cons rfl rfl (q_move) ?_
    refine AOps.gcons rfl rfl rfl rfl rfl (q_move) ?_
    refine AOps.gcons rfl rfl rfl rfl rfl (q_leq) ?_
    refine AOps.cons rfl rfl (q_pick) ?_
    refine AOps.cons rfl rfl (q_assign) ?_
    refine AOps.nil ?_
    refine AWp.ret ?_
    show Fin te Try.f33 _ _
    refine q_ret (0) [_] [_] ?_
    simp [resVal]; omega
  · skip
    refine AOps.cons rfl rfl (q_move) ?_
    refine AOps.gskip rfl rfl rfl rfl rfl rfl rfl rfl ?_
    refine AOps.gskip rfl rfl rfl rfl rfl rfl rfl rfl ?_
    refine AOps.cons rfl rfl (q_pick) ?_
    refine AOps.cons rfl rfl (q_assign) ?_
    refine AOps.nil ?_
    refine AWp.ret ?_
    show Fin te Try.f33 _ _
    refine q_ret (0) [_] [_] ?_
    simp [resVal]; omega

set_option maxRecDepth 20000 in
theorem c_ciceroneref02_bit (b : Bool) (m : Nat) (hm : m ≤ 16) : AC Try.prog 30 [tf b, i64 m] emp (Ret (i64 (if b then 2 ^ m else 0))) := by
  have hp := pow_le hm
  refine AC.intro te_ok (fn := Try.f30) ⟨Try.func30, rfl, rfl⟩ (Nat.le_of_ble_eq_true rfl) ?_
  refine AWp.seq ?_
  refine AWp.region ?_
  refine AOps.cons rfl rfl (q_assign) ?_
  refine AOps.nil ?_
  refine AWp.seq ?_
  refine AWp.seq ?_
  refine AWp.region ?_
  refine AOps.bool rfl rfl (q_move) (fun h1_0 => ?_) (fun h1_0 => ?_)
  · skip
    refine AOps.nil ?_
    refine AWp.cond_t rfl ?_
    refine AWp.seq ?_
    refine AWp.region ?_
    refine AOps.cons rfl rfl (q_move) ?_
    refine AOps.cons rfl rfl (q_shl m) ?_
    refine AOps.cons rfl rfl (q_assign) ?_
    refine AOps.nil ?_
    refine AWp.ret ?_
    show Fin te Try.f30 _ _
    refine q_ret (0) [_] [_] ?_
    simp [resVal, h1_0]
  · skip
    refine AOps.nil ?_
    refine AWp.cond_f rfl ?_
    refine AWp.skip ?_
    refine AWp.seq ?_
    refine AWp.region ?_
    refine AOps.cons rfl rfl (q_assign) ?_
    refine AOps.nil ?_
    refine AWp.ret ?_
    show Fin te Try.f30 _ _
    refine q_ret (0) [_] [_] ?_
    simp [resVal, h1_0]

set_option maxRecDepth 20000 in
theorem c_ciceroneref02_Can (h : Hd) (c0 c1 c2 c3 : Int) : AC Try.prog 28 [.agg [i64 h.id, tf h.resp, i64 h.op, tf h.aa, tf h.tc, tf h.rd, tf h.ra, i64 h.code], .agg [i64 c0, i64 c1, i64 c2, i64 c3]] emp (Ret (tf (decide (h.can c0 c1 c2 c3)))) := by
  refine AC.intro te_ok (fn := Try.f28) ⟨Try.func28, rfl, rfl⟩ (Nat.le_of_ble_eq_true rfl) ?_
  refine AWp.seq ?_
  refine AWp.region ?_
  refine AOps.cons rfl rfl (q_box 100) ?_
  refine AOps.cons rfl rfl (q_box 101) ?_
  refine AOps.cons rfl rfl (q_assign) ?_
  refine AOps.nil ?_
  refine AWp.seq ?_
  refine AWp.seq ?_
  refine AWp.region ?_
  refine AOps.cons rfl rfl (q_load) ?_
  refine AOps.cons rfl rfl (q_move) ?_
  refine AOps.nil ?_
  refine AWp.block ?_
  refine AWp.loopR (α := Nat) [4, 6, 7, 8, 9, 10, 11, 12, 13, 14] (fun i => [(8, i64 i), (7, .agg (cl ic [c0, c1, c2, c3]))]) (fun i => []) (fun i => i ≤ 4 ∧ ∀ k, k < i → 0 ≤ ([c0, c1, c2, c3] : List Int).getD k default ∧ ([c0, c1, c2, c3] : List Int).getD k default ≤ 65535) (fun i => 4 - i) 0 ?_ (Back.mk' (HasT.cons (HasT.cons HasT.nil)) HasH.nil) ?_
  · exact ⟨by omega, fun k hk => by omega⟩
  · rintro i ⟨hi, hI⟩
    refine AWp.seq ?_
    refine AWp.region ?_
    refine AOps.dec rfl rfl (q_lss) (fun h2_0 => ?_) (fun h2_0 => ?_)
    · skip
      refine AOps.nil ?_
      refine AWp.seq ?_
      refine AWp.cond_t rfl ?_
      refine AWp.skip ?_
      refine AWp.seq ?_
      refine AWp.block ?_
      refine AWp.seq ?_
      refine AWp.region ?_
      refine AOps.cons rfl rfl (q_ixagg) ?_
      refine AOps.cons rfl rfl (q_assign) ?_
      refine AOps.nil ?_
      refine AWp.seq ?_
      refine AWp.region ?_
      refine AOps.cons rfl rfl (q_move) ?_
      refine AOps.dec rfl rfl (q_call (0) (hc := c_ciceroneref02_short _)) (fun h4_1 => ?_) (fun h4_1 => ?_)
      · skip
        refine AOps.cons rfl rfl (q_not) ?_
        refine AOps.nil ?_
        refine AWp.cond_f rfl ?_
        refine AWp.skip ?_
        refine AWp.region ?_
        refine AOps.cons rfl rfl (q_add) ?_
        refine AOps.cons rfl rfl (q_move) ?_
        refine AOps.nil ?_
        refine ⟨i + 1, ?_, Back.mk' (HasT.cons (HasT.cons HasT.nil)) HasH.nil, ?_⟩
        · refine ⟨by omega, fun k hk => ?_⟩
          rcases Nat.lt_or_ge k i with h | h
          · exact hI k h
          · obtain rfl : k = i := by omega
            exact h4_1
        · first | omega | (simp; omega)
      · skip
        refine AOps.cons rfl rfl (q_not) ?_
        refine AOps.nil ?_
        refine AWp.cond_t rfl ?_
        refine AWp.seq ?_
        refine AWp.region ?_
        refine AOps.cons rfl rfl (q_assign) ?_
        refine AOps.nil ?_
        refine AWp.ret ?_
        show Fin te Try.f28 _ _
        refine q_ret (0) [_] [_] ?_
        refine tf_dec ⟨fun hh => (by cases hh), fun hc => absurd ?_ h4_1⟩
        obtain rfl | rfl | rfl | rfl : i = 0 ∨ i = 1 ∨ i = 2 ∨ i = 3 := by omega
        all_goals (simp [Hd.can] at hc ⊢; omega)
    · skip
      refine AOps.nil ?_
      refine AWp.seq ?_
      refine AWp.cond_f rfl ?_
      refine AWp.exit ?_
      refine AWp.seq ?_
      refine AWp.region ?_
      refine AOps.cons rfl rfl (q_fa) ?_
      refine AOps.cons rfl rfl (q_load) ?_
      refine AOps.dec rfl rfl (q_call (0) (hc := c_ciceroneref02_short _)) (fun h7_2 => ?_) (fun h7_2 => ?_)
      · skip
        refine AOps.cons rfl rfl (q_move) ?_
        refine AOps.gcons rfl rfl rfl rfl rfl (q_fa) ?_
        refine AOps.gcons rfl rfl rfl rfl rfl (q_load) ?_
        refine AOps.gdec rfl rfl rfl rfl rfl (q_geq) (fun h7_6 => ?_) (fun h7_6 => ?_)
        · skip
          refine AOps.cons rfl rfl (q_pick) ?_
          refine AOps.cons rfl rfl (q_move) ?_
          refine AOps.gcons rfl rfl rfl rfl rfl (q_fa) ?_
          refine AOps.gcons rfl rfl rfl rfl rfl (q_load) ?_
          refine AOps.gdec rfl rfl rfl rfl rfl (q_leq) (fun h7_11 => ?_) (fun h7_11 => ?_)
          · skip
            refine AOps.cons rfl rfl (q_pick) ?_
            refine AOps.cons rfl rfl (q_move) ?_
            refine AOps.gcons rfl rfl rfl rfl rfl (q_fa) ?_
            refine AOps.gcons rfl rfl rfl rfl rfl (q_load) ?_
            refine AOps.gdec rfl rfl rfl rfl rfl (q_geq) (fun h7_16 => ?_) (fun h7_16 => ?_)
            · skip
              refine AOps.cons rfl rfl (q_pick) ?_
              refine AOps.cons rfl rfl (q_move) ?_
              refine AOps.gcons rfl rfl rfl rfl rfl (q_fa) ?_
              refine AOps.gcons rfl rfl rfl rfl rfl (q_load) ?_
              refine AOps.gcons rfl rfl rfl rfl rfl (q_leq) ?_
              refine AOps.cons rfl rfl (q_pick) ?_
              refine AOps.cons rfl rfl (q_assign) ?_
              refine AOps.nil ?_
              refine AWp.ret ?_
              show Fin te Try.f28 _ _
              refine q_ret (0) [_] [_] ?_
              obtain rfl : i = 4 := by omega
              have k0 := hI 0 (by omega)
              have k1 := hI 1 (by omega)
              have k2 := hI 2 (by omega)
              have k3 := hI 3 (by omega)
              simp at k0 k1 k2 k3
              exact tf_dec (by simp [Hd.can]; omega)
            · skip
              refine AOps.cons rfl rfl (q_pick) ?_
              refine AOps.cons rfl rfl (q_move) ?_
              refine AOps.gskip rfl rfl rfl rfl rfl rfl rfl rfl ?_
              refine AOps.gskip rfl rfl rfl rfl rfl rfl rfl rfl ?_
              refine AOps.gskip rfl rfl rfl rfl rfl rfl rfl rfl ?_
              refine AOps.cons rfl rfl (q_pick) ?_
              refine AOps.cons rfl rfl (q_assign) ?_
              refine AOps.nil ?_
              refine AWp.ret ?_
              show Fin te Try.f28 _ _
              refine q_ret (0) [_] [_] ?_
              obtain rfl : i = 4 := by omega
              have k0 := hI 0 (by omega)
              have k1 := hI 1 (by omega)
              have k2 := hI 2 (by omega)
              have k3 := hI 3 (by omega)
              simp at k0 k1 k2 k3
              exact tf_dec (by simp [Hd.can]; omega)
          · skip
            refine AOps.cons rfl rfl (q_pick) ?_
            refine AOps.cons rfl rfl (q_move) ?_
            refine AOps.gskip rfl rfl rfl rfl rfl rfl rfl rfl ?_
            refine AOps.gskip rfl rfl rfl rfl rfl rfl rfl rfl ?_
            refine AOps.gskip rfl rfl rfl rfl rfl rfl rfl rfl ?_
            refine AOps.cons rfl rfl (q_pick) ?_
            refine AOps.cons rfl rfl (q_move) ?_
            refine AOps.gskip rfl rfl rfl rfl rfl rfl rfl rfl ?_
            refine AOps.gskip rfl rfl rfl rfl rfl rfl rfl rfl ?_
            refine AOps.gskip rfl rfl rfl rfl rfl rfl rfl rfl ?_
            refine AOps.cons rfl rfl (q_pick) ?_
            refine AOps.cons rfl rfl (q_assign) ?_
            refine AOps.nil ?_
            refine AWp.ret ?_
            show Fin te Try.f28 _ _
            refine q_ret (0) [_] [_] ?_
            obtain rfl : i = 4 := by omega
            have k0 := hI 0 (by omega)
            have k1 := hI 1 (by omega)
            have k2 := hI 2 (by omega)
            have k3 := hI 3 (by omega)
            simp at k0 k1 k2 k3
            exact tf_dec (by simp [Hd.can]; omega)
        · skip
          refine AOps.cons rfl rfl (q_pick) ?_
          refine AOps.cons rfl rfl (q_move) ?_
          refine AOps.gskip rfl rfl rfl rfl rfl rfl rfl rfl ?_
          refine AOps.gskip rfl rfl rfl rfl rfl rfl rfl rfl ?_
          refine AOps.gskip rfl rfl rfl rfl rfl rfl rfl rfl ?_
          refine AOps.cons rfl rfl (q_pick) ?_
          refine AOps.cons rfl rfl (q_move) ?_
          refine AOps.gskip rfl rfl rfl rfl rfl rfl rfl rfl ?_
          refine AOps.gskip rfl rfl rfl rfl rfl rfl rfl rfl ?_
          refine AOps.gskip rfl rfl rfl rfl rfl rfl rfl rfl ?_
          refine AOps.cons rfl rfl (q_pick) ?_
          refine AOps.cons rfl rfl (q_move) ?_
          refine AOps.gskip rfl rfl rfl rfl rfl rfl rfl rfl ?_
          refine AOps.gskip rfl rfl rfl rfl rfl rfl rfl rfl ?_
          refine AOps.gskip rfl rfl rfl rfl rfl rfl rfl rfl ?_
          refine AOps.cons rfl rfl (q_pick) ?_
          refine AOps.cons rfl rfl (q_assign) ?_
          refine AOps.nil ?_
          refine AWp.ret ?_
          show Fin te Try.f28 _ _
          refine q_ret (0) [_] [_] ?_
          obtain rfl : i = 4 := by omega
          have k0 := hI 0 (by omega)
          have k1 := hI 1 (by omega)
          have k2 := hI 2 (by omega)
          have k3 := hI 3 (by omega)
          simp at k0 k1 k2 k3
          exact tf_dec (by simp [Hd.can]; omega)
      · skip
        refine AOps.cons rfl rfl (q_move) ?_
        refine AOps.gskip rfl rfl rfl rfl rfl rfl rfl rfl ?_
        refine AOps.gskip rfl rfl rfl rfl rfl rfl rfl rfl ?_
        refine AOps.gskip rfl rfl rfl rfl rfl rfl rfl rfl ?_
        refine AOps.cons rfl rfl (q_pick) ?_
        refine AOps.cons rfl rfl (q_move) ?_
        refine AOps.gskip rfl rfl rfl rfl rfl rfl rfl rfl ?_
        refine AOps.gskip rfl rfl rfl rfl rfl rfl rfl rfl ?_
        refine AOps.gskip rfl rfl rfl rfl rfl rfl rfl rfl ?_
        refine AOps.cons rfl rfl (q_pick) ?_
        refine AOps.cons rfl rfl (q_move) ?_
        refine AOps.gskip rfl rfl rfl rfl rfl rfl rfl rfl ?_
        refine AOps.gskip rfl rfl rfl rfl rfl rfl rfl rfl ?_
        refine AOps.gskip rfl rfl rfl rfl rfl rfl rfl rfl ?_
        refine AOps.cons rfl rfl (q_pick) ?_
        refine AOps.cons rfl rfl (q_move) ?_
        refine AOps.gskip rfl rfl rfl rfl rfl rfl rfl rfl ?_
        refine AOps.gskip rfl rfl rfl rfl rfl rfl rfl rfl ?_
        refine AOps.gskip rfl rfl rfl rfl rfl rfl rfl rfl ?_
        refine AOps.cons rfl rfl (q_pick) ?_
        refine AOps.cons rfl rfl (q_assign) ?_
        refine AOps.nil ?_
        refine AWp.ret ?_
        show Fin te Try.f28 _ _
        refine q_ret (0) [_] [_] ?_
        obtain rfl : i = 4 := by omega
        have k0 := hI 0 (by omega)
        have k1 := hI 1 (by omega)
        have k2 := hI 2 (by omega)
        have k3 := hI 3 (by omega)
        simp at k0 k1 k2 k3
        exact tf_dec (by simp [Hd.can]; omega)

set_option maxRecDepth 20000 in
theorem co_ref02_Encode (h : Hd) (c0 c1 c2 c3 : Int) : AC Try.prog 17 [.agg [i64 h.id, tf h.resp, i64 h.op, tf h.aa, tf h.tc, tf h.rd, tf h.ra, i64 h.code], .agg [i64 c0, i64 c1, i64 c2, i64 c3]] (hlook []) (RetH (.tup [.sl 8 0 0 (hB h c0 c1 c2 c3).length 1, i64 (hE h c0 c1 c2 c3)]) [(8, .row (cl bc (hB h c0 c1 c2 c3)) 1 0)]) := by
  refine AC.intro te_ok (fn := Try.f17) ⟨Try.func17, rfl, rfl⟩ (Nat.le_of_ble_eq_true rfl) ?_
  refine AWp.seq ?_
  refine AWp.region ?_
  refine AOps.cons rfl rfl (q_box 100) ?_
  refine AOps.cons rfl rfl (q_box 101) ?_
  refine AOps.cons rfl rfl (q_nilz 0 bc) ?_
  refine AOps.cons rfl rfl (q_assign) ?_
  refine AOps.nil ?_
  refine AWp.seq ?_
  refine AWp.seq ?_
  refine AWp.region ?_
  refine AOps.cons rfl rfl (q_load) ?_
  refine AOps.cons rfl rfl (q_load) ?_
  refine AOps.dec rfl rfl (q_call (0) (hc := (c_ciceroneref02_Can h c0 c1 c2 c3))) (fun h1_2 => ?_) (fun h1_2 => ?_)
  · skip
    refine AOps.cons rfl rfl (q_not) ?_
    refine AOps.nil ?_
    refine AWp.cond_f rfl ?_
    refine AWp.skip ?_
    refine AWp.seq ?_
    obtain ⟨hid, hop, hco, hc0, hc1, hc2, hc3⟩ := id h1_2
    have b1 : 0 ≤ (if h.resp then (2 : Int) ^ 15 else 0) ∧ (if h.resp then (2 : Int) ^ 15 else 0) ≤ 65536 := by split <;> decide
    have b2 : 0 ≤ (if h.aa then (2 : Int) ^ 10 else 0) ∧ (if h.aa then (2 : Int) ^ 10 else 0) ≤ 65536 := by split <;> decide
    have b3 : 0 ≤ (if h.tc then (2 : Int) ^ 9 else 0) ∧ (if h.tc then (2 : Int) ^ 9 else 0) ≤ 65536 := by split <;> decide
    have b4 : 0 ≤ (if h.rd then (2 : Int) ^ 8 else 0) ∧ (if h.rd then (2 : Int) ^ 8 else 0) ≤ 65536 := by split <;> decide
    have b5 : 0 ≤ (if h.ra then (2 : Int) ^ 7 else 0) ∧ (if h.ra then (2 : Int) ^ 7 else 0) ≤ 65536 := by split <;> decide
    refine AWp.draws [⟨0, [2], [100], some 14, _, none⟩,
        ⟨1, [14], [100], some 15, _, none⟩,
        ⟨2, [15], [], some 16, _, none⟩,
        ⟨3, [2], [100], some 17, _, none⟩,
        ⟨4, [17], [100], some 18, _, none⟩,
        ⟨5, [18], [], some 19, _, none⟩,
        ⟨6, [16, 19], [], some 20, _, none⟩,
        ⟨7, [2], [100], some 21, _, none⟩,
        ⟨8, [21], [100], some 22, _, none⟩,
        ⟨9, [22], [], some 23, _, none⟩,
        ⟨10, [20, 23], [], some 24, _, none⟩,
        ⟨11, [2], [100], some 25, _, none⟩,
        ⟨12, [25], [100], some 26, _, none⟩,
        ⟨13, [26], [], some 27, _, none⟩,
        ⟨14, [24, 27], [], some 28, _, none⟩,
        ⟨15, [2], [100], some 29, _, none⟩,
        ⟨16, [29], [100], some 30, _, none⟩,
        ⟨17, [30], [], some 31, _, none⟩,
        ⟨18, [28, 31], [], some 32, _, none⟩,
        ⟨19, [2], [100], some 33, _, none⟩,
        ⟨20, [33], [100], some 34, _, none⟩,
        ⟨21, [34], [], some 35, _, none⟩,
        ⟨22, [32, 35], [], some 36, _, none⟩,
        ⟨23, [2], [100], some 37, _, none⟩,
        ⟨24, [37], [100], some 38, _, none⟩,
        ⟨25, [36, 38], [], some 39, _, none⟩,
        ⟨26, [39], [], some 6, _, none⟩]
      [⟨0, [2], [100], some 14, .any, none⟩,
          ⟨1, [14], [100], some 15, .any, none⟩,
          ⟨2, [15], [], some 16, .any, none⟩,
          ⟨3, [2], [100], some 17, .any, none⟩,
          ⟨4, [17], [100], some 18, .any, none⟩,
          ⟨5, [18], [], some 19, .any, none⟩,
          ⟨6, [16, 19], [], some 20, .any, none⟩,
          ⟨7, [2], [100], some 21, .any, none⟩,
          ⟨8, [21], [100], some 22, .any, none⟩,
          ⟨9, [22], [], some 23, .any, none⟩,
          ⟨10, [20, 23], [], some 24, .any, none⟩,
          ⟨11, [2], [100], some 25, .any, none⟩,
          ⟨12, [25], [100], some 26, .any, none⟩,
          ⟨13, [26], [], some 27, .any, none⟩,
          ⟨14, [24, 27], [], some 28, .any, none⟩,
          ⟨15, [2], [100], some 29, .any, none⟩,
          ⟨16, [29], [100], some 30, .any, none⟩,
          ⟨17, [30], [], some 31, .any, none⟩,
          ⟨18, [28, 31], [], some 32, .any, none⟩,
          ⟨19, [2], [100], some 33, .any, none⟩,
          ⟨20, [33], [100], some 34, .any, none⟩,
          ⟨21, [34], [], some 35, .any, none⟩,
          ⟨22, [32, 35], [], some 36, .any, none⟩,
          ⟨23, [2], [100], some 37, .any, none⟩,
          ⟨24, [37], [100], some 38, .any, none⟩,
          ⟨25, [36, 38], [], some 39, .any, none⟩,
          ⟨26, [39], [], some 6, .any, none⟩]
      mixed_ok rfl (by kernel_rfl) ⟨DS.ok_over fun s0 => OpAt.go rfl rfl (q_fa),
          DS.ok_over fun s0 => OpAt.go rfl rfl (q_load),
          DS.ok_over fun s0 => OpAt.go rfl rfl (q_call (0) (hc := (c_ciceroneref02_bit h.resp 15 (by decide)))),
          DS.ok_over fun s0 => OpAt.go rfl rfl (q_fa),
          DS.ok_over fun s0 => OpAt.go rfl rfl (q_load),
          DS.ok_over fun s0 => OpAt.go rfl rfl (q_shl 11),
          DS.ok_over fun s0 => OpAt.go rfl rfl (q_add),
          DS.ok_over fun s0 => OpAt.go rfl rfl (q_fa),
          DS.ok_over fun s0 => OpAt.go rfl rfl (q_load),
          DS.ok_over fun s0 => OpAt.go rfl rfl (q_call (0) (hc := (c_ciceroneref02_bit h.aa 10 (by decide)))),
          DS.ok_over fun s0 => OpAt.go rfl rfl (q_add),
          DS.ok_over fun s0 => OpAt.go rfl rfl (q_fa),
          DS.ok_over fun s0 => OpAt.go rfl rfl (q_load),
          DS.ok_over fun s0 => OpAt.go rfl rfl (q_call (0) (hc := (c_ciceroneref02_bit h.tc 9 (by decide)))),
          DS.ok_over fun s0 => OpAt.go rfl rfl (q_add),
          DS.ok_over fun s0 => OpAt.go rfl rfl (q_fa),
          DS.ok_over fun s0 => OpAt.go rfl rfl (q_load),
          DS.ok_over fun s0 => OpAt.go rfl rfl (q_call (0) (hc := (c_ciceroneref02_bit h.rd 8 (by decide)))),
          DS.ok_over fun s0 => OpAt.go rfl rfl (q_add),
          DS.ok_over fun s0 => OpAt.go rfl rfl (q_fa),
          DS.ok_over fun s0 => OpAt.go rfl rfl (q_load),
          DS.ok_over fun s0 => OpAt.go rfl rfl (q_call (0) (hc := (c_ciceroneref02_bit h.ra 7 (by decide)))),
          DS.ok_over fun s0 => OpAt.go rfl rfl (q_add),
          DS.ok_over fun s0 => OpAt.go rfl rfl (q_fa),
          DS.ok_over fun s0 => OpAt.go rfl rfl (q_load),
          DS.ok_over fun s0 => OpAt.go rfl rfl (q_add),
          DS.ok_over fun s0 => OpAt.go rfl rfl (q_assign), trivial⟩ ?_
    dsimp only [final, DS.upd, AS.seto]
    refine AWp.seq ?_
    refine AWp.region ?_
    rw [fl_ref h]
    refine AOps.cons rfl rfl (q_nilrow 8 1 bc) ?_
    refine AOps.nil ?_
    refine AWp.seq ?_
    refine AWp.seq ?_
    refine AWp.region ?_
    refine AOps.cons rfl rfl (q_fa) ?_
    refine AOps.cons rfl rfl (q_load) ?_
    refine AOps.cons rfl rfl (q_move) ?_
    refine AOps.cons rfl rfl (q_ixa) ?_
    refine AOps.cons rfl rfl (q_load) ?_
    refine AOps.cons rfl rfl (q_ixa) ?_
    refine AOps.cons rfl rfl (q_load) ?_
    refine AOps.cons rfl rfl (q_ixa) ?_
    refine AOps.cons rfl rfl (q_load) ?_
    refine AOps.cons rfl rfl (q_ixa) ?_
    refine AOps.cons rfl rfl (q_load) ?_
    refine AOps.cons rfl rfl (q_bs 611 ic [_, _, _, _, _, _] [(_, _), (_, _), (_, _), (_, _), (_, _), (_, _)]) ?_
    refine AOps.cons rfl rfl (q_len) ?_
    refine AOps.cons rfl rfl (q_move) ?_
    refine AOps.nil ?_
    refine AWp.block ?_
    refine AWp.loopR (α := Nat × List UInt8 × Nat) [7, 9, 53, 54, 55, 56, 57, 58, 59, 60, 61, 62, 63, 64, 65, 66] (fun x_ => [(53, i64 (x_.1)), (7, .sl 8 (x_.2.2) 0 (x_.2.1).length 1)]) (fun x_ => [(8, .row (cl bc (x_.2.1)) 1 (x_.2.2))]) (fun x_ => (x_.1) ≤ 6 ∧ (x_.2.1) = ((h.nums c0 c1 c2 c3).take (x_.1)).flatMap two) (fun x_ => 6 - (x_.1)) (0, [], 0) ?_ (Back.mk' (HasT.cons (HasT.cons HasT.nil)) (HasH.cons HasH.nil)) ?_
    · exact ⟨by decide, rfl⟩
    · rintro ⟨j, acc, v⟩ hI6
      change j ≤ 6 ∧ acc = ((h.nums c0 c1 c2 c3).take j).flatMap two at hI6
      obtain ⟨hj, hacc⟩ := hI6
      refine AWp.as (s' := AS.over _ [7, 9, 53, 54, 55, 56, 57, 58, 59, 60, 61, 62, 63, 64, 65, 66] [(53, i64 j), (7, .sl 8 v 0 acc.length 1)] [(8, .row (cl bc acc) 1 v)]) rfl ?_
      have hal : acc.length ≤ 1000 := by rw [hacc, two_len, List.length_take]; omega
      refine AWp.seq ?_
      refine AWp.region ?_
      refine AOps.dec rfl rfl (q_lss) (fun h6_0 => ?_) (fun h6_0 => ?_)
      · skip
        refine AOps.nil ?_
        refine AWp.seq ?_
        refine AWp.cond_t rfl ?_
        refine AWp.skip ?_
        refine AWp.seq ?_
        refine AWp.block ?_
        refine AWp.seq ?_
        refine AWp.region ?_
        have hj6 : j < 6 := by simp at h6_0; omega
        refine AOps.cons rfl rfl (q_ix) ?_
        refine AOps.cons rfl rfl (q_load) ?_
        refine AOps.cons rfl rfl (q_assign) ?_
        refine AOps.nil ?_
        refine AWp.region ?_
        have hnn : 0 ≤ ([h.id, h.flN 5, c0, c1, c2, c3] : List Int).getD (j : Int).toNat default ∧ ([h.id, h.flN 5, c0, c1, c2, c3] : List Int).getD (j : Int).toNat default ≤ 65535 := nums_pos h1_2 j
        refine AOps.cons rfl rfl (q_move) ?_
        refine AOps.cons rfl rfl (q_move) ?_
        refine AOps.cons rfl rfl (q_quo) ?_
        refine AOps.cons rfl rfl (q_conv_u8) ?_
        refine AOps.cons rfl rfl (q_move) ?_
        refine AOps.cons rfl rfl (q_rem) ?_
        refine AOps.cons rfl rfl (q_conv_u8) ?_
        refine AOps.cons rfl rfl (q_bs 907 bc [_, _] [(_, _), (_, _)]) ?_
        refine AOps.cons rfl rfl (q_app) ?_
        refine AOps.cons rfl rfl (q_assign) ?_
        refine AOps.nil ?_
        refine AWp.region ?_
        refine AOps.cons rfl rfl (q_add) ?_
        refine AOps.cons rfl rfl (q_move) ?_
        refine AOps.nil ?_
        refine ⟨(j + 1, _, _), ?_, Back.mk' (HasT.cons (HasT.cons HasT.nil)) (HasH.cons HasH.nil), ?_⟩
        · try dsimp only
          exact ⟨by omega, by rw [two_step (by show j < 6; omega), hacc]; simp only [byte_mod]; rfl⟩
        · try dsimp only
          first | omega | (simp; omega)
      · skip
        refine AOps.nil ?_
        refine AWp.seq ?_
        refine AWp.cond_f rfl ?_
        refine AWp.exit ?_
        refine AWp.seq ?_
        refine AWp.region ?_
        refine AOps.cons rfl rfl (q_move) ?_
        refine AOps.cons rfl rfl (q_assign) ?_
        refine AOps.cons rfl rfl (q_assign) ?_
        refine AOps.nil ?_
        refine AWp.ret ?_
        show Fin te Try.f17 _ _
        obtain rfl : j = 6 := by simp at h6_0; omega
        obtain rfl : acc = h.bytes c0 c1 c2 c3 := hacc
        rw [hB_yes h1_2, hE_yes h1_2]
        refine q_retH (0) [8] [_, _] [.sl 8 0 0 _ 1, _] [(8, .row (cl bc _) 1 0)] ?_
        rfl
  · skip
    refine AOps.cons rfl rfl (q_not) ?_
    refine AOps.nil ?_
    refine AWp.cond_t rfl ?_
    refine AWp.seq ?_
    refine AWp.region ?_
    refine AOps.cons rfl rfl (q_nilrow 8 1 bc) ?_
    refine AOps.cons rfl rfl (q_assign) ?_
    refine AOps.nil ?_
    refine AWp.ret ?_
    show Fin te Try.f17 _ _
    rw [hB_no h1_2, hE_no h1_2]
    refine q_retH (0) [8] [_, _] [.sl 8 0 0 _ 1, _] [(8, .row (cl bc _) 1 0)] ?_
    rfl


theorem c_ref02_Encode (h : Hd) (c0 c1 c2 c3 : Int) : AC Try.prog 17 [.agg h.cells, .agg [i64 c0, i64 c1, i64 c2, i64 c3]] emp (Ret (.tup [.fz 0 (hB h c0 c1 c2 c3).length (cl bc (hB h c0 c1 c2 c3)), i64 (hE h c0 c1 c2 c3)])) :=
  (co_ref02_Encode h c0 c1 c2 c3).fz 0 (fv_tup ⟨fv_row0 rfl .row (fun _ => rfl) (by decide) (fun _ => rfl), fv_ok rfl, trivial⟩)


/-- Bytes two by two. -/
def num (b : List UInt8) (j : Nat) : Int := ((b.getD (2 * j) default).toNat * 256 + (b.getD (2 * j + 1) default).toNat : Nat)
theorem num_lt (b : List UInt8) (j : Nat) : 0 ≤ num b j ∧ num b j ≤ 65535 := by
  unfold num
  have h0 := (b.getD (2 * j) default).toNat_lt
  have h1 := (b.getD (2 * j + 1) default).toNat_lt
  omega
def bitAt (f : Int) (k : Nat) : Bool := decide (f / 2 ^ k % 2 = 1)
def dE (b : List UInt8) : Int := if b.length < 12 then 20 else if num b 1 / 16 % 8 = 0 then 0 else 21
def dH (b : List UInt8) : Hd := if dE b = 0 then ⟨num b 0, bitAt (num b 1) 15, num b 1 / 2048 % 16, bitAt (num b 1) 10, bitAt (num b 1) 9, bitAt (num b 1) 8, bitAt (num b 1) 7, num b 1 % 16⟩ else ⟨0, false, 0, false, false, false, false, 0⟩
def dC (b : List UInt8) (j : Nat) : Int := if dE b = 0 then num b j else 0
theorem dE_short {b : List UInt8} (h : b.length < 12) : dE b = 20 := if_pos h
theorem dE_bits {b : List UInt8} (h : ¬ b.length < 12) (k : ¬ num b 1 / 16 % 8 = 0) : dE b = 21 := by rw [dE, if_neg h, if_neg k]
theorem dE_ok {b : List UInt8} (h : ¬ b.length < 12) (k : num b 1 / 16 % 8 = 0) : dE b = 0 := by rw [dE, if_neg h, if_pos k]
theorem and_mask (x m k : Nat) : x &&& (m * 2 ^ k) = (x / 2 ^ k &&& m) * 2 ^ k := by
  apply Nat.eq_of_testBit_eq
  intro i
  simp only [Nat.testBit_and, Nat.testBit_mul_two_pow, Nat.testBit_div_two_pow]
  by_cases h : k ≤ i
  · simp only [h, decide_true, Bool.true_and]
    rw [show i - k + k = i by omega]
  · simp [h]
theorem and_bit (f : Int) (h : 0 ≤ f) (k : Nat) {m : Int} (hm : m = 2 ^ k) : ((f.toNat &&& m.toNat : Nat) : Int) = f / 2 ^ k % 2 * 2 ^ k := by
  subst hm
  have e : ((2 : Int) ^ k).toNat = 1 * 2 ^ k := by
    have : (2 : Int) ^ k = ((2 ^ k : Nat) : Int) := by simp
    rw [this, Int.toNat_natCast, Nat.one_mul]
  rw [e, and_mask, Nat.and_one_is_mod]
  obtain ⟨f, rfl⟩ := Int.eq_ofNat_of_zero_le h
  simp
theorem dec_bit (f : Int) (h : 0 ≤ f) (k : Nat) {m : Int} (hm : m = 2 ^ k) : decide (¬ ((f.toNat &&& m.toNat : Nat) : Int) = 0) = bitAt f k := by
  rw [and_bit f h k hm, bitAt]
  have hp : (0 : Int) < 2 ^ k := Int.pow_pos (by decide)
  generalize f / 2 ^ k = y
  rcases (show y % 2 = 0 ∨ y % 2 = 1 by omega) with hz | hz
  · simp [hz]
  · have hne : ¬ (1 : Int) * 2 ^ k = 0 := by omega
    simp [hz]
    omega
theorem and_15 (f : Int) (h : 0 ≤ f) : ((f.toNat &&& (15 : Int).toNat : Nat) : Int) = f % 16 := by
  obtain ⟨f, rfl⟩ := Int.eq_ofNat_of_zero_le h
  have := Nat.and_two_pow_sub_one_eq_mod f 4
  simp at this ⊢
  omega
theorem and_7 (f : Int) (h : 0 ≤ f) : ((f.toNat &&& (7 : Int).toNat : Nat) : Int) = f % 8 := by
  obtain ⟨f, rfl⟩ := Int.eq_ofNat_of_zero_le h
  have := Nat.and_two_pow_sub_one_eq_mod f 3
  simp at this ⊢
  omega
theorem and_1 (f : Int) (h : 0 ≤ f) : ((f.toNat &&& (1 : Int).toNat : Nat) : Int) = f % 2 := by
  obtain ⟨f, rfl⟩ := Int.eq_ofNat_of_zero_le h
  have := Nat.and_two_pow_sub_one_eq_mod f 1
  simp at this ⊢
theorem and_112 (f : Int) (h : 0 ≤ f) : ((f.toNat &&& (112 : Int).toNat : Nat) : Int) = f / 16 % 8 * 16 := by
  obtain ⟨f, rfl⟩ := Int.eq_ofNat_of_zero_le h
  have e := and_mask f 7 4
  have := Nat.and_two_pow_sub_one_eq_mod (f / 16) 3
  simp at e this ⊢
  rw [e, this]
  omega


theorem list6 {ns : List Int} {b : List UInt8} (h : ns.length = 6) (k : ∀ j, j < 6 → ns.getD j default = num b j) : ns = [num b 0, num b 1, num b 2, num b 3, num b 4, num b 5] := by
  match ns, h, k with
  | [a0, a1, a2, a3, a4, a5], _, k =>
    have h0 := k 0 (by omega)
    have h1 := k 1 (by omega)
    have h2 := k 2 (by omega)
    have h3 := k 3 (by omega)
    have h4 := k 4 (by omega)
    have h5 := k 5 (by omega)
    simp at h0 h1 h2 h3 h4 h5
    rw [h0, h1, h2, h3, h4, h5]
theorem ns_step {ns : List Int} {b : List UInt8} {i : Nat} {v : Int} (hl : ns.length = 6) (hi : i < 6) (hI : ∀ k, k < i → ns.getD k default = num b k) (hv : v = num b i) : ∀ k, k < i + 1 → (ns.set i v).getD k default = num b k := by
  intro k hk
  rcases Nat.lt_or_ge k i with h | h
  · rw [← hI k h]
    simp [List.getD_eq_getElem?_getD, List.getElem?_set, show i ≠ k by omega]
  · obtain rfl : k = i := by omega
    simp [List.getD_eq_getElem?_getD, hl, hi, hv]
theorem dH_prog (n0 f : Int) (h : 0 ≤ f) : (⟨n0, bitAt f 15, f / 2048 % 16, bitAt f 10, bitAt f 9, bitAt f 8, bitAt f 7, f % 16⟩ : Hd) =
    ⟨n0, decide (¬ ((f.toNat &&& (32768 : Int).toNat : Nat) : Int) = 0), (((f / 2 ^ 11).toNat &&& (15 : Int).toNat : Nat) : Int), decide (¬ ((f.toNat &&& (1024 : Int).toNat : Nat) : Int) = 0), decide (¬ ((f.toNat &&& (512 : Int).toNat : Nat) : Int) = 0), decide (¬ ((f.toNat &&& (256 : Int).toNat : Nat) : Int) = 0), decide (¬ ((f.toNat &&& (128 : Int).toNat : Nat) : Int) = 0), ((f.toNat &&& (15 : Int).toNat : Nat) : Int)⟩ := by
  rw [dec_bit f h 15 (by decide), dec_bit f h 10 (by decide), dec_bit f h 9 (by decide), dec_bit f h 8 (by decide), dec_bit f h 7 (by decide), and_15 f h, and_15 (f / 2 ^ 11) (by omega)]
  simp
theorem bit_sh (f : Int) (h : 0 ≤ f) (k : Nat) : decide ((((f / 2 ^ k).toNat &&& (1 : Int).toNat : Nat) : Int) = 1) = bitAt f k := by
  rw [and_1 (f / 2 ^ k) (Int.ediv_nonneg h (Int.le_of_lt (Int.pow_pos (by decide)))), bitAt]
theorem dH_ref (n0 f : Int) (h : 0 ≤ f) : (⟨n0, bitAt f 15, f / 2048 % 16, bitAt f 10, bitAt f 9, bitAt f 8, bitAt f 7, f % 16⟩ : Hd) =
    ⟨n0, decide ((((f / 2 ^ 15).toNat &&& (1 : Int).toNat : Nat) : Int) = 1), (((f / 2 ^ 11).toNat &&& (15 : Int).toNat : Nat) : Int), decide ((((f / 2 ^ 10).toNat &&& (1 : Int).toNat : Nat) : Int) = 1), decide ((((f / 2 ^ 9).toNat &&& (1 : Int).toNat : Nat) : Int) = 1), decide ((((f / 2 ^ 8).toNat &&& (1 : Int).toNat : Nat) : Int) = 1), decide ((((f / 2 ^ 7).toNat &&& (1 : Int).toNat : Nat) : Int) = 1), ((f.toNat &&& (15 : Int).toNat : Nat) : Int)⟩ := by
  rw [bit_sh f h 15, bit_sh f h 10, bit_sh f h 9, bit_sh f h 8, bit_sh f h 7, and_15 f h, and_15 (f / 2 ^ 11) (by omega)]
  simp
theorem dH_ok {b : List UInt8} (h : dE b = 0) : dH b = ⟨num b 0, bitAt (num b 1) 15, num b 1 / 2048 % 16, bitAt (num b 1) 10, bitAt (num b 1) 9, bitAt (num b 1) 8, bitAt (num b 1) 7, num b 1 % 16⟩ := if_pos h
theorem dH_no {b : List UInt8} (h : ¬ dE b = 0) : dH b = ⟨0, false, 0, false, false, false, false, 0⟩ := if_neg h
theorem dC_ok {b : List UInt8} (h : dE b = 0) (j : Nat) : dC b j = num b j := if_pos h
theorem dC_no {b : List UInt8} (h : ¬ dE b = 0) (j : Nat) : dC b j = 0 := if_neg h

set_option maxRecDepth 20000 in
theorem c_header_Decode (b : List UInt8) (lv : Nat) (hl : b.length ≤ 140737488355328) : AC Try.prog 26 [.fz lv b.length (cl bc b)] emp (Ret (.tup [.agg (dH b).cells, .agg [i64 (dC b 2), i64 (dC b 3), i64 (dC b 4), i64 (dC b 5)], i64 (dE b)])) := by
  refine AC.intro te_ok (fn := Try.f26) ⟨Try.func26, rfl, rfl⟩ (Nat.le_of_ble_eq_true rfl) ?_
  refine AWp.seq ?_
  refine AWp.region ?_
  refine AOps.cons rfl rfl (q_alloc 100) ?_
  refine AOps.cons rfl rfl (q_alloc 101) ?_
  refine AOps.cons rfl rfl (q_assign) ?_
  refine AOps.nil ?_
  refine AWp.seq ?_
  refine AWp.seq ?_
  refine AWp.region ?_
  refine AOps.cons rfl rfl (q_move) ?_
  refine AOps.cons rfl rfl (q_len) ?_
  refine AOps.dec rfl rfl (q_lss) (fun h1_2 => ?_) (fun h1_2 => ?_)
  · skip
    refine AOps.nil ?_
    refine AWp.cond_t rfl ?_
    refine AWp.seq ?_
    refine AWp.region ?_
    refine AOps.cons rfl rfl (q_build []) ?_
    refine AOps.cons rfl rfl (q_buildA ic [0, 0, 0, 0] []) ?_
    refine AOps.cons rfl rfl (q_store) ?_
    refine AOps.cons rfl rfl (q_store) ?_
    refine AOps.cons rfl rfl (q_assign) ?_
    refine AOps.nil ?_
    refine AWp.ret ?_
    show Fin te Try.f26 _ _
    have e := dE_short (b := b) (by omega)
    rw [dH_no (by omega), dC_no (by omega), dC_no (by omega), dC_no (by omega), dC_no (by omega), e]
    refine q_ret (0) [_, _, _] [_, _, _] ?_
    rfl
  · skip
    refine AOps.nil ?_
    refine AWp.cond_f rfl ?_
    refine AWp.skip ?_
    refine AWp.seq ?_
    refine AWp.region ?_
    refine AOps.cons rfl rfl (q_alloc 400) ?_
    refine AOps.nil ?_
    refine AWp.seq ?_
    refine AWp.seq ?_
    refine AWp.region ?_
    refine AOps.cons rfl rfl (q_move) ?_
    refine AOps.nil ?_
    refine AWp.block ?_
    refine AWp.loopR (α := Nat × List Int) [6, 14, 15, 16, 17, 18, 19, 20, 21, 22, 23, 24, 25, 26, 27, 28, 29, 30, 31, 32, 33, 34] (fun x_ => [(14, i64 (x_.1))]) (fun x_ => [(400, .box (cl ic (x_.2)))]) (fun x_ => (x_.1) ≤ 6 ∧ (x_.2).length = 6 ∧ ∀ k, k < (x_.1) → (x_.2).getD k default = num b k) (fun x_ => 6 - (x_.1)) (0, [0, 0, 0, 0, 0, 0]) ?_ (Back.mk' (HasT.cons HasT.nil) (HasH.cons HasH.nil)) ?_
    · exact ⟨by omega, rfl, fun k hk => by omega⟩
    · rintro ⟨i, ns⟩ hI5
      change i ≤ 6 ∧ ns.length = 6 ∧ ∀ k, k < i → ns.getD k default = num b k at hI5
      obtain ⟨hi, hns, hI⟩ := hI5
      refine AWp.as (s' := AS.over _ [6, 14, 15, 16, 17, 18, 19, 20, 21, 22, 23, 24, 25, 26, 27, 28, 29, 30, 31, 32, 33, 34] [(14, i64 i)] [(400, .box (cl ic ns))]) rfl ?_
      refine AWp.seq ?_
      refine AWp.region ?_
      refine AOps.dec rfl rfl (q_lss) (fun h5_0 => ?_) (fun h5_0 => ?_)
      · skip
        refine AOps.nil ?_
        refine AWp.seq ?_
        refine AWp.cond_t rfl ?_
        refine AWp.skip ?_
        refine AWp.seq ?_
        refine AWp.block ?_
        refine AWp.seq ?_
        refine AWp.region ?_
        have h0 := (b.getD (2 * (i : Int)).toNat default).toNat_lt
        have h1 := (b.getD (2 * (i : Int) + 1).toNat default).toNat_lt
        refine AOps.cons rfl rfl (q_move) ?_
        refine AOps.cons rfl rfl (q_assign) ?_
        refine AOps.nil ?_
        refine AWp.draws [⟨0, [6], [], some 17, _, none⟩,
            ⟨1, [0], [], some 18, _, none⟩,
            ⟨2, [6], [], some 19, _, none⟩,
            ⟨3, [19], [], some 20, _, none⟩,
            ⟨4, [18, 20], [], some 21, _, none⟩,
            ⟨5, [21], [], some 22, _, none⟩,
            ⟨6, [22], [], some 23, _, none⟩,
            ⟨7, [23], [], some 24, _, none⟩,
            ⟨8, [0], [], some 25, _, none⟩,
            ⟨9, [6], [], some 26, _, none⟩,
            ⟨10, [26], [], some 27, _, none⟩,
            ⟨11, [27], [], some 28, _, none⟩,
            ⟨12, [25, 28], [], some 29, _, none⟩,
            ⟨13, [29], [], some 30, _, none⟩,
            ⟨14, [30], [], some 31, _, none⟩,
            ⟨15, [24, 31], [], some 32, _, none⟩,
            ⟨16, [5, 17], [400], some 33, _, none⟩,
            ⟨17, [32, 33], [400], none, _, some (400, _)⟩]
          [⟨0, [6], [], some 17, .any, none⟩,
              ⟨1, [0], [], some 18, .any, none⟩,
              ⟨2, [6], [], some 19, .any, none⟩,
              ⟨3, [19], [], some 20, .any, none⟩,
              ⟨4, [18, 20], [], some 21, .any, none⟩,
              ⟨5, [21], [], some 22, .any, none⟩,
              ⟨6, [22], [], some 23, .any, none⟩,
              ⟨7, [23], [], some 24, .any, none⟩,
              ⟨8, [0], [], some 25, .any, none⟩,
              ⟨9, [6], [], some 26, .any, none⟩,
              ⟨10, [26], [], some 27, .any, none⟩,
              ⟨11, [27], [], some 28, .any, none⟩,
              ⟨12, [25, 28], [], some 29, .any, none⟩,
              ⟨13, [29], [], some 30, .any, none⟩,
              ⟨14, [30], [], some 31, .any, none⟩,
              ⟨15, [24, 31], [], some 32, .any, none⟩,
              ⟨16, [5, 17], [400], some 33, .any, none⟩,
              ⟨17, [32, 33], [400], none, .any, some (400, .box [])⟩]
          mixed_ok rfl (by kernel_rfl) ⟨DS.ok_over fun s0 => OpAt.go rfl rfl (q_move),
              DS.ok_over fun s0 => OpAt.go rfl rfl (q_move),
              DS.ok_over fun s0 => OpAt.go rfl rfl (q_move),
              DS.ok_over fun s0 => OpAt.go rfl rfl (q_mul),
              DS.ok_over fun s0 => OpAt.go rfl rfl (q_ix),
              DS.ok_over fun s0 => OpAt.go rfl rfl (q_load),
              DS.ok_over fun s0 => OpAt.go rfl rfl (q_conv_8i),
              DS.ok_over fun s0 => OpAt.go rfl rfl (q_shl 8),
              DS.ok_over fun s0 => OpAt.go rfl rfl (q_move),
              DS.ok_over fun s0 => OpAt.go rfl rfl (q_move),
              DS.ok_over fun s0 => OpAt.go rfl rfl (q_mul),
              DS.ok_over fun s0 => OpAt.go rfl rfl (q_add),
              DS.ok_over fun s0 => OpAt.go rfl rfl (q_ix),
              DS.ok_over fun s0 => OpAt.go rfl rfl (q_load),
              DS.ok_over fun s0 => OpAt.go rfl rfl (q_conv_8i),
              DS.ok_over fun s0 => OpAt.go rfl rfl (q_or_bytes),
              DS.ok_over fun s0 => OpAt.go rfl rfl (q_ixa),
              DS.ok_over fun s0 => OpAt.go rfl rfl (q_store), trivial⟩ ?_
        dsimp only [final, DS.upd, AS.seto]
        refine AWp.region ?_
        refine AOps.cons rfl rfl (q_add) ?_
        refine AOps.cons rfl rfl (q_move) ?_
        refine AOps.nil ?_
        refine ⟨(i + 1, _), ?_, Back.mk' (HasT.cons HasT.nil) (HasH.cons HasH.nil), ?_⟩
        · try dsimp only
          exact ⟨by omega, by simp [hns], ns_step hns (by omega) hI (by simp only [num]; rfl)⟩
        · try dsimp only
          first | omega | (simp; omega)
      · skip
        refine AOps.nil ?_
        refine AWp.seq ?_
        refine AWp.cond_f rfl ?_
        refine AWp.exit ?_
        refine AWp.seq ?_
        refine AWp.region ?_
        obtain rfl : i = 6 := by omega
        obtain rfl := list6 hns hI
        have hf := num_lt b 1
        refine AOps.cons rfl rfl (q_ixa) ?_
        refine AOps.cons rfl rfl (q_load) ?_
        refine AOps.cons rfl rfl (q_assign) ?_
        refine AOps.nil ?_
        refine AWp.seq ?_
        refine AWp.seq ?_
        refine AWp.region ?_
        refine AOps.cons rfl rfl (q_move) ?_
        refine AOps.cons rfl rfl (q_and) ?_
        refine AOps.dec rfl rfl (q_neq) (fun h10_2 => ?_) (fun h10_2 => ?_)
        · skip
          refine AOps.nil ?_
          refine AWp.cond_t rfl ?_
          refine AWp.seq ?_
          refine AWp.region ?_
          refine AOps.cons rfl rfl (q_build []) ?_
          refine AOps.cons rfl rfl (q_buildA ic [0, 0, 0, 0] []) ?_
          refine AOps.cons rfl rfl (q_store) ?_
          refine AOps.cons rfl rfl (q_store) ?_
          refine AOps.cons rfl rfl (q_assign) ?_
          refine AOps.nil ?_
          refine AWp.ret ?_
          show Fin te Try.f26 _ _
          have e := dE_bits (b := b) (by omega) (by rw [and_112 _ hf.1] at h10_2; omega)
          rw [dH_no (by omega), dC_no (by omega), dC_no (by omega), dC_no (by omega), dC_no (by omega), e]
          refine q_ret (0) [_, _, _] [_, _, _] ?_
          rfl
        · skip
          refine AOps.nil ?_
          refine AWp.cond_f rfl ?_
          refine AWp.skip ?_
          refine AWp.seq ?_
          refine AWp.region ?_
          refine AOps.cons rfl rfl (q_ixa) ?_
          refine AOps.cons rfl rfl (q_load) ?_
          refine AOps.cons rfl rfl (q_move) ?_
          refine AOps.cons rfl rfl (q_and) ?_
          refine AOps.cons rfl rfl (q_neq) ?_
          refine AOps.cons rfl rfl (q_move) ?_
          refine AOps.cons rfl rfl (q_shr 11) ?_
          refine AOps.cons rfl rfl (q_and) ?_
          refine AOps.cons rfl rfl (q_move) ?_
          refine AOps.cons rfl rfl (q_and) ?_
          refine AOps.cons rfl rfl (q_neq) ?_
          refine AOps.cons rfl rfl (q_move) ?_
          refine AOps.cons rfl rfl (q_and) ?_
          refine AOps.cons rfl rfl (q_neq) ?_
          refine AOps.cons rfl rfl (q_move) ?_
          refine AOps.cons rfl rfl (q_and) ?_
          refine AOps.cons rfl rfl (q_neq) ?_
          refine AOps.cons rfl rfl (q_move) ?_
          refine AOps.cons rfl rfl (q_and) ?_
          refine AOps.cons rfl rfl (q_neq) ?_
          refine AOps.cons rfl rfl (q_move) ?_
          refine AOps.cons rfl rfl (q_and) ?_
          refine AOps.cons rfl rfl (q_build [(_, _), (_, _), (_, _), (_, _), (_, _), (_, _), (_, _), (_, _)]) ?_
          refine AOps.cons rfl rfl (q_alloc 1323) ?_
          refine AOps.cons rfl rfl (q_store) ?_
          refine AOps.nil ?_
          refine AWp.seq ?_
          refine AWp.draws [⟨0, [8], [1323], some 65, _, none⟩,
              ⟨1, [5], [400], some 66, _, none⟩,
              ⟨2, [66], [400], some 67, _, none⟩,
              ⟨3, [67], [400], some 68, _, none⟩,
              ⟨4, [2, 65], [100], none, _, some (100, _)⟩,
              ⟨5, [3, 68], [101], none, _, some (101, _)⟩,
              ⟨6, [], [], some 4, _, none⟩]
            [⟨0, [8], [1323], some 65, .any, none⟩,
                ⟨1, [5], [400], some 66, .any, none⟩,
                ⟨2, [66], [400], some 67, .any, none⟩,
                ⟨3, [67], [400], some 68, .any, none⟩,
                ⟨4, [2, 65], [100], none, .any, some (100, .box [])⟩,
                ⟨5, [3, 68], [101], none, .any, some (101, .box [])⟩,
                ⟨6, [], [], some 4, .any, none⟩]
            mixed_ok rfl (by kernel_rfl) ⟨DS.ok_over fun s0 => OpAt.go rfl rfl (q_load),
                DS.ok_over fun s0 => OpAt.go rfl rfl (q_sla),
                DS.ok_over fun s0 => OpAt.go rfl rfl (q_arrPtr),
                DS.ok_over fun s0 => OpAt.go rfl rfl (q_load),
                DS.ok_over fun s0 => OpAt.go rfl rfl (q_store),
                DS.ok_over fun s0 => OpAt.go rfl rfl (q_store),
                DS.ok_over fun s0 => OpAt.go rfl rfl (q_assign), trivial⟩ ?_
          dsimp only [final, DS.upd, AS.seto]
          refine AWp.ret ?_
          show Fin te Try.f26 _ _
          have e := dE_ok (b := b) (by omega) (by rw [and_112 _ hf.1] at h10_2; omega)
          rw [dH_ok e, dC_ok e, dC_ok e, dC_ok e, dC_ok e, e]
          refine q_ret (0) [_, _, _] [_, _, _] ?_
          rw [dH_prog _ _ hf.1]; rfl

set_option maxRecDepth 20000 in
theorem c_ciceroneref02_Decode (b : List UInt8) (lv : Nat) (hl : b.length ≤ 140737488355328) : AC Try.prog 27 [.fz lv b.length (cl bc b)] emp (Ret (.tup [.agg (dH b).cells, .agg [i64 (dC b 2), i64 (dC b 3), i64 (dC b 4), i64 (dC b 5)], i64 (dE b)])) := by
  refine AC.intro te_ok (fn := Try.f27) ⟨Try.func27, rfl, rfl⟩ (Nat.le_of_ble_eq_true rfl) ?_
  refine AWp.seq ?_
  refine AWp.region ?_
  refine AOps.cons rfl rfl (q_alloc 100) ?_
  refine AOps.cons rfl rfl (q_alloc 101) ?_
  refine AOps.cons rfl rfl (q_assign) ?_
  refine AOps.nil ?_
  refine AWp.seq ?_
  refine AWp.seq ?_
  refine AWp.region ?_
  refine AOps.cons rfl rfl (q_move) ?_
  refine AOps.cons rfl rfl (q_len) ?_
  refine AOps.dec rfl rfl (q_lss) (fun h1_2 => ?_) (fun h1_2 => ?_)
  · skip
    refine AOps.nil ?_
    refine AWp.cond_t rfl ?_
    refine AWp.seq ?_
    refine AWp.region ?_
    refine AOps.cons rfl rfl (q_build []) ?_
    refine AOps.cons rfl rfl (q_buildA ic [0, 0, 0, 0] []) ?_
    refine AOps.cons rfl rfl (q_store) ?_
    refine AOps.cons rfl rfl (q_store) ?_
    refine AOps.cons rfl rfl (q_assign) ?_
    refine AOps.nil ?_
    refine AWp.ret ?_
    show Fin te Try.f27 _ _
    have e := dE_short (b := b) (by omega)
    rw [dH_no (by omega), dC_no (by omega), dC_no (by omega), dC_no (by omega), dC_no (by omega), e]
    refine q_ret (0) [_, _, _] [_, _, _] ?_
    rfl
  · skip
    refine AOps.nil ?_
    refine AWp.cond_f rfl ?_
    refine AWp.skip ?_
    refine AWp.seq ?_
    refine AWp.region ?_
    refine AOps.cons rfl rfl (q_alloc 400) ?_
    refine AOps.nil ?_
    refine AWp.seq ?_
    refine AWp.seq ?_
    refine AWp.region ?_
    refine AOps.cons rfl rfl (q_move) ?_
    refine AOps.nil ?_
    refine AWp.block ?_
    refine AWp.loopR (α := Nat × List Int) [6, 14, 15, 16, 17, 18, 19, 20, 21, 22, 23, 24, 25, 26, 27, 28, 29, 30, 31, 32, 33, 34] (fun x_ => [(14, i64 (x_.1))]) (fun x_ => [(400, .box (cl ic (x_.2)))]) (fun x_ => (x_.1) ≤ 6 ∧ (x_.2).length = 6 ∧ ∀ k, k < (x_.1) → (x_.2).getD k default = num b k) (fun x_ => 6 - (x_.1)) (0, [0, 0, 0, 0, 0, 0]) ?_ (Back.mk' (HasT.cons HasT.nil) (HasH.cons HasH.nil)) ?_
    · exact ⟨by omega, rfl, fun k hk => by omega⟩
    · rintro ⟨i, ns⟩ hI5
      change i ≤ 6 ∧ ns.length = 6 ∧ ∀ k, k < i → ns.getD k default = num b k at hI5
      obtain ⟨hi, hns, hI⟩ := hI5
      refine AWp.as (s' := AS.over _ [6, 14, 15, 16, 17, 18, 19, 20, 21, 22, 23, 24, 25, 26, 27, 28, 29, 30, 31, 32, 33, 34] [(14, i64 i)] [(400, .box (cl ic ns))]) rfl ?_
      refine AWp.seq ?_
      refine AWp.region ?_
      refine AOps.dec rfl rfl (q_lss) (fun h5_0 => ?_) (fun h5_0 => ?_)
      · skip
        refine AOps.nil ?_
        refine AWp.seq ?_
        refine AWp.cond_t rfl ?_
        refine AWp.skip ?_
        refine AWp.seq ?_
        refine AWp.block ?_
        refine AWp.seq ?_
        refine AWp.region ?_
        have h0 := (b.getD (2 * (i : Int)).toNat default).toNat_lt
        have h1 := (b.getD (2 * (i : Int) + 1).toNat default).toNat_lt
        refine AOps.cons rfl rfl (q_move) ?_
        refine AOps.cons rfl rfl (q_assign) ?_
        refine AOps.nil ?_
        refine AWp.draws [⟨0, [6], [], some 17, _, none⟩,
            ⟨1, [0], [], some 18, _, none⟩,
            ⟨2, [6], [], some 19, _, none⟩,
            ⟨3, [19], [], some 20, _, none⟩,
            ⟨4, [18, 20], [], some 21, _, none⟩,
            ⟨5, [21], [], some 22, _, none⟩,
            ⟨6, [22], [], some 23, _, none⟩,
            ⟨7, [23], [], some 24, _, none⟩,
            ⟨8, [0], [], some 25, _, none⟩,
            ⟨9, [6], [], some 26, _, none⟩,
            ⟨10, [26], [], some 27, _, none⟩,
            ⟨11, [27], [], some 28, _, none⟩,
            ⟨12, [25, 28], [], some 29, _, none⟩,
            ⟨13, [29], [], some 30, _, none⟩,
            ⟨14, [30], [], some 31, _, none⟩,
            ⟨15, [24, 31], [], some 32, _, none⟩,
            ⟨16, [5, 17], [400], some 33, _, none⟩,
            ⟨17, [32, 33], [400], none, _, some (400, _)⟩]
          [⟨0, [6], [], some 17, .any, none⟩,
              ⟨1, [0], [], some 18, .any, none⟩,
              ⟨2, [6], [], some 19, .any, none⟩,
              ⟨3, [19], [], some 20, .any, none⟩,
              ⟨4, [18, 20], [], some 21, .any, none⟩,
              ⟨5, [21], [], some 22, .any, none⟩,
              ⟨6, [22], [], some 23, .any, none⟩,
              ⟨7, [23], [], some 24, .any, none⟩,
              ⟨8, [0], [], some 25, .any, none⟩,
              ⟨9, [6], [], some 26, .any, none⟩,
              ⟨10, [26], [], some 27, .any, none⟩,
              ⟨11, [27], [], some 28, .any, none⟩,
              ⟨12, [25, 28], [], some 29, .any, none⟩,
              ⟨13, [29], [], some 30, .any, none⟩,
              ⟨14, [30], [], some 31, .any, none⟩,
              ⟨15, [24, 31], [], some 32, .any, none⟩,
              ⟨16, [5, 17], [400], some 33, .any, none⟩,
              ⟨17, [32, 33], [400], none, .any, some (400, .box [])⟩]
          mixed_ok rfl (by kernel_rfl) ⟨DS.ok_over fun s0 => OpAt.go rfl rfl (q_move),
              DS.ok_over fun s0 => OpAt.go rfl rfl (q_move),
              DS.ok_over fun s0 => OpAt.go rfl rfl (q_move),
              DS.ok_over fun s0 => OpAt.go rfl rfl (q_mul),
              DS.ok_over fun s0 => OpAt.go rfl rfl (q_ix),
              DS.ok_over fun s0 => OpAt.go rfl rfl (q_load),
              DS.ok_over fun s0 => OpAt.go rfl rfl (q_conv_8i),
              DS.ok_over fun s0 => OpAt.go rfl rfl (q_mul),
              DS.ok_over fun s0 => OpAt.go rfl rfl (q_move),
              DS.ok_over fun s0 => OpAt.go rfl rfl (q_move),
              DS.ok_over fun s0 => OpAt.go rfl rfl (q_mul),
              DS.ok_over fun s0 => OpAt.go rfl rfl (q_add),
              DS.ok_over fun s0 => OpAt.go rfl rfl (q_ix),
              DS.ok_over fun s0 => OpAt.go rfl rfl (q_load),
              DS.ok_over fun s0 => OpAt.go rfl rfl (q_conv_8i),
              DS.ok_over fun s0 => OpAt.go rfl rfl (q_add),
              DS.ok_over fun s0 => OpAt.go rfl rfl (q_ixa),
              DS.ok_over fun s0 => OpAt.go rfl rfl (q_store), trivial⟩ ?_
        dsimp only [final, DS.upd, AS.seto]
        refine AWp.region ?_
        refine AOps.cons rfl rfl (q_add) ?_
        refine AOps.cons rfl rfl (q_move) ?_
        refine AOps.nil ?_
        refine ⟨(i + 1, _), ?_, Back.mk' (HasT.cons HasT.nil) (HasH.cons HasH.nil), ?_⟩
        · try dsimp only
          exact ⟨by omega, by simp [hns], ns_step hns (by omega) hI (by simp only [num]; norm_cast)⟩
        · try dsimp only
          first | omega | (simp; omega)
      · skip
        refine AOps.nil ?_
        refine AWp.seq ?_
        refine AWp.cond_f rfl ?_
        refine AWp.exit ?_
        refine AWp.seq ?_
        refine AWp.region ?_
        obtain rfl : i = 6 := by omega
        obtain rfl := list6 hns hI
        have hf := num_lt b 1
        refine AOps.cons rfl rfl (q_ixa) ?_
        refine AOps.cons rfl rfl (q_load) ?_
        refine AOps.cons rfl rfl (q_assign) ?_
        refine AOps.nil ?_
        refine AWp.seq ?_
        refine AWp.seq ?_
        refine AWp.region ?_
        refine AOps.cons rfl rfl (q_move) ?_
        refine AOps.cons rfl rfl (q_shr 4) ?_
        refine AOps.cons rfl rfl (q_and) ?_
        refine AOps.dec rfl rfl (q_neq) (fun h10_3 => ?_) (fun h10_3 => ?_)
        · skip
          refine AOps.nil ?_
          refine AWp.cond_t rfl ?_
          refine AWp.seq ?_
          refine AWp.region ?_
          refine AOps.cons rfl rfl (q_build []) ?_
          refine AOps.cons rfl rfl (q_buildA ic [0, 0, 0, 0] []) ?_
          refine AOps.cons rfl rfl (q_store) ?_
          refine AOps.cons rfl rfl (q_store) ?_
          refine AOps.cons rfl rfl (q_assign) ?_
          refine AOps.nil ?_
          refine AWp.ret ?_
          show Fin te Try.f27 _ _
          have e := dE_bits (b := b) (by omega) (by rw [and_7 _ (by omega)] at h10_3; omega)
          rw [dH_no (by omega), dC_no (by omega), dC_no (by omega), dC_no (by omega), dC_no (by omega), e]
          refine q_ret (0) [_, _, _] [_, _, _] ?_
          rfl
        · skip
          refine AOps.nil ?_
          refine AWp.cond_f rfl ?_
          refine AWp.skip ?_
          refine AWp.seq ?_
          refine AWp.region ?_
          refine AOps.cons rfl rfl (q_ixa) ?_
          refine AOps.cons rfl rfl (q_load) ?_
          refine AOps.cons rfl rfl (q_move) ?_
          refine AOps.cons rfl rfl (q_shr 15) ?_
          refine AOps.cons rfl rfl (q_and) ?_
          refine AOps.cons rfl rfl (q_eql) ?_
          refine AOps.cons rfl rfl (q_move) ?_
          refine AOps.cons rfl rfl (q_shr 11) ?_
          refine AOps.cons rfl rfl (q_and) ?_
          refine AOps.cons rfl rfl (q_move) ?_
          refine AOps.cons rfl rfl (q_shr 10) ?_
          refine AOps.cons rfl rfl (q_and) ?_
          refine AOps.cons rfl rfl (q_eql) ?_
          refine AOps.cons rfl rfl (q_move) ?_
          refine AOps.cons rfl rfl (q_shr 9) ?_
          refine AOps.cons rfl rfl (q_and) ?_
          refine AOps.cons rfl rfl (q_eql) ?_
          refine AOps.cons rfl rfl (q_move) ?_
          refine AOps.cons rfl rfl (q_shr 8) ?_
          refine AOps.cons rfl rfl (q_and) ?_
          refine AOps.cons rfl rfl (q_eql) ?_
          refine AOps.cons rfl rfl (q_move) ?_
          refine AOps.cons rfl rfl (q_shr 7) ?_
          refine AOps.cons rfl rfl (q_and) ?_
          refine AOps.cons rfl rfl (q_eql) ?_
          refine AOps.cons rfl rfl (q_move) ?_
          refine AOps.cons rfl rfl (q_and) ?_
          refine AOps.cons rfl rfl (q_build [(_, _), (_, _), (_, _), (_, _), (_, _), (_, _), (_, _), (_, _)]) ?_
          refine AOps.cons rfl rfl (q_alloc 1328) ?_
          refine AOps.cons rfl rfl (q_store) ?_
          refine AOps.nil ?_
          refine AWp.seq ?_
          refine AWp.draws [⟨0, [8], [1328], some 71, _, none⟩,
              ⟨1, [5], [400], some 72, _, none⟩,
              ⟨2, [72], [400], some 73, _, none⟩,
              ⟨3, [5], [400], some 74, _, none⟩,
              ⟨4, [74], [400], some 75, _, none⟩,
              ⟨5, [5], [400], some 76, _, none⟩,
              ⟨6, [76], [400], some 77, _, none⟩,
              ⟨7, [5], [400], some 78, _, none⟩,
              ⟨8, [78], [400], some 79, _, none⟩,
              ⟨9, [73, 75, 77, 79], [], some 80, _, none⟩,
              ⟨10, [2, 71], [100], none, _, some (100, _)⟩,
              ⟨11, [3, 80], [101], none, _, some (101, _)⟩,
              ⟨12, [], [], some 4, _, none⟩]
            [⟨0, [8], [1328], some 71, .any, none⟩,
                ⟨1, [5], [400], some 72, .any, none⟩,
                ⟨2, [72], [400], some 73, .any, none⟩,
                ⟨3, [5], [400], some 74, .any, none⟩,
                ⟨4, [74], [400], some 75, .any, none⟩,
                ⟨5, [5], [400], some 76, .any, none⟩,
                ⟨6, [76], [400], some 77, .any, none⟩,
                ⟨7, [5], [400], some 78, .any, none⟩,
                ⟨8, [78], [400], some 79, .any, none⟩,
                ⟨9, [73, 75, 77, 79], [], some 80, .any, none⟩,
                ⟨10, [2, 71], [100], none, .any, some (100, .box [])⟩,
                ⟨11, [3, 80], [101], none, .any, some (101, .box [])⟩,
                ⟨12, [], [], some 4, .any, none⟩]
            mixed_ok rfl (by kernel_rfl) ⟨DS.ok_over fun s0 => OpAt.go rfl rfl (q_load),
                DS.ok_over fun s0 => OpAt.go rfl rfl (q_ixa),
                DS.ok_over fun s0 => OpAt.go rfl rfl (q_load),
                DS.ok_over fun s0 => OpAt.go rfl rfl (q_ixa),
                DS.ok_over fun s0 => OpAt.go rfl rfl (q_load),
                DS.ok_over fun s0 => OpAt.go rfl rfl (q_ixa),
                DS.ok_over fun s0 => OpAt.go rfl rfl (q_load),
                DS.ok_over fun s0 => OpAt.go rfl rfl (q_ixa),
                DS.ok_over fun s0 => OpAt.go rfl rfl (q_load),
                DS.ok_over fun s0 => OpAt.go rfl rfl (q_buildA ic [_, _, _, _] [(_, _), (_, _), (_, _), (_, _)]),
                DS.ok_over fun s0 => OpAt.go rfl rfl (q_store),
                DS.ok_over fun s0 => OpAt.go rfl rfl (q_store),
                DS.ok_over fun s0 => OpAt.go rfl rfl (q_assign), trivial⟩ ?_
          dsimp only [final, DS.upd, AS.seto]
          refine AWp.ret ?_
          show Fin te Try.f27 _ _
          have e := dE_ok (b := b) (by omega) (by rw [and_7 _ (by omega)] at h10_3; omega)
          rw [dH_ok e, dC_ok e, dC_ok e, dC_ok e, dC_ok e, e]
          refine q_ret (0) [_, _, _] [_, _, _] ?_
          rw [dH_ref _ _ hf.1]; rfl

end Go.Proofs.Ytahkngplohnliaa.Fw
