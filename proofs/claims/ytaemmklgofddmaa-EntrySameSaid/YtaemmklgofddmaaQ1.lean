/- Q1: the rules of single operations over this seat's program, for scripts that a program prints; no condition. -/
import Derived.Test.YtaemmklgofddmaaTe
import Derived.Test.YtaemmklgofddmaaFwY
set_option linter.unusedVariables false
set_option linter.unusedSimpArgs false
namespace Go.Proofs.Ytaemmklgofddmaa.Fw
open Go.RowKit

section
variable {n : Nat} {s : AS} {o : Oper} {d : Option Tmp} {Q : APost}

/-! ### Moves -/
theorem q_move {x : Operand} {y : AV} (ho : o.op = .move x := by exact rfl) (hy : s.ev x = y := by conv => lhs; whnf) (hdd : o.dst = d := by conv => lhs; whnf) (hd : d.all (Nat.blt · n) = true := by exact rfl) :
    OpOk Try.prog n o s (s.put d y) := ok_move ho hy hdd hd
theorem q_assign {x : Operand} {y : AV} (ho : o.op = .assign x := by exact rfl) (hy : s.ev x = y := by conv => lhs; whnf) (hdd : o.dst = d := by conv => lhs; whnf) (hd : d.all (Nat.blt · n) = true := by exact rfl) :
    OpOk Try.prog n o s (s.put d y) := ok_assign ho hy hdd hd
theorem q_nilfz (lv : Nat) {x : Operand} {k : Nat} (ho : o.op = .assign x ∨ o.op = .move x := by first | exact .inl rfl | exact .inr rfl) (hx : s.ev x = .v (.slice none 0 k) := by exact rfl)
    (hdd : o.dst = d := by conv => lhs; whnf) (hd : d.all (Nat.blt · n) = true := by exact rfl) : OpOk Try.prog n o s (s.put d (.fz lv 0 [])) := ok_nilfz lv ho hx hdd hd
/-- A slice that is nil, as an empty frozen list. -/
theorem q_nilz (lv : Nat) {α : Type} (f : α → List AV) {x : Operand} {k : Nat} (ho : o.op = .assign x ∨ o.op = .move x := by first | exact .inl rfl | exact .inr rfl) (hx : s.ev x = .v (.slice none 0 k) := by exact rfl)
    (hdd : o.dst = d := by conv => lhs; whnf) (hd : d.all (Nat.blt · n) = true := by exact rfl) : OpOk Try.prog n o s (s.put d (.fz lv ([] : List α).length (cl f []))) := ok_nilfz lv ho hx hdd hd
/-- .. as an empty row of one's own. -/
theorem q_nilrow (id esz : Nat) {α : Type} (f : α → List AV) {x : Operand} (ho : o.op = .assign x ∨ o.op = .move x := by first | exact .inl rfl | exact .inr rfl) (hx : s.ev x = .v (.slice none 0 0) := by exact rfl)
    (hid : s.h id = none := by exact rfl) (hdd : o.dst = d := by conv => lhs; whnf) (hd : d.all (Nat.blt · n) = true := by exact rfl) :
    OpOk Try.prog n o s ((s.seth id (some (.row (cl f []) esz 0))).put d (.sl id 0 0 ([] : List α).length esz)) := ok_nilrow id esz ho hx hid hdd hd

/-! ### Numbers -/
section bin
variable {t u : TypeId} {x y : Operand} {k : IntKind} {a b : Int}
theorem q_add (ho : o.op = .binOp .add t x y u := by exact rfl) (hx : s.ev x = i64 a := by exact rfl) (hy : s.ev y = i64 b := by exact rfl)
    (h1 : -9223372036854775808 ≤ a + b := by first | omega | decide | (simp; omega) | (simp [*]; done)) (h2 : a + b ≤ 9223372036854775807 := by first | omega | decide | (simp; omega) | (simp [*]; done))
    (hdd : o.dst = d := by conv => lhs; whnf) (hd : d.all (Nat.blt · n) = true := by exact rfl) : OpOk Try.prog n o s (s.put d (i64 (a + b))) := ok_bin ho hx hy (bi_add h1 h2) hdd hd
theorem q_sub (ho : o.op = .binOp .sub t x y u := by exact rfl) (hx : s.ev x = i64 a := by exact rfl) (hy : s.ev y = i64 b := by exact rfl)
    (h1 : -9223372036854775808 ≤ a - b := by first | omega | decide | (simp; omega) | (simp [*]; done)) (h2 : a - b ≤ 9223372036854775807 := by first | omega | decide | (simp; omega) | (simp [*]; done))
    (hdd : o.dst = d := by conv => lhs; whnf) (hd : d.all (Nat.blt · n) = true := by exact rfl) : OpOk Try.prog n o s (s.put d (i64 (a - b))) := ok_bin ho hx hy (bi_sub h1 h2) hdd hd
theorem q_mul (ho : o.op = .binOp .mul t x y u := by exact rfl) (hx : s.ev x = i64 a := by exact rfl) (hy : s.ev y = i64 b := by exact rfl)
    (h1 : -9223372036854775808 ≤ a * b := by first | omega | decide | (simp; omega) | (simp [*]; done)) (h2 : a * b ≤ 9223372036854775807 := by first | omega | decide | (simp; omega) | (simp [*]; done))
    (hdd : o.dst = d := by conv => lhs; whnf) (hd : d.all (Nat.blt · n) = true := by exact rfl) : OpOk Try.prog n o s (s.put d (i64 (a * b))) := ok_bin ho hx hy (bi_mul h1 h2) hdd hd
theorem q_quo (ho : o.op = .binOp .quo t x y u := by exact rfl) (hx : s.ev x = i64 a := by exact rfl) (hy : s.ev y = i64 b := by exact rfl)
    (h : 0 < b := by first | omega | decide | (simp; omega)) (h0 : 0 ≤ a := by first | omega | decide | (simp; omega)) (h1 : a ≤ 9223372036854775807 := by first | omega | decide | (simp; omega))
    (hdd : o.dst = d := by conv => lhs; whnf) (hd : d.all (Nat.blt · n) = true := by exact rfl) : OpOk Try.prog n o s (s.put d (i64 (a / b))) := ok_bin ho hx hy (bi_quo h h0 h1) hdd hd
theorem q_rem (ho : o.op = .binOp .rem t x y u := by exact rfl) (hx : s.ev x = .v (.int k a) := by exact rfl) (hy : s.ev y = .v (.int k b) := by exact rfl)
    (h : 0 < b := by first | omega | decide | (simp; omega)) (h0 : 0 ≤ a := by first | omega | decide | (simp; omega))
    (hdd : o.dst = d := by conv => lhs; whnf) (hd : d.all (Nat.blt · n) = true := by exact rfl) : OpOk Try.prog n o s (s.put d (.v (.int k (a % b)))) := ok_bin ho hx hy (bi_rem h h0) hdd hd
theorem q_shr {k' : IntKind} (m : Nat) (ho : o.op = .binOp .shr t x y u := by exact rfl) (hx : s.ev x = .v (.int k a) := by exact rfl) (hy : s.ev y = .v (.int k' b) := by exact rfl)
    (hm : b = (m : Int) := by first | exact rfl | omega | simp) (h : m ≤ k.bits := by first | decide | (simp [IntKind.bits]; omega))
    (hdd : o.dst = d := by conv => lhs; whnf) (hd : d.all (Nat.blt · n) = true := by exact rfl) : OpOk Try.prog n o s (s.put d (.v (.int k (a / 2 ^ m)))) := ok_bin ho hx hy (bi_shr hm h) hdd hd
theorem q_shl {k' : IntKind} (m : Nat) (ho : o.op = .binOp .shl t x y u := by exact rfl) (hx : s.ev x = i64 a := by exact rfl) (hy : s.ev y = .v (.int k' b) := by exact rfl)
    (hm : b = (m : Int) := by first | exact rfl | omega | simp) (h : m ≤ 64 := by first | decide | omega) (h1 : -9223372036854775808 ≤ a * 2 ^ m := by first | omega | decide | (simp; omega)) (h2 : a * 2 ^ m ≤ 9223372036854775807 := by first | omega | decide | (simp; omega))
    (hdd : o.dst = d := by conv => lhs; whnf) (hd : d.all (Nat.blt · n) = true := by exact rfl) : OpOk Try.prog n o s (s.put d (i64 (a * 2 ^ m))) := ok_bin ho hx hy (bi_shl hm h h1 h2) hdd hd
theorem q_or (ho : o.op = .binOp .or t x y u := by exact rfl) (hx : s.ev x = i64 a := by exact rfl) (hy : s.ev y = i64 b := by exact rfl)
    (h0 : 0 ≤ a ∧ a ≤ 9223372036854775807 := by first | omega | decide | (simp; omega)) (h1 : 0 ≤ b ∧ b ≤ 9223372036854775807 := by first | omega | decide | (simp; omega))
    (hdd : o.dst = d := by conv => lhs; whnf) (hd : d.all (Nat.blt · n) = true := by exact rfl) : OpOk Try.prog n o s (s.put d (i64 ((a.toNat ||| b.toNat : Nat) : Int))) := ok_bin ho hx hy (bi_or h0 h1) hdd hd
theorem q_and (ho : o.op = .binOp .and t x y u := by exact rfl) (hx : s.ev x = i64 a := by exact rfl) (hy : s.ev y = i64 b := by exact rfl)
    (h0 : 0 ≤ a ∧ a ≤ 9223372036854775807 := by first | omega | decide | (simp; omega)) (h1 : 0 ≤ b ∧ b ≤ 9223372036854775807 := by first | omega | decide | (simp; omega))
    (hdd : o.dst = d := by conv => lhs; whnf) (hd : d.all (Nat.blt · n) = true := by exact rfl) : OpOk Try.prog n o s (s.put d (i64 ((a.toNat &&& b.toNat : Nat) : Int))) := ok_bin ho hx hy (bi_and h0 h1) hdd hd
theorem q_neg (ho : o.op = .unOp .neg t x := by exact rfl) (hx : s.ev x = i64 a := by exact rfl) (h1 : -9223372036854775808 < a ∧ a ≤ 9223372036854775807 := by first | omega | decide)
    (hdd : o.dst = d := by conv => lhs; whnf) (hd : d.all (Nat.blt · n) = true := by exact rfl) : OpOk Try.prog n o s (s.put d (i64 (-a))) := by
  have := ok_neg (P := Try.prog) (n := n) (s := s) ho hx hdd hd
  rwa [wrap64 (by omega) (by omega), Int.zero_sub] at this
theorem q_eql (ho : o.op = .binOp .eql t x y u := by exact rfl) (hx : s.ev x = .v (.int k a) := by exact rfl) (hy : s.ev y = .v (.int k b) := by exact rfl)
    (hdd : o.dst = d := by conv => lhs; whnf) (hd : d.all (Nat.blt · n) = true := by exact rfl) : OpOk Try.prog n o s (s.put d (tf (decide (a = b)))) := ok_bin ho hx hy bd_eql hdd hd
theorem q_neq (ho : o.op = .binOp .neq t x y u := by exact rfl) (hx : s.ev x = .v (.int k a) := by exact rfl) (hy : s.ev y = .v (.int k b) := by exact rfl)
    (hdd : o.dst = d := by conv => lhs; whnf) (hd : d.all (Nat.blt · n) = true := by exact rfl) : OpOk Try.prog n o s (s.put d (tf (decide (¬ a = b)))) := ok_bin ho hx hy bd_neq hdd hd
theorem q_lss (ho : o.op = .binOp .lss t x y u := by exact rfl) (hx : s.ev x = .v (.int k a) := by exact rfl) (hy : s.ev y = .v (.int k b) := by exact rfl)
    (hdd : o.dst = d := by conv => lhs; whnf) (hd : d.all (Nat.blt · n) = true := by exact rfl) : OpOk Try.prog n o s (s.put d (tf (decide (a < b)))) := ok_bin ho hx hy br_lss hdd hd
theorem q_leq (ho : o.op = .binOp .leq t x y u := by exact rfl) (hx : s.ev x = .v (.int k a) := by exact rfl) (hy : s.ev y = .v (.int k b) := by exact rfl)
    (hdd : o.dst = d := by conv => lhs; whnf) (hd : d.all (Nat.blt · n) = true := by exact rfl) : OpOk Try.prog n o s (s.put d (tf (decide (a ≤ b)))) := ok_bin ho hx hy br_leq hdd hd
theorem q_gtr (ho : o.op = .binOp .gtr t x y u := by exact rfl) (hx : s.ev x = .v (.int k a) := by exact rfl) (hy : s.ev y = .v (.int k b) := by exact rfl)
    (hdd : o.dst = d := by conv => lhs; whnf) (hd : d.all (Nat.blt · n) = true := by exact rfl) : OpOk Try.prog n o s (s.put d (tf (decide (b < a)))) := ok_bin ho hx hy br_gtr hdd hd
theorem q_geq (ho : o.op = .binOp .geq t x y u := by exact rfl) (hx : s.ev x = .v (.int k a) := by exact rfl) (hy : s.ev y = .v (.int k b) := by exact rfl)
    (hdd : o.dst = d := by conv => lhs; whnf) (hd : d.all (Nat.blt · n) = true := by exact rfl) : OpOk Try.prog n o s (s.put d (tf (decide (b ≤ a)))) := ok_bin ho hx hy br_geq hdd hd
/-! bytes -/
variable {p q : UInt8}
theorem wrap8 (m : Nat) : IntKind.u8.wrap (m : Int) = ((UInt8.ofNat m).toNat : Int) := by
  simp [IntKind.wrap, IntKind.signed, IntKind.bits, UInt8.toNat_ofNat']
theorem q_add8 (p q : UInt8) (ho : o.op = .binOp .add t x y u := by exact rfl) (hx : s.ev x = u8 p.toNat := by exact rfl) (hy : s.ev y = u8 q.toNat := by exact rfl)
    (hdd : o.dst = d := by conv => lhs; whnf) (hd : d.all (Nat.blt · n) = true := by exact rfl) : OpOk Try.prog n o s (s.put d (u8 (p + q).toNat)) := by
  have e : BinRes Try.prog .add t x y (.int .u8 p.toNat) (.int .u8 q.toNat) (.int .u8 (p + q).toNat) := by
    have := br_add (P := Try.prog) (t := t) (x := x) (y := y) (k := .u8) (a := p.toNat) (b := q.toNat)
    rw [← Int.natCast_add, wrap8] at this
    have h : UInt8.ofNat (p.toNat + q.toNat) = p + q := by simp [UInt8.ofNat_add]
    rwa [h] at this
  exact ok_bin ho hx hy e hdd hd
theorem q_sub8 (p q : UInt8) (ho : o.op = .binOp .sub t x y u := by exact rfl) (hx : s.ev x = u8 p.toNat := by exact rfl) (hy : s.ev y = u8 q.toNat := by exact rfl)
    (hdd : o.dst = d := by conv => lhs; whnf) (hd : d.all (Nat.blt · n) = true := by exact rfl) : OpOk Try.prog n o s (s.put d (u8 (p - q).toNat)) := by
  have e : BinRes Try.prog .sub t x y (.int .u8 p.toNat) (.int .u8 q.toNat) (.int .u8 (p - q).toNat) := by
    have := br_sub (P := Try.prog) (t := t) (x := x) (y := y) (k := .u8) (a := p.toNat) (b := q.toNat)
    have h : IntKind.u8.wrap ((p.toNat : Int) - q.toNat) = ((p - q).toNat : Int) := by
      have h1 := p.toNat_lt
      have h2 := q.toNat_lt
      rw [UInt8.toNat_sub]
      simp [IntKind.wrap, IntKind.signed, IntKind.bits]
      omega
    rwa [h] at this
  exact ok_bin ho hx hy e hdd hd
theorem q_quo8 (p q : UInt8) (ho : o.op = .binOp .quo t x y u := by exact rfl) (hx : s.ev x = u8 p.toNat := by exact rfl) (hy : s.ev y = u8 q.toNat := by exact rfl) (hq : 0 < q.toNat := by decide)
    (hdd : o.dst = d := by conv => lhs; whnf) (hd : d.all (Nat.blt · n) = true := by exact rfl) : OpOk Try.prog n o s (s.put d (u8 (p / q).toNat)) := by
  have e : BinRes Try.prog .quo t x y (.int .u8 p.toNat) (.int .u8 q.toNat) (.int .u8 (p / q).toNat) := by
    have := br_quo (P := Try.prog) (t := t) (x := x) (y := y) (k := .u8) (a := p.toNat) (b := q.toNat) (by omega)
    have h : IntKind.u8.wrap ((p.toNat : Int).tdiv q.toNat) = ((p / q).toNat : Int) := by
      rw [UInt8.toNat_div, ← Int.ofNat_tdiv, wrap8]
      have h1 := p.toNat_lt
      have h2 : p.toNat / q.toNat ≤ p.toNat := Nat.div_le_self _ _
      rw [UInt8.toNat_ofNat', Nat.mod_eq_of_lt (by omega)]
    rwa [h] at this
  exact ok_bin ho hx hy e hdd hd
theorem q_rem8 (p q : UInt8) (ho : o.op = .binOp .rem t x y u := by exact rfl) (hx : s.ev x = u8 p.toNat := by exact rfl) (hy : s.ev y = u8 q.toNat := by exact rfl) (hq : 0 < q.toNat := by decide)
    (hdd : o.dst = d := by conv => lhs; whnf) (hd : d.all (Nat.blt · n) = true := by exact rfl) : OpOk Try.prog n o s (s.put d (u8 (p % q).toNat)) := by
  have e : BinRes Try.prog .rem t x y (.int .u8 p.toNat) (.int .u8 q.toNat) (.int .u8 (p % q).toNat) := by
    have := bi_rem (P := Try.prog) (t := t) (x := x) (y := y) (k := .u8) (a := p.toNat) (b := q.toNat) (by omega) (by omega)
    rwa [show ((p.toNat : Int) % q.toNat) = ((p % q).toNat : Int) from by rw [UInt8.toNat_mod]; simp] at this
  exact ok_bin ho hx hy e hdd hd
theorem q_xor8 (p q : UInt8) (ho : o.op = .binOp .xor t x y u := by exact rfl) (hx : s.ev x = u8 p.toNat := by exact rfl) (hy : s.ev y = u8 q.toNat := by exact rfl)
    (hdd : o.dst = d := by conv => lhs; whnf) (hd : d.all (Nat.blt · n) = true := by exact rfl) : OpOk Try.prog n o s (s.put d (u8 (p ^^^ q).toNat)) := ok_bin ho hx hy bi_xor8 hdd hd
theorem bits8 (p : UInt8) : BitVec.ofInt 8 (p.toNat : Int) = p.toBitVec := by
  apply BitVec.eq_of_toNat_eq
  have := p.toNat_lt
  simp [BitVec.toNat_ofInt]
theorem q_or8 (p q : UInt8) (ho : o.op = .binOp .or t x y u := by exact rfl) (hx : s.ev x = u8 p.toNat := by exact rfl) (hy : s.ev y = u8 q.toNat := by exact rfl)
    (hdd : o.dst = d := by conv => lhs; whnf) (hd : d.all (Nat.blt · n) = true := by exact rfl) : OpOk Try.prog n o s (s.put d (u8 (p ||| q).toNat)) := by
  have e : BinRes Try.prog .or t x y (.int .u8 p.toNat) (.int .u8 q.toNat) (.int .u8 (p ||| q).toNat) := by
    have := br_or (P := Try.prog) (t := t) (x := x) (y := y) (k := .u8) (a := p.toNat) (b := q.toNat)
    have h : IntKind.u8.wrap ((BitVec.ofInt IntKind.u8.bits (p.toNat : Int) ||| BitVec.ofInt IntKind.u8.bits (q.toNat : Int)).toNat : Int) = ((p ||| q).toNat : Int) := by
      show IntKind.u8.wrap ((BitVec.ofInt 8 (p.toNat : Int) ||| BitVec.ofInt 8 (q.toNat : Int)).toNat : Int) = _
      rw [bits8, bits8, ← UInt8.toBitVec_or]
      exact wrap_u8_nat _ (p ||| q).toNat_lt
    rwa [h] at this
  exact ok_bin ho hx hy e hdd hd
theorem q_and8 (p q : UInt8) (ho : o.op = .binOp .and t x y u := by exact rfl) (hx : s.ev x = u8 p.toNat := by exact rfl) (hy : s.ev y = u8 q.toNat := by exact rfl)
    (hdd : o.dst = d := by conv => lhs; whnf) (hd : d.all (Nat.blt · n) = true := by exact rfl) : OpOk Try.prog n o s (s.put d (u8 (p &&& q).toNat)) := by
  have e : BinRes Try.prog .and t x y (.int .u8 p.toNat) (.int .u8 q.toNat) (.int .u8 (p &&& q).toNat) := by
    have := br_and (P := Try.prog) (t := t) (x := x) (y := y) (k := .u8) (a := p.toNat) (b := q.toNat)
    have h : IntKind.u8.wrap ((BitVec.ofInt IntKind.u8.bits (p.toNat : Int) &&& BitVec.ofInt IntKind.u8.bits (q.toNat : Int)).toNat : Int) = ((p &&& q).toNat : Int) := by
      show IntKind.u8.wrap ((BitVec.ofInt 8 (p.toNat : Int) &&& BitVec.ofInt 8 (q.toNat : Int)).toNat : Int) = _
      rw [bits8, bits8, ← UInt8.toBitVec_and]
      exact wrap_u8_nat _ (p &&& q).toNat_lt
    rwa [h] at this
  exact ok_bin ho hx hy e hdd hd
/-! strings -/
variable {l m : List UInt8}
theorem q_sadd (ho : o.op = .binOp .add t x y u := by exact rfl) (hx : s.ev x = str l := by exact rfl) (hy : s.ev y = str m := by exact rfl)
    (h : ((l.length + m.length : Nat) : Int) ≤ 9223372036854775807 := by first | omega | (simp; omega))
    (hdd : o.dst = d := by conv => lhs; whnf) (hd : d.all (Nat.blt · n) = true := by exact rfl) : OpOk Try.prog n o s (s.put d (str (l ++ m))) := ok_bin ho hx hy (br_sadd h) hdd hd
theorem q_seql (ho : o.op = .binOp .eql t x y u := by exact rfl) (hx : s.ev x = str l := by exact rfl) (hy : s.ev y = str m := by exact rfl)
    (hdd : o.dst = d := by conv => lhs; whnf) (hd : d.all (Nat.blt · n) = true := by exact rfl) : OpOk Try.prog n o s (s.put d (tf (decide (l = m)))) := ok_bin ho hx hy bd_seql hdd hd
theorem q_sneq (ho : o.op = .binOp .neq t x y u := by exact rfl) (hx : s.ev x = str l := by exact rfl) (hy : s.ev y = str m := by exact rfl)
    (hdd : o.dst = d := by conv => lhs; whnf) (hd : d.all (Nat.blt · n) = true := by exact rfl) : OpOk Try.prog n o s (s.put d (tf (decide (¬ l = m)))) := ok_bin ho hx hy bd_sneq hdd hd
theorem q_slss (ho : o.op = .binOp .lss t x y u := by exact rfl) (hx : s.ev x = str l := by exact rfl) (hy : s.ev y = str m := by exact rfl)
    (hdd : o.dst = d := by conv => lhs; whnf) (hd : d.all (Nat.blt · n) = true := by exact rfl) : OpOk Try.prog n o s (s.put d (tf (Op.bytesLess l m))) := ok_bin ho hx hy br_slss hdd hd
theorem q_sgtr (ho : o.op = .binOp .gtr t x y u := by exact rfl) (hx : s.ev x = str l := by exact rfl) (hy : s.ev y = str m := by exact rfl)
    (hdd : o.dst = d := by conv => lhs; whnf) (hd : d.all (Nat.blt · n) = true := by exact rfl) : OpOk Try.prog n o s (s.put d (tf (!(Op.bytesLess l m || l == m)))) := ok_bin ho hx hy br_sgtr hdd hd
theorem q_beql {p q : Bool} {i : TI} (ho : o.op = .binOp .eql t x y u := by exact rfl) (hx : s.ev x = tf p := by exact rfl) (hy : s.ev y = tf q := by exact rfl) (ht : te.get t = some i := by exact rfl) (hk : i.k = .bool := by exact rfl)
    (hdd : o.dst = d := by conv => lhs; whnf) (hd : d.all (Nat.blt · n) = true := by exact rfl) : OpOk Try.prog n o s (s.put d (tf (p == q))) := ok_bin ho hx hy (br_beql te_ok ht hk) hdd hd
theorem q_bneq {p q : Bool} {i : TI} (ho : o.op = .binOp .neq t x y u := by exact rfl) (hx : s.ev x = tf p := by exact rfl) (hy : s.ev y = tf q := by exact rfl) (ht : te.get t = some i := by exact rfl) (hk : i.k = .bool := by exact rfl)
    (hdd : o.dst = d := by conv => lhs; whnf) (hd : d.all (Nat.blt · n) = true := by exact rfl) : OpOk Try.prog n o s (s.put d (tf (!(p == q)))) := ok_bin ho hx hy (br_bneq te_ok ht hk) hdd hd
end bin
theorem q_not {t : TypeId} {x : Operand} {b : Bool} (ho : o.op = .unOp .not t x := by exact rfl) (hx : s.ev x = tf b := by exact rfl) (hdd : o.dst = d := by conv => lhs; whnf) (hd : d.all (Nat.blt · n) = true := by exact rfl) :
    OpOk Try.prog n o s (s.put d (tf (!b))) := ok_not ho hx hdd hd
theorem q_pick {c x y : Operand} {b : Bool} {z : AV} (ho : o.op = .pick c x y := by exact rfl) (hc : s.ev c = tf b := by exact rfl) (hz : (bif b then s.ev x else s.ev y) = z := by conv => lhs; whnf)
    (hdd : o.dst = d := by conv => lhs; whnf) (hd : d.all (Nat.blt · n) = true := by exact rfl) : OpOk Try.prog n o s (s.put d z) := ok_pick ho hc hz hdd hd
theorem q_extract {x : Operand} {k : Nat} {l : List AV} {y : AV} (ho : o.op = .extract x k := by exact rfl) (hx : s.ev x = .tup l := by exact rfl) (hk : l[k]? = some y := by exact rfl)
    (hdd : o.dst = d := by conv => lhs; whnf) (hd : d.all (Nat.blt · n) = true := by exact rfl) : OpOk Try.prog n o s (s.put d y) := ok_extract ho hx hk hdd hd
theorem q_nil {x : Operand} {y : AV} (ho : o.op = .nilCheck x := by exact rfl) (hx : s.ev x = y := by conv => lhs; whnf) (hy : (match y with | .ptr .. | .fp .. => true | _ => false) = true := by exact rfl)
    (hdd : o.dst = d := by conv => lhs; whnf) (hd : d.all (Nat.blt · n) = true := by exact rfl) : OpOk Try.prog n o s (s.put d y) := ok_nil ho hx hy hdd hd

/-! ### Conversions -/
section conv
variable {src dst : TypeId} {x : Operand} {k : IntKind} {a : Int} {i j : TI} {p : UInt8} {l : List UInt8}
theorem q_conv_u8 (ho : o.op = .convert src dst x := by exact rfl) (hx : s.ev x = .v (.int k a) := by exact rfl) (hi : te.get src = some i := by exact rfl) (hj : te.get dst = some j := by exact rfl) (hk : j.k = .int .u8 := by exact rfl)
    (hdd : o.dst = d := by conv => lhs; whnf) (hd : d.all (Nat.blt · n) = true := by exact rfl) : OpOk Try.prog n o s (s.put d (u8 (byte a).toNat)) := ok_conv_u8 te_ok ho hx hi hj hk hdd hd
theorem q_conv_i64 (ho : o.op = .convert src dst x := by exact rfl) (hx : s.ev x = .v (.int k a) := by exact rfl) (hi : te.get src = some i := by exact rfl) (hj : te.get dst = some j := by exact rfl) (hk : j.k = .int .i64 := by exact rfl)
    (h1 : -9223372036854775808 ≤ a := by first | omega | decide | (simp; omega)) (h2 : a ≤ 9223372036854775807 := by first | omega | decide | (simp; omega))
    (hdd : o.dst = d := by conv => lhs; whnf) (hd : d.all (Nat.blt · n) = true := by exact rfl) : OpOk Try.prog n o s (s.put d (i64 a)) := ok_conv_i64 te_ok ho hx hi hj hk h1 h2 hdd hd
/-- Of a byte. -/
theorem q_conv_8i (ho : o.op = .convert src dst x := by exact rfl) (hx : s.ev x = u8 p.toNat := by exact rfl) (hi : te.get src = some i := by exact rfl) (hj : te.get dst = some j := by exact rfl) (hk : j.k = .int .i64 := by exact rfl)
    (hdd : o.dst = d := by conv => lhs; whnf) (hd : d.all (Nat.blt · n) = true := by exact rfl) : OpOk Try.prog n o s (s.put d (i64 p.toNat)) := by
  have := p.toNat_lt
  exact ok_conv_i64 te_ok ho hx hi hj hk (by omega) (by omega) hdd hd
theorem q_conv_8u (ho : o.op = .convert src dst x := by exact rfl) (hx : s.ev x = u8 p.toNat := by exact rfl) (hi : te.get src = some i := by exact rfl) (hj : te.get dst = some j := by exact rfl) (hk : j.k = .int .u64 := by exact rfl)
    (hdd : o.dst = d := by conv => lhs; whnf) (hd : d.all (Nat.blt · n) = true := by exact rfl) : OpOk Try.prog n o s (s.put d (.v (.int .u64 p.toNat))) := by
  have h := p.toNat_lt
  have := ok_conv_int (P := Try.prog) (n := n) (s := s) te_ok ho hx hi hj hk hdd hd
  rwa [show IntKind.u64.wrap (p.toNat : Int) = p.toNat from by simp [IntKind.wrap, IntKind.signed, IntKind.bits]; omega] at this
theorem q_conv_u64 (ho : o.op = .convert src dst x := by exact rfl) (hx : s.ev x = .v (.int k a) := by exact rfl) (hi : te.get src = some i := by exact rfl) (hj : te.get dst = some j := by exact rfl) (hk : j.k = .int .u64 := by exact rfl)
    (hdd : o.dst = d := by conv => lhs; whnf) (hd : d.all (Nat.blt · n) = true := by exact rfl) : OpOk Try.prog n o s (s.put d (.v (.int .u64 (a % 18446744073709551616)))) := by
  have := ok_conv_int (P := Try.prog) (n := n) (s := s) te_ok ho hx hi hj hk hdd hd
  rwa [show IntKind.u64.wrap a = a % 18446744073709551616 from by simp [IntKind.wrap, IntKind.signed, IntKind.bits]] at this
theorem q_conv_str {b : ByteArray} (ho : o.op = .convert src dst x := by exact rfl) (hx : s.ev x = .v (.string b) := by exact rfl) (hi : te.get src = some i := by exact rfl) (hj : te.get dst = some j := by exact rfl) (hk : j.k = .str := by exact rfl)
    (hdd : o.dst = d := by conv => lhs; whnf) (hd : d.all (Nat.blt · n) = true := by exact rfl) : OpOk Try.prog n o s (s.put d (.v (.string b))) := ok_conv_str te_ok ho hx hi hj hk hdd hd
theorem q_conv_zs {e lv : Nat} {tj : TI} (ho : o.op = .convert src dst x := by exact rfl) (hx : s.ev x = .fz lv l.length (cl bc l) := by exact rfl) (hi : te.get src = some i := by exact rfl) (hk : i.k = .slice e := by exact rfl)
    (he : te.get e = some tj := by exact rfl) (hk2 : tj.k = .int .u8 := by exact rfl) (hj : te.get dst = some j := by exact rfl) (hk3 : j.k = .str := by exact rfl)
    (hdd : o.dst = d := by conv => lhs; whnf) (hd : d.all (Nat.blt · n) = true := by exact rfl) : OpOk Try.prog n o s (s.put d (str l)) :=
  ok_conv_bytes te_ok ho hx (.inr (.inl ⟨lv, rfl⟩)) hi hk he hk2 hj hk3 hdd hd
end conv

/-! ### Strings -/
theorem q_ixs {t : TypeId} {x y : Operand} {l : List UInt8} {k : IntKind} {i : Int} {ti : TI} (ho : o.op = .index t x y := by exact rfl) (hx : s.ev x = str l := by exact rfl) (hy : s.ev y = .v (.int k i) := by exact rfl)
    (ht : te.get t = some ti := by exact rfl) (hk : ti.k = .str := by exact rfl) (h0 : 0 ≤ i := by first | omega | (simp; omega) | decide) (hc : i < l.length := by first | omega | (simp; omega) | decide)
    (hdd : o.dst = d := by conv => lhs; whnf) (hd : d.all (Nat.blt · n) = true := by exact rfl) : OpOk Try.prog n o s (s.put d (u8 (l.getD i.toNat 0).toNat)) := ok_index_strD te_ok ho hx hy ht hk h0 hc hdd hd
theorem q_sls {t : TypeId} {x : Operand} {lo hi : Operand} {l : List UInt8} {k k' : IntKind} {i j : Int} {ti : TI} (ho : o.op = .slice t x (some lo) (some hi) none := by exact rfl) (hx : s.ev x = str l := by exact rfl)
    (hl : s.ev lo = .v (.int k i) := by exact rfl) (hh : s.ev hi = .v (.int k' j) := by exact rfl) (ht : te.get t = some ti := by exact rfl) (hk : ti.k = .str := by exact rfl)
    (h0 : 0 ≤ i := by first | omega | (simp; omega) | decide) (h1 : i ≤ j := by first | omega | (simp; omega) | decide) (h2 : j ≤ l.length := by first | omega | (simp; omega) | decide)
    (hdd : o.dst = d := by conv => lhs; whnf) (hd : d.all (Nat.blt · n) = true := by exact rfl) : OpOk Try.prog n o s (s.put d (str ((l.take j.toNat).drop i.toNat))) :=
  ok_slice_str te_ok ho hx ht hk (bnd_some hh (by omega) rfl) (bnd_some hl h0 rfl) (by omega) (by omega) rfl hdd hd
theorem q_sls_lo {t : TypeId} {x : Operand} {lo : Operand} {l : List UInt8} {k : IntKind} {i : Int} {ti : TI} (ho : o.op = .slice t x (some lo) none none := by exact rfl) (hx : s.ev x = str l := by exact rfl)
    (hl : s.ev lo = .v (.int k i) := by exact rfl) (ht : te.get t = some ti := by exact rfl) (hk : ti.k = .str := by exact rfl)
    (h0 : 0 ≤ i := by first | omega | (simp; omega) | decide) (h1 : i ≤ l.length := by first | omega | (simp; omega) | decide)
    (hdd : o.dst = d := by conv => lhs; whnf) (hd : d.all (Nat.blt · n) = true := by exact rfl) : OpOk Try.prog n o s (s.put d (str (l.drop i.toNat))) :=
  ok_slice_str te_ok ho hx ht hk bnd_none (bnd_some hl h0 rfl) (by omega) (Nat.le_refl _) (by rw [List.take_length]) hdd hd
theorem q_sls_hi {t : TypeId} {x : Operand} {hi : Operand} {l : List UInt8} {k : IntKind} {j : Int} {ti : TI} (ho : o.op = .slice t x none (some hi) none := by exact rfl) (hx : s.ev x = str l := by exact rfl)
    (hh : s.ev hi = .v (.int k j) := by exact rfl) (ht : te.get t = some ti := by exact rfl) (hk : ti.k = .str := by exact rfl)
    (h1 : 0 ≤ j := by first | omega | (simp; omega) | decide) (h2 : j ≤ l.length := by first | omega | (simp; omega) | decide)
    (hdd : o.dst = d := by conv => lhs; whnf) (hd : d.all (Nat.blt · n) = true := by exact rfl) : OpOk Try.prog n o s (s.put d (str (l.take j.toNat))) :=
  ok_slice_str te_ok ho hx ht hk (bnd_some hh h1 rfl) bnd_none (by omega) (by omega) rfl hdd hd
theorem q_len_str {t : TypeId} {x : Operand} {l : List UInt8} {ti : TI} (ho : o.op = .call { callee := .builtin .len, args := #[x], argTypes := #[t] } := by exact rfl) (hx : s.ev x = str l := by exact rfl)
    (ht : te.get t = some ti := by exact rfl) (hk : ti.k = .str := by exact rfl)
    (hdd : o.dst = d := by conv => lhs; whnf) (hd : d.all (Nat.blt · n) = true := by exact rfl) : OpOk Try.prog n o s (s.put d (i64 l.length)) := ok_len_str (u := 0) te_ok ho hx ht hk hdd hd
theorem q_len {t e : TypeId} {x : Operand} {m : Nat} {y : AV} {ti : TI} (ho : o.op = .call { callee := .builtin .len, args := #[x], argTypes := #[t] } := by exact rfl) (hx : s.ev x = y := by conv => lhs; whnf)
    (hm : y.len? = some m := by exact rfl) (ht : te.get t = some ti := by exact rfl) (hk : ti.k = .slice e := by exact rfl)
    (hdd : o.dst = d := by conv => lhs; whnf) (hd : d.all (Nat.blt · n) = true := by exact rfl) : OpOk Try.prog n o s (s.put d (i64 m)) := ok_len_sl te_ok ho hx hm ht hk hdd hd
end
end Go.Proofs.Ytaemmklgofddmaa.Fw
