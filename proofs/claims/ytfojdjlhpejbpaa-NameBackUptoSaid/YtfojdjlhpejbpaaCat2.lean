/- The texts Q1, Q2, Q3, FwO, FwP, FwS, Q4, Q5, Q6, W01, W01b, W01c, Q7, W01t, W01u, W01v, W01w, W01x, Q8, Q9, Q10, Q11, Q12, Q13, Q14, Q15, Q21, one behind the other: what the walks and plain laws need; conditions stand with each theorem. -/
import Derived.Below
import Derived.Carry
import Derived.ChangeOld
import Derived.Laws.AppendOwn
import Derived.Laws.Externs
import Derived.Laws.MakeOwn
import Derived.Laws.StructEq
import Derived.Lib.Builder
import Derived.Lib.ConvBytes
import Derived.Lib.UnsafeStr
import Derived.MapKept
import Derived.OpenShut
import Derived.ProofKit
import Derived.ScopeJumps
import Derived.ShutString
import Derived.SizedLaws
import Derived.Test.YtfojdjlhpejbpaaRows
import Derived.Test.YtfojdjlhpejbpaaCat1
set_option linter.unusedVariables false
set_option linter.unusedSimpArgs false
namespace Go.Proofs.Ytfojdjlhpejbpaa.Fw
open Go.RowKit
section
variable {n : Nat} {s : AS} {o : Oper} {d : Option Tmp} {Q : APost}
theorem q_move {x : Operand} {y : AV} (ho : o.op = .move x := by exact rfl) (hy : s.ev x = y := by conv => lhs; whnf) (hdd : o.dst = d := by conv => lhs; whnf) (hd : d.all (Nat.blt · n) = true := by exact rfl) :
    OpOk Try.prog n o s (s.put d y) := ok_move ho hy hdd hd
theorem q_assign {x : Operand} {y : AV} (ho : o.op = .assign x := by exact rfl) (hy : s.ev x = y := by conv => lhs; whnf) (hdd : o.dst = d := by conv => lhs; whnf) (hd : d.all (Nat.blt · n) = true := by exact rfl) :
    OpOk Try.prog n o s (s.put d y) := ok_assign ho hy hdd hd
theorem q_nilz (lv : Nat) {α : Type} (f : α → List AV) {x : Operand} {k : Nat} (ho : o.op = .assign x ∨ o.op = .move x := by first | exact .inl rfl | exact .inr rfl) (hx : s.ev x = .v (.slice none 0 k) := by exact rfl)
    (hdd : o.dst = d := by conv => lhs; whnf) (hd : d.all (Nat.blt · n) = true := by exact rfl) : OpOk Try.prog n o s (s.put d (.fz lv ([] : List α).length (cl f []))) := ok_nilfz lv ho hx hdd hd
theorem q_nilrow (id esz : Nat) {α : Type} (f : α → List AV) {x : Operand} (ho : o.op = .assign x ∨ o.op = .move x := by first | exact .inl rfl | exact .inr rfl) (hx : s.ev x = .v (.slice none 0 0) := by exact rfl)
    (hid : s.h id = none := by exact rfl) (hdd : o.dst = d := by conv => lhs; whnf) (hd : d.all (Nat.blt · n) = true := by exact rfl) :
    OpOk Try.prog n o s ((s.seth id (some (.row (cl f []) esz 0))).put d (.sl id 0 0 ([] : List α).length esz)) := ok_nilrow id esz ho hx hid hdd hd
section bin
variable {t u : TypeId} {x y : Operand} {k : IntKind} {a b : Int}
theorem q_add (ho : o.op = .binOp .add t x y u := by exact rfl) (hx : s.ev x = i64 a := by exact rfl) (hy : s.ev y = i64 b := by exact rfl)
    (h1 : -9223372036854775808 ≤ a + b := by first | omega | decide | (simp; omega) | (simp [*]; done)) (h2 : a + b ≤ 9223372036854775807 := by first | omega | decide | (simp; omega) | (simp [*]; done))
    (hdd : o.dst = d := by conv => lhs; whnf) (hd : d.all (Nat.blt · n) = true := by exact rfl) : OpOk Try.prog n o s (s.put d (i64 (a + b))) := ok_bin ho hx hy (bi_add h1 h2) hdd hd
theorem q_sub (ho : o.op = .binOp .sub t x y u := by exact rfl) (hx : s.ev x = i64 a := by exact rfl) (hy : s.ev y = i64 b := by exact rfl)
    (h1 : -9223372036854775808 ≤ a - b := by first | omega | decide | (simp; omega) | (simp [*]; done)) (h2 : a - b ≤ 9223372036854775807 := by first | omega | decide | (simp; omega) | (simp [*]; done))
    (hdd : o.dst = d := by conv => lhs; whnf) (hd : d.all (Nat.blt · n) = true := by exact rfl) : OpOk Try.prog n o s (s.put d (i64 (a - b))) := ok_bin ho hx hy (bi_sub h1 h2) hdd hd
theorem q_mul (ho : o.op = .binOp .mul t x y u := by exact rfl) (hx : s.ev x = i64 a := by exact rfl) (hy : s.ev y = i64 b := by exact rfl)
    (h1 : -9223372036854775808 ≤ a * b := by first | omega | decide | (simp; omega) | (simp [*]; done)) (h2 : a * b ≤ 9223372036854775807 := by first | omega | decide | (simp; omega) | (simp [*]; done))
    (hdd : o.dst = d := by conv => lhs; whnf) (hd : d.all (Nat.blt · n) = true := by exact rfl) : OpOk Try.prog n o s (s.put d (i64 (a * b))) := ok_bin ho hx hy (bi_mul h1 h2) hdd hd
theorem q_shr {k' : IntKind} (m : Nat) (ho : o.op = .binOp .shr t x y u := by exact rfl) (hx : s.ev x = .v (.int k a) := by exact rfl) (hy : s.ev y = .v (.int k' b) := by exact rfl)
    (hm : b = (m : Int) := by first | exact rfl | omega | simp) (h : m ≤ k.bits := by first | decide | (simp [IntKind.bits]; omega))
    (hdd : o.dst = d := by conv => lhs; whnf) (hd : d.all (Nat.blt · n) = true := by exact rfl) : OpOk Try.prog n o s (s.put d (.v (.int k (a / 2 ^ m)))) := ok_bin ho hx hy (bi_shr hm h) hdd hd
theorem q_eql (ho : o.op = .binOp .eql t x y u := by exact rfl) (hx : s.ev x = .v (.int k a) := by exact rfl) (hy : s.ev y = .v (.int k b) := by exact rfl)
    (hdd : o.dst = d := by conv => lhs; whnf) (hd : d.all (Nat.blt · n) = true := by exact rfl) : OpOk Try.prog n o s (s.put d (tf (decide (a = b)))) := ok_bin ho hx hy bd_eql hdd hd
theorem q_neq (ho : o.op = .binOp .neq t x y u := by exact rfl) (hx : s.ev x = .v (.int k a) := by exact rfl) (hy : s.ev y = .v (.int k b) := by exact rfl)
    (hdd : o.dst = d := by conv => lhs; whnf) (hd : d.all (Nat.blt · n) = true := by exact rfl) : OpOk Try.prog n o s (s.put d (tf (decide (¬ a = b)))) := ok_bin ho hx hy bd_neq hdd hd
theorem q_lss (ho : o.op = .binOp .lss t x y u := by exact rfl) (hx : s.ev x = .v (.int k a) := by exact rfl) (hy : s.ev y = .v (.int k b) := by exact rfl)
    (hdd : o.dst = d := by conv => lhs; whnf) (hd : d.all (Nat.blt · n) = true := by exact rfl) : OpOk Try.prog n o s (s.put d (tf (decide (a < b)))) := ok_bin ho hx hy br_lss hdd hd
theorem q_leq (ho : o.op = .binOp .leq t x y u := by exact rfl) (hx : s.ev x = .v (.int k a) := by exact rfl) (hy : s.ev y = .v (.int k b) := by exact rfl)
    (hdd : o.dst = d := by conv => lhs; whnf) (hd : d.all (Nat.blt · n) = true := by exact rfl) : OpOk Try.prog n o s (s.put d (tf (decide (a ≤ b)))) := ok_bin ho hx hy br_leq hdd hd
theorem q_gtr (ho : o.op = .binOp .gtr t x y u := by exact rfl) (hx : s.ev x = .v (.int k a) := by exact rfl) (hy : s.ev y = .v (.int k b) := by exact rfl)
    (hdd : o.dst = d := by conv => lhs; whnf) (hd : d.all (Nat.blt · n) = true := by exact rfl) : OpOk Try.prog n o s (s.put d (tf (decide (b < a)))) := ok_bin ho hx hy br_gtr hdd hd
theorem q_geq (ho : o.op = .binOp .geq t x y u := by exact rfl) (hx : s.ev x = .v (.int k a) := by exact rfl) (hy : s.ev y = .v (.int k b) := by exact rfl)
    (hdd : o.dst = d := by conv => lhs; whnf) (hd : d.all (Nat.blt · n) = true := by exact rfl) : OpOk Try.prog n o s (s.put d (tf (decide (b ≤ a)))) := ok_bin ho hx hy br_geq hdd hd
variable {p q : UInt8}
theorem wrap8 (m : Nat) : IntKind.u8.wrap (m : Int) = ((UInt8.ofNat m).toNat : Int) := by
  simp [IntKind.wrap, IntKind.signed, IntKind.bits, UInt8.toNat_ofNat']
theorem q_add8 (p q : UInt8) (ho : o.op = .binOp .add t x y u := by exact rfl) (hx : s.ev x = u8 p.toNat := by exact rfl) (hy : s.ev y = u8 q.toNat := by exact rfl)
    (hdd : o.dst = d := by conv => lhs; whnf) (hd : d.all (Nat.blt · n) = true := by exact rfl) : OpOk Try.prog n o s (s.put d (u8 (p + q).toNat)) := by
  have e : BinRes Try.prog .add t x y (.int .u8 p.toNat) (.int .u8 q.toNat) (.int .u8 (p + q).toNat) := by
    have := br_add (P := Try.prog) (t := t) (x := x) (y := y) (k := .u8) (a := p.toNat) (b := q.toNat)
    rw [← Int.natCast_add, wrap8] at this
    have h : UInt8.ofNat (p.toNat + q.toNat) = p + q := by simp [UInt8.ofNat_add]
    rwa [h] at this
  exact ok_bin ho hx hy e hdd hd
theorem q_sub8 (p q : UInt8) (ho : o.op = .binOp .sub t x y u := by exact rfl) (hx : s.ev x = u8 p.toNat := by exact rfl) (hy : s.ev y = u8 q.toNat := by exact rfl)
    (hdd : o.dst = d := by conv => lhs; whnf) (hd : d.all (Nat.blt · n) = true := by exact rfl) : OpOk Try.prog n o s (s.put d (u8 (p - q).toNat)) := by
  have e : BinRes Try.prog .sub t x y (.int .u8 p.toNat) (.int .u8 q.toNat) (.int .u8 (p - q).toNat) := by
    have := br_sub (P := Try.prog) (t := t) (x := x) (y := y) (k := .u8) (a := p.toNat) (b := q.toNat)
    have h : IntKind.u8.wrap ((p.toNat : Int) - q.toNat) = ((p - q).toNat : Int) := by
      have h1 := p.toNat_lt
      have h2 := q.toNat_lt
      rw [UInt8.toNat_sub]
      simp [IntKind.wrap, IntKind.signed, IntKind.bits]
      omega
    rwa [h] at this
  exact ok_bin ho hx hy e hdd hd
theorem q_quo8 (p q : UInt8) (ho : o.op = .binOp .quo t x y u := by exact rfl) (hx : s.ev x = u8 p.toNat := by exact rfl) (hy : s.ev y = u8 q.toNat := by exact rfl) (hq : 0 < q.toNat := by decide)
    (hdd : o.dst = d := by conv => lhs; whnf) (hd : d.all (Nat.blt · n) = true := by exact rfl) : OpOk Try.prog n o s (s.put d (u8 (p / q).toNat)) := by
  have e : BinRes Try.prog .quo t x y (.int .u8 p.toNat) (.int .u8 q.toNat) (.int .u8 (p / q).toNat) := by
    have := br_quo (P := Try.prog) (t := t) (x := x) (y := y) (k := .u8) (a := p.toNat) (b := q.toNat) (by omega)
    have h : IntKind.u8.wrap ((p.toNat : Int).tdiv q.toNat) = ((p / q).toNat : Int) := by
      rw [UInt8.toNat_div, ← Int.ofNat_tdiv, wrap8]
      have h1 := p.toNat_lt
      have h2 : p.toNat / q.toNat ≤ p.toNat := Nat.div_le_self _ _
      rw [UInt8.toNat_ofNat', Nat.mod_eq_of_lt (by omega)]
    rwa [h] at this
  exact ok_bin ho hx hy e hdd hd
theorem q_rem8 (p q : UInt8) (ho : o.op = .binOp .rem t x y u := by exact rfl) (hx : s.ev x = u8 p.toNat := by exact rfl) (hy : s.ev y = u8 q.toNat := by exact rfl) (hq : 0 < q.toNat := by decide)
    (hdd : o.dst = d := by conv => lhs; whnf) (hd : d.all (Nat.blt · n) = true := by exact rfl) : OpOk Try.prog n o s (s.put d (u8 (p % q).toNat)) := by
  have e : BinRes Try.prog .rem t x y (.int .u8 p.toNat) (.int .u8 q.toNat) (.int .u8 (p % q).toNat) := by
    have := bi_rem (P := Try.prog) (t := t) (x := x) (y := y) (k := .u8) (a := p.toNat) (b := q.toNat) (by omega) (by omega)
    rwa [show ((p.toNat : Int) % q.toNat) = ((p % q).toNat : Int) from by rw [UInt8.toNat_mod]; simp] at this
  exact ok_bin ho hx hy e hdd hd
theorem bits8 (p : UInt8) : BitVec.ofInt 8 (p.toNat : Int) = p.toBitVec := by
  apply BitVec.eq_of_toNat_eq
  have := p.toNat_lt
  simp [BitVec.toNat_ofInt]
theorem q_and8 (p q : UInt8) (ho : o.op = .binOp .and t x y u := by exact rfl) (hx : s.ev x = u8 p.toNat := by exact rfl) (hy : s.ev y = u8 q.toNat := by exact rfl)
    (hdd : o.dst = d := by conv => lhs; whnf) (hd : d.all (Nat.blt · n) = true := by exact rfl) : OpOk Try.prog n o s (s.put d (u8 (p &&& q).toNat)) := by
  have e : BinRes Try.prog .and t x y (.int .u8 p.toNat) (.int .u8 q.toNat) (.int .u8 (p &&& q).toNat) := by
    have := br_and (P := Try.prog) (t := t) (x := x) (y := y) (k := .u8) (a := p.toNat) (b := q.toNat)
    have h : IntKind.u8.wrap ((BitVec.ofInt IntKind.u8.bits (p.toNat : Int) &&& BitVec.ofInt IntKind.u8.bits (q.toNat : Int)).toNat : Int) = ((p &&& q).toNat : Int) := by
      show IntKind.u8.wrap ((BitVec.ofInt 8 (p.toNat : Int) &&& BitVec.ofInt 8 (q.toNat : Int)).toNat : Int) = _
      rw [bits8, bits8, ← UInt8.toBitVec_and]
      exact wrap_u8_nat _ (p &&& q).toNat_lt
    rwa [h] at this
  exact ok_bin ho hx hy e hdd hd
variable {l m : List UInt8}
theorem q_sadd (ho : o.op = .binOp .add t x y u := by exact rfl) (hx : s.ev x = str l := by exact rfl) (hy : s.ev y = str m := by exact rfl)
    (h : ((l.length + m.length : Nat) : Int) ≤ 9223372036854775807 := by first | omega | (simp; omega))
    (hdd : o.dst = d := by conv => lhs; whnf) (hd : d.all (Nat.blt · n) = true := by exact rfl) : OpOk Try.prog n o s (s.put d (str (l ++ m))) := ok_bin ho hx hy (br_sadd h) hdd hd
theorem q_seql (ho : o.op = .binOp .eql t x y u := by exact rfl) (hx : s.ev x = str l := by exact rfl) (hy : s.ev y = str m := by exact rfl)
    (hdd : o.dst = d := by conv => lhs; whnf) (hd : d.all (Nat.blt · n) = true := by exact rfl) : OpOk Try.prog n o s (s.put d (tf (decide (l = m)))) := ok_bin ho hx hy bd_seql hdd hd
theorem q_sneq (ho : o.op = .binOp .neq t x y u := by exact rfl) (hx : s.ev x = str l := by exact rfl) (hy : s.ev y = str m := by exact rfl)
    (hdd : o.dst = d := by conv => lhs; whnf) (hd : d.all (Nat.blt · n) = true := by exact rfl) : OpOk Try.prog n o s (s.put d (tf (decide (¬ l = m)))) := ok_bin ho hx hy bd_sneq hdd hd
end bin
theorem q_not {t : TypeId} {x : Operand} {b : Bool} (ho : o.op = .unOp .not t x := by exact rfl) (hx : s.ev x = tf b := by exact rfl) (hdd : o.dst = d := by conv => lhs; whnf) (hd : d.all (Nat.blt · n) = true := by exact rfl) :
    OpOk Try.prog n o s (s.put d (tf (!b))) := ok_not ho hx hdd hd
theorem q_pick {c x y : Operand} {b : Bool} {z : AV} (ho : o.op = .pick c x y := by exact rfl) (hc : s.ev c = tf b := by exact rfl) (hz : (bif b then s.ev x else s.ev y) = z := by conv => lhs; whnf)
    (hdd : o.dst = d := by conv => lhs; whnf) (hd : d.all (Nat.blt · n) = true := by exact rfl) : OpOk Try.prog n o s (s.put d z) := ok_pick ho hc hz hdd hd
theorem q_extract {x : Operand} {k : Nat} {l : List AV} {y : AV} (ho : o.op = .extract x k := by exact rfl) (hx : s.ev x = .tup l := by exact rfl) (hk : l[k]? = some y := by exact rfl)
    (hdd : o.dst = d := by conv => lhs; whnf) (hd : d.all (Nat.blt · n) = true := by exact rfl) : OpOk Try.prog n o s (s.put d y) := ok_extract ho hx hk hdd hd
theorem q_nil {x : Operand} {y : AV} (ho : o.op = .nilCheck x := by exact rfl) (hx : s.ev x = y := by conv => lhs; whnf) (hy : (match y with | .ptr .. | .fp .. => true | _ => false) = true := by exact rfl)
    (hdd : o.dst = d := by conv => lhs; whnf) (hd : d.all (Nat.blt · n) = true := by exact rfl) : OpOk Try.prog n o s (s.put d y) := ok_nil ho hx hy hdd hd
section conv
variable {src dst : TypeId} {x : Operand} {k : IntKind} {a : Int} {i j : TI} {p : UInt8} {l : List UInt8}
theorem q_conv_u8 (ho : o.op = .convert src dst x := by exact rfl) (hx : s.ev x = .v (.int k a) := by exact rfl) (hi : te.get src = some i := by exact rfl) (hj : te.get dst = some j := by exact rfl) (hk : j.k = .int .u8 := by exact rfl)
    (hdd : o.dst = d := by conv => lhs; whnf) (hd : d.all (Nat.blt · n) = true := by exact rfl) : OpOk Try.prog n o s (s.put d (u8 (byte a).toNat)) := ok_conv_u8 te_ok ho hx hi hj hk hdd hd
theorem q_conv_8i (ho : o.op = .convert src dst x := by exact rfl) (hx : s.ev x = u8 p.toNat := by exact rfl) (hi : te.get src = some i := by exact rfl) (hj : te.get dst = some j := by exact rfl) (hk : j.k = .int .i64 := by exact rfl)
    (hdd : o.dst = d := by conv => lhs; whnf) (hd : d.all (Nat.blt · n) = true := by exact rfl) : OpOk Try.prog n o s (s.put d (i64 p.toNat)) := by
  have := p.toNat_lt
  exact ok_conv_i64 te_ok ho hx hi hj hk (by omega) (by omega) hdd hd
end conv
theorem q_ixs {t : TypeId} {x y : Operand} {l : List UInt8} {k : IntKind} {i : Int} {ti : TI} (ho : o.op = .index t x y := by exact rfl) (hx : s.ev x = str l := by exact rfl) (hy : s.ev y = .v (.int k i) := by exact rfl)
    (ht : te.get t = some ti := by exact rfl) (hk : ti.k = .str := by exact rfl) (h0 : 0 ≤ i := by first | omega | (simp; omega) | decide) (hc : i < l.length := by first | omega | (simp; omega) | decide)
    (hdd : o.dst = d := by conv => lhs; whnf) (hd : d.all (Nat.blt · n) = true := by exact rfl) : OpOk Try.prog n o s (s.put d (u8 (l.getD i.toNat 0).toNat)) := ok_index_strD te_ok ho hx hy ht hk h0 hc hdd hd
theorem q_sls {t : TypeId} {x : Operand} {lo hi : Operand} {l : List UInt8} {k k' : IntKind} {i j : Int} {ti : TI} (ho : o.op = .slice t x (some lo) (some hi) none := by exact rfl) (hx : s.ev x = str l := by exact rfl)
    (hl : s.ev lo = .v (.int k i) := by exact rfl) (hh : s.ev hi = .v (.int k' j) := by exact rfl) (ht : te.get t = some ti := by exact rfl) (hk : ti.k = .str := by exact rfl)
    (h0 : 0 ≤ i := by first | omega | (simp; omega) | decide) (h1 : i ≤ j := by first | omega | (simp; omega) | decide) (h2 : j ≤ l.length := by first | omega | (simp; omega) | decide)
    (hdd : o.dst = d := by conv => lhs; whnf) (hd : d.all (Nat.blt · n) = true := by exact rfl) : OpOk Try.prog n o s (s.put d (str ((l.take j.toNat).drop i.toNat))) :=
  ok_slice_str te_ok ho hx ht hk (bnd_some hh (by omega) rfl) (bnd_some hl h0 rfl) (by omega) (by omega) rfl hdd hd
theorem q_sls_lo {t : TypeId} {x : Operand} {lo : Operand} {l : List UInt8} {k : IntKind} {i : Int} {ti : TI} (ho : o.op = .slice t x (some lo) none none := by exact rfl) (hx : s.ev x = str l := by exact rfl)
    (hl : s.ev lo = .v (.int k i) := by exact rfl) (ht : te.get t = some ti := by exact rfl) (hk : ti.k = .str := by exact rfl)
    (h0 : 0 ≤ i := by first | omega | (simp; omega) | decide) (h1 : i ≤ l.length := by first | omega | (simp; omega) | decide)
    (hdd : o.dst = d := by conv => lhs; whnf) (hd : d.all (Nat.blt · n) = true := by exact rfl) : OpOk Try.prog n o s (s.put d (str (l.drop i.toNat))) :=
  ok_slice_str te_ok ho hx ht hk bnd_none (bnd_some hl h0 rfl) (by omega) (Nat.le_refl _) (by rw [List.take_length]) hdd hd
theorem q_len_str {t : TypeId} {x : Operand} {l : List UInt8} {ti : TI} (ho : o.op = .call { callee := .builtin .len, args := #[x], argTypes := #[t] } := by exact rfl) (hx : s.ev x = str l := by exact rfl)
    (ht : te.get t = some ti := by exact rfl) (hk : ti.k = .str := by exact rfl)
    (hdd : o.dst = d := by conv => lhs; whnf) (hd : d.all (Nat.blt · n) = true := by exact rfl) : OpOk Try.prog n o s (s.put d (i64 l.length)) := ok_len_str (u := 0) te_ok ho hx ht hk hdd hd
theorem q_len {t e : TypeId} {x : Operand} {m : Nat} {y : AV} {ti : TI} (ho : o.op = .call { callee := .builtin .len, args := #[x], argTypes := #[t] } := by exact rfl) (hx : s.ev x = y := by conv => lhs; whnf)
    (hm : y.len? = some m := by exact rfl) (ht : te.get t = some ti := by exact rfl) (hk : ti.k = .slice e := by exact rfl)
    (hdd : o.dst = d := by conv => lhs; whnf) (hd : d.all (Nat.blt · n) = true := by exact rfl) : OpOk Try.prog n o s (s.put d (i64 m)) := ok_len_sl te_ok ho hx hm ht hk hdd hd
end
end Go.Proofs.Ytfojdjlhpejbpaa.Fw


set_option linter.unusedVariables false
set_option linter.unusedSimpArgs false
namespace Go.Proofs.Ytfojdjlhpejbpaa.Fw
open Go.RowKit
theorem cl_at {α : Type} [Inhabited α] {f : α → List AV} {e : Nat} (hf : ∀ x, (f x).length = e) : ∀ {l : List α} {i : Nat}, i < l.length → ((cl f l).drop (i * e)).take e = f (l.getD i default)
  | [], i, h => by simp at h
  | a :: l, 0, _ => by
    rw [cl_cons, Nat.zero_mul, List.drop_zero, List.take_append_of_le_length (by rw [hf]; omega), List.take_of_length_le (by rw [hf]; omega)]
    rfl
  | a :: l, i + 1, h => by
    have := cl_at (l := l) (i := i) hf (by simpa using h)
    rw [cl_cons, Nat.add_mul, Nat.one_mul, Nat.add_comm (i * e) e, ← List.drop_drop, List.drop_append_of_le_length (by rw [hf]; omega), List.drop_of_length_le (l := f a) (by rw [hf]; omega), List.nil_append, this]
    rfl
theorem cl_set {α : Type} {f : α → List AV} {e : Nat} (hf : ∀ x, (f x).length = e) (a : α) : ∀ {l : List α} {i : Nat}, i < l.length → (cl f l).take (i * e) ++ f a ++ (cl f l).drop (i * e + (f a).length) = cl f (l.set i a)
  | [], i, h => by simp at h
  | b :: l, 0, _ => by
    rw [List.set_cons_zero, cl_cons, cl_cons, Nat.zero_mul, List.take_zero, List.nil_append, Nat.zero_add, hf, List.drop_append_of_le_length (by rw [hf]; omega), List.drop_of_length_le (l := f b) (by rw [hf]; omega), List.nil_append]
  | b :: l, i + 1, h => by
    have := cl_set (l := l) (i := i) hf a (by simpa using h)
    have e1 : (i + 1) * e = e + i * e := by rw [Nat.add_mul]; omega
    rw [List.set_cons_succ, cl_cons, cl_cons, e1, ← this, List.take_append, hf, List.take_of_length_le (by rw [hf]; omega), Nat.add_sub_cancel_left, Nat.add_assoc, ← List.drop_drop, List.drop_append_of_le_length (by rw [hf]; omega), List.drop_of_length_le (l := f b) (by rw [hf]; omega), List.nil_append]
    simp [List.append_assoc]
theorem cl_oks {α : Type} {f : α → List AV} {l : List α} {lv : Nat} (h : ∀ x, AV.oks lv (f x) = true) : AV.oks lv (cl f l) = true := AV.oks_of fun c hc => cl_mem (p := fun c => c.ok lv = true) (fun x _ c hc => AV.oks_iff.1 (h x) c hc) c hc
theorem cl_all {α : Type} {f : α → List AV} {l : List α} {p : AV → Bool} (h : ∀ x, (f x).all p = true) : ∀ c ∈ cl f l, p c = true := cl_mem fun x _ => List.all_eq_true.1 (h x)
inductive ObAt : AObj → Nat → List AV → Prop
  | box {ty c} : ObAt (.gbox ty c) 0 c
  | row {ty c e v} : ObAt (.grow ty c e v) v c
theorem ObAt.at {ob : AObj} {v : Nat} {c : List AV} (h : ObAt ob v c) : ob.at v = some c := by
  cases h with
  | box => rfl
  | row =>
    simp only [AObj.at]
    rw [show Nat.beq v v = true from by simp]
    rfl
section
variable {n : Nat} {s : AS} {o : Oper} {d : Option Tmp} {Q : APost}
theorem q_conv_ls {src dst e id ver len : Nat} {x : Operand} {l : List UInt8} {i j tj : TI} {ob : AObj} (ho : o.op = .convert src dst x := by exact rfl) (hx : s.ev x = .sl id ver 0 len 1 := by exact rfl) (hob : s.h id = some ob := by exact rfl)
    (hat : ObAt ob ver (cl bc l) := by exact .row) (hlen : len = l.length := by first | exact rfl | (simp; done) | omega) (hi : te.get src = some i := by exact rfl) (hk : i.k = .slice e := by exact rfl)
    (he : te.get e = some tj := by exact rfl) (hk2 : tj.k = .int .u8 := by exact rfl) (hj : te.get dst = some j := by exact rfl) (hk3 : j.k = .str := by exact rfl)
    (hdd : o.dst = d := by conv => lhs; whnf) (hd : d.all (Nat.blt · n) = true := by exact rfl) : OpOk Try.prog n o s (s.put d (str l)) := by
  subst hlen
  exact ok_conv_bytes te_ok ho hx (.inr (.inr ⟨id, ver, 0, ob, _, rfl, hob, hat.at, by rw [List.drop_zero, List.take_of_length_le (by rw [bs_length]; omega)]⟩)) hi hk he hk2 hj hk3 hdd hd
inductive PtrTo (s : AS) (off sz : Nat) : AV → AV → Prop
  | fp {lv cells} (h : ((cells.drop off).take sz).length = sz) : PtrTo s off sz (.fp lv cells) (.fp lv ((cells.drop off).take sz))
  | ptr {id ver po ob cells} (hob : s.h id = some ob) (hat : ObAt ob ver cells) : PtrTo s off sz (.ptr id ver po) (.ptr id ver (po + off))
theorem q_fa {t ft : TypeId} {x : Operand} {f off : Nat} {l : List (Nat × TypeId)} {ti tj : TI} {y z z' : AV} (ho : o.op = .fieldAddr t x f := by exact rfl) (hx : s.ev x = y := by conv => lhs; whnf)
    (ht : te.get t = some ti := by exact rfl) (hk : ti.k = .struct l := by exact rfl) (hf : l[f]? = some (off, ft) := by exact rfl) (hj : te.get ft = some tj := by exact rfl) (hp : 0 < tj.size := by exact Nat.le_of_ble_eq_true rfl)
    (hz : PtrTo s off tj.size y z := by first | exact .fp rfl | exact .ptr rfl .box | exact .ptr rfl .row) (hz' : z = z' := by conv => lhs; whnf)
    (hdd : o.dst = d := by conv => lhs; whnf) (hd : d.all (Nat.blt · n) = true := by exact rfl) : OpOk Try.prog n o s (s.put d z') := by
  subst hz'
  cases hz with
  | fp h => exact ok_fieldAddr_fp te_ok ho hx ht hk hf hj hp rfl h hdd hd
  | ptr hob hat => exact ok_fieldAddr_ptr te_ok ho hx ht hk hf hj hp ⟨_, hob, by cases hat <;> rfl⟩ hdd hd
inductive LoadTo (s : AS) (sz : Nat) : AV → List AV → Prop
  | fp {lv cells} (h : cells.length = sz) : LoadTo s sz (.fp lv cells) cells
  | ptr {id ver po ob cells} (hob : s.h id = some ob) (hat : ObAt ob ver cells) (h : ((cells.drop po).take sz).length = sz) : LoadTo s sz (.ptr id ver po) ((cells.drop po).take sz)
  | el {α : Type} [Inhabited α] {id ver j ob} {f : α → List AV} {l : List α} (hob : s.h id = some ob) (hat : ObAt ob ver (cl f l)) (hf : ∀ x, (f x).length = sz) (hj : j < l.length) : LoadTo s sz (.ptr id ver (j * sz)) (f (l.getD j default))
  | el1 {α : Type} [Inhabited α] {id ver j ob} {f : α → List AV} {l : List α} (hsz : sz = 1) (hob : s.h id = some ob) (hat : ObAt ob ver (cl f l)) (hf : ∀ x, (f x).length = 1) (hj : j < l.length) : LoadTo s sz (.ptr id ver j) (f (l.getD j default))
theorem q_load {t : TypeId} {x : Operand} {ti : TI} {y z : AV} {cs : List AV} (ho : o.op = .load t x := by exact rfl) (hx : s.ev x = y := by conv => lhs; whnf) (ht : te.get t = some ti := by exact rfl) (hp : 0 < ti.size := by exact Nat.le_of_ble_eq_true rfl)
    (hz : LoadTo s ti.size y cs := by first | exact .fp rfl | exact .ptr rfl .box rfl | exact .ptr rfl .row rfl | exact .el rfl .row (fun _ => rfl) (by first | omega | (simp; omega)) | exact .el rfl .box (fun _ => rfl) (by first | omega | (simp; omega)) | exact .el1 rfl rfl .row (fun _ => rfl) (by first | omega | (simp; omega)) | exact .el1 rfl rfl .box (fun _ => rfl) (by first | omega | (simp; omega)))
    (hy : mkAV ti.k.agg cs = z := by conv => lhs; whnf) (hdd : o.dst = d := by conv => lhs; whnf) (hd : d.all (Nat.blt · n) = true := by exact rfl) : OpOk Try.prog n o s (s.put d z) := by
  cases hz with
  | fp h => exact ok_load_fp te_ok ho hx ht h hp hy hdd hd
  | ptr hob hat h => exact ok_load_ptr te_ok ho hx hob hat.at ht rfl h hp hy hdd hd
  | el hob hat hf hj =>
    have e := cl_at hf hj
    exact ok_load_ptr te_ok ho hx hob hat.at ht e (hf _) hp hy hdd hd
  | @el1 α _ id ver j ob f l hsz hob hat hf hj =>
    have e := cl_at (i := j) hf hj
    rw [Nat.mul_one] at e
    exact ok_load_ptr te_ok ho hx hob hat.at ht (by rw [hsz]; exact e) (by rw [hsz]; exact hf _) hp hy hdd hd
inductive IxTo (s : AS) (i e : Nat) : AV → AV → Prop
  | fz {α : Type} [Inhabited α] {lv} {f : α → List AV} {l : List α} (hf : ∀ x, (f x).length = e) : IxTo s i e (.fz lv l.length (cl f l)) (.fp lv (f (l.getD i default)))
  | sl0 {id ver len ob cells} (hob : s.h id = some ob) (hat : ObAt ob ver cells) : IxTo s i e (.sl id ver 0 len e) (.ptr id ver (i * e))
  | sl {id ver off len ob cells} (hob : s.h id = some ob) (hat : ObAt ob ver cells) : IxTo s i e (.sl id ver off len e) (.ptr id ver (off + i * e))
theorem q_ix {t e : TypeId} {x y : Operand} {k : IntKind} {i : Int} {ti tj : TI} {a z : AV} {m : Nat} (ho : o.op = .indexAddr t x y := by exact rfl) (hx : s.ev x = a := by conv => lhs; whnf) (hy : s.ev y = .v (.int k i) := by exact rfl)
    (ht : te.get t = some ti := by exact rfl) (hk : ti.k = .slice e := by exact rfl) (he : te.get e = some tj := by exact rfl) (hm : a.len? = some m := by exact rfl)
    (h0 : 0 ≤ i := by first | omega | decide | (simp; omega)) (h1 : i < m := by first | omega | decide | (simp; omega)) (hp : 0 < tj.size := by exact Nat.le_of_ble_eq_true rfl)
    (hz : IxTo s i.toNat tj.size a z := by first | exact .fz (fun _ => rfl) | exact .sl0 rfl .row | exact .sl0 rfl .box | exact .sl rfl .row | exact .sl rfl .box)
    (hdd : o.dst = d := by conv => lhs; whnf) (hd : d.all (Nat.blt · n) = true := by exact rfl) : OpOk Try.prog n o s (s.put d z) := by
  cases hz with
  | fz hf =>
    simp only [AV.len?, Option.some.injEq] at hm
    subst hm
    exact ok_indexAddr_fz te_ok ho hx hy ht hk he h0 h1 (cl_at hf (by omega)) (hf _) hp hdd hd
  | sl0 hob hat =>
    simp only [AV.len?, Option.some.injEq] at hm
    subst hm
    have := ok_indexAddr_sl (P := Try.prog) (n := n) (s := s) te_ok ho hx hy ht hk he h0 h1 hob hat.at hdd hd
    simpa using this
  | sl hob hat =>
    simp only [AV.len?, Option.some.injEq] at hm
    subst hm
    exact ok_indexAddr_sl te_ok ho hx hy ht hk he h0 h1 hob hat.at hdd hd
theorem q_ixa {t e : TypeId} {x y : Operand} {id ver po po' len : Nat} {k : IntKind} {i : Int} {ob : AObj} {cells : List AV} {ti tj : TI} (ho : o.op = .indexAddr t x y := by exact rfl)
    (hx : s.ev x = .ptr id ver po := by exact rfl) (hy : s.ev y = .v (.int k i) := by exact rfl) (ht : te.get t = some ti := by exact rfl) (hk : ti.k = .arr len e := by exact rfl) (he : te.get e = some tj := by exact rfl)
    (h0 : 0 ≤ i := by first | omega | decide | (simp; omega)) (h1 : i < len := by first | omega | decide | (simp; omega)) (hob : s.h id = some ob := by exact rfl) (hat : ObAt ob ver cells := by first | exact .box | exact .row)
    (hpo : po + i.toNat * tj.size = po' := by first | (conv => lhs; rw [Nat.zero_add]) | exact rfl)
    (hdd : o.dst = d := by conv => lhs; whnf) (hd : d.all (Nat.blt · n) = true := by exact rfl) : OpOk Try.prog n o s (s.put d (.ptr id ver po')) :=
  hpo ▸ ok_indexAddr_ptr te_ok ho hx hy ht hk he h0 h1 hob hat.at hdd hd
inductive StoreTo (s : AS) : AV → List AV → AObj → Nat → Prop
  | ptr {id ver po ob cells cs c'} (hob : s.h id = some ob) (hat : ObAt ob ver cells) (hb : po + cs.length ≤ cells.length) (hp : 0 < cells.length) (hc : cells.take po ++ cs ++ cells.drop (po + cs.length) = c') :
      StoreTo s (.ptr id ver po) cs (ob.withCells c') id
  | whole {id ver ob cells cs} (hob : s.h id = some ob) (hat : ObAt ob ver cells) (hl : cs.length = cells.length) (hp : 0 < cells.length) : StoreTo s (.ptr id ver 0) cs (ob.withCells cs) id
  | el {α : Type} {id ver j sz ob cs} {f : α → List AV} {l : List α} {a : α} (hob : s.h id = some ob) (hat : ObAt ob ver (cl f l)) (hcs : f a = cs) (hf : ∀ x, (f x).length = sz) (h0 : 0 < sz) (hj : j < l.length) : StoreTo s (.ptr id ver (j * sz)) cs (ob.withCells (cl f (l.set j a))) id
  | el1 {α : Type} {id ver j ob cs} {f : α → List AV} {l : List α} {a : α} (hob : s.h id = some ob) (hat : ObAt ob ver (cl f l)) (hcs : f a = cs) (hf : ∀ x, (f x).length = 1) (hj : j < l.length) : StoreTo s (.ptr id ver j) cs (ob.withCells (cl f (l.set j a))) id
theorem q_store {t : TypeId} {x y : Operand} {id : Nat} {ob' ob'' : AObj} {ti : TI} {p v : AV} {cs : List AV} (ho : o.op = .store t x y := by exact rfl) (hx : s.ev x = p := by conv => lhs; whnf) (hy : s.ev y = v := by conv => lhs; whnf)
    (hf : v.flat = some cs := by exact rfl) (h1 : cs.all AV.one = true := by exact rfl) (ht : te.get t = some ti := by exact rfl) (hl : cs.length = ti.size := by exact rfl)
    (hs : StoreTo s p cs ob' id := by first | exact .whole rfl .box rfl (Nat.le_of_ble_eq_true rfl) | exact .ptr rfl .box (Nat.le_of_ble_eq_true rfl) (Nat.le_of_ble_eq_true rfl) (by first | (simp only [List.take_succ_cons, List.take_zero, List.drop_succ_cons, List.drop_zero, List.drop_nil, List.take_nil, List.nil_append, List.cons_append, List.append_nil]; rfl) | exact rfl) | exact .el rfl .row rfl (fun _ => rfl) (Nat.le_of_ble_eq_true rfl) (by first | omega | (simp; omega)) | exact .el rfl .box rfl (fun _ => rfl) (Nat.le_of_ble_eq_true rfl) (by first | omega | (simp; omega)) | exact .el1 rfl .row rfl (fun _ => rfl) (by first | omega | (simp; omega)) | exact .el1 rfl .box rfl (fun _ => rfl) (by first | omega | (simp; omega)))
    (hw : ob' = ob'' := by conv => lhs; whnf) (hdd : o.dst = d := by conv => lhs; whnf) (hd : d.all (Nat.blt · n) = true := by exact rfl) : OpOk Try.prog n o s ((s.seth id (some ob'')).put d (.v undef)) := by
  subst hw
  cases hs with
  | ptr hob hat hb hp hc => exact ok_store_ptr te_ok ho hx hy hf h1 hob hat.at ht hl hb hp hc hdd hd
  | @whole _ ver ob cells _ hob hat hl2 hp => exact ok_store_ptr te_ok ho hx hy hf h1 hob hat.at ht hl (by omega) hp (by rw [List.take_zero, List.nil_append, List.drop_of_length_le (by omega), List.append_nil]) hdd hd
  | @el α _ ver j sz ob _ f l a hob hat hcs hf2 h0 hj =>
    subst hcs
    have h3 := cl_length hf2 l
    have h4 : (j + 1) * sz ≤ l.length * sz := Nat.mul_le_mul_right sz hj
    rw [Nat.add_mul, Nat.one_mul] at h4
    exact ok_store_ptr te_ok ho hx hy hf h1 hob hat.at ht hl (by rw [hf2, h3]; omega) (by rw [h3]; omega) (cl_set hf2 a hj) hdd hd
  | @el1 α _ ver j ob _ f l a hob hat hcs hf2 hj =>
    subst hcs
    have h3 := cl_length hf2 l
    have h4 := cl_set hf2 a hj
    rw [Nat.mul_one] at h4
    exact ok_store_ptr te_ok ho hx hy hf h1 hob hat.at ht hl (by rw [hf2, h3]; omega) (by rw [h3]; omega) h4 hdd hd
theorem q_alloc (id : Nat) {t : TypeId} {ti : TI} {zs : List AV} (ho : o.op = .alloc t := by exact rfl) (ht : te.get t = some ti := by exact rfl) (hid : s.h id = none := by exact rfl)
    (hz : ti.zero.map (fun z => AV.v z.val) = zs := by first | (simp only [List.map_cons, List.map_nil, ZC.val]; rfl) | exact rfl) (hdd : o.dst = d := by conv => lhs; whnf) (hd : d.all (Nat.blt · n) = true := by exact rfl) :
    OpOk Try.prog n o s ((s.seth id (some (.box zs))).put d (.ptr id 0 0)) := ok_alloc te_ok ho ht hid hz hdd hd
theorem q_buildA {α : Type} (f : α → List AV) (xs : List α) (vals : List (Nat × AV)) {t e : TypeId} {m : Nat} {parts : Array (Nat × Operand)} {ti tj : TI} {cs : List AV} (ho : o.op = .build t parts := by exact rfl)
    (hv : EvL s parts.toList vals := by repeat' (first | exact trivial | refine ⟨rfl, ?_, ?_⟩ | (conv => lhs; whnf))) (ht : te.get t = some ti := by exact rfl) (hk : ti.k = .arr m e := by exact rfl) (he : te.get e = some tj := by exact rfl)
    (hcs : fillAV (arrPlace tj.size) (ti.zero.map fun z => AV.v z.val) vals = some cs := by exact rfl) (hc' : cs = cl f xs := by first | (simp only [List.take_succ_cons, List.take_zero, List.drop_succ_cons, List.drop_zero, List.drop_nil, List.take_nil, List.nil_append, List.cons_append, List.append_nil, List.map_cons, List.map_nil, ZC.val, repZ]; exact rfl) | exact rfl)
    (hdd : o.dst = d := by conv => lhs; whnf) (hd : d.all (Nat.blt · n) = true := by exact rfl) : OpOk Try.prog n o s (s.put d (.agg (cl f xs))) := hc' ▸ ok_build_arr2 te_ok ho hv ht hk he hcs rfl hdd hd
theorem q_bs (id : Nat) {α : Type} (f : α → List AV) (xs : List α) (vals : List (Nat × AV)) {t e : TypeId} {m : Nat} {parts : Array (Nat × Operand)} {ti tj : TI} {cs : List AV} (ho : o.op = .buildSlice t m parts := by exact rfl)
    (hv : EvL s parts.toList vals := by repeat' (first | exact trivial | refine ⟨rfl, ?_, ?_⟩ | (conv => lhs; whnf))) (ht : te.get t = some ti := by exact rfl) (hk : ti.k = .slice e := by exact rfl) (he : te.get e = some tj := by exact rfl)
    (hid : s.h id = none := by exact rfl) (hcs : fillAV (arrPlace tj.size) (repZ tj.zero m) vals = some cs := by exact rfl)
    (hc' : cs = cl f xs := by first | (simp only [List.take_succ_cons, List.take_zero, List.drop_succ_cons, List.drop_zero, List.drop_nil, List.take_nil, List.nil_append, List.cons_append, List.append_nil, List.map_cons, List.map_nil, ZC.val, repZ]; exact rfl) | exact rfl)
    (hz : Nat.beq tj.zero.length tj.size = true := by exact rfl) (hsm : Nat.ble (m * tj.size) 1000 = true := by exact rfl) (hm : m = xs.length := by exact rfl)
    (hdd : o.dst = d := by conv => lhs; whnf) (hd : d.all (Nat.blt · n) = true := by exact rfl) : OpOk Try.prog n o s ((s.seth id (some (.row (cl f xs) tj.size 0))).put d (.sl id 0 0 xs.length tj.size)) := by
  subst hm
  exact ok_buildSlice2 te_ok ho hv ht hk he hid hcs hc' hz hsm hdd hd
inductive SlTo (i j : Nat) (e : Nat) : Option Operand → Option Operand → AV → AV → Prop
  | fz_all {α : Type} {lv} {f : α → List AV} {l : List α} (hf : ∀ x, (f x).length = e) : SlTo i j e none none (.fz lv l.length (cl f l)) (.fz lv l.length (cl f l))
  | fz_hi {x} {α : Type} {lv} {f : α → List AV} {l : List α} (hf : ∀ x, (f x).length = e) : SlTo i j e none (some x) (.fz lv l.length (cl f l)) (.fz lv (l.take j).length (cl f (l.take j)))
  | fz_lo {x} {α : Type} {lv} {f : α → List AV} {l : List α} (hf : ∀ x, (f x).length = e) : SlTo i j e (some x) none (.fz lv l.length (cl f l)) (.fz lv (l.drop i).length (cl f (l.drop i)))
  | fz {lo hi} {α : Type} {lv} {f : α → List AV} {l : List α} (hf : ∀ x, (f x).length = e) : SlTo i j e lo hi (.fz lv l.length (cl f l)) (.fz lv ((l.take j).drop i).length (cl f ((l.take j).drop i)))
  | sl_all {id ver off len} : SlTo i j e none none (.sl id ver off len e) (.sl id ver off len e)
  | sl_hi {x} {id ver off len} : SlTo i j e none (some x) (.sl id ver off len e) (.sl id ver off j e)
  | sl_lo {x} {id ver off len} : SlTo i j e (some x) none (.sl id ver off len e) (.sl id ver (off + i * e) (len - i) e)
  | sl {lo hi} {id ver off len} : SlTo i j e lo hi (.sl id ver off len e) (.sl id ver (off + i * e) (j - i) e)
inductive SlBase (i j : Nat) (e : Nat) : AV → AV → Prop
  | fz {α : Type} {lv} {f : α → List AV} {l : List α} (hf : ∀ x, (f x).length = e) : SlBase i j e (.fz lv l.length (cl f l)) (.fz lv ((l.take j).drop i).length (cl f ((l.take j).drop i)))
  | sl {id ver off len} : SlBase i j e (.sl id ver off len e) (.sl id ver (off + i * e) (j - i) e)
theorem SlTo.base {i j e : Nat} {lo hi : Option Operand} {a z : AV} {m : Nat} (h : SlTo i j e lo hi a z) (hm : a.len? = some m) (h1 : lo = none → i = 0) (h2 : hi = none → j = m) : SlBase i j e a z := by
  cases h with
  | @fz_all α lv f l hf =>
    simp only [AV.len?, Option.some.injEq] at hm
    obtain rfl := h1 rfl
    obtain rfl := (h2 rfl).trans hm.symm
    have := SlBase.fz (i := 0) (j := l.length) (lv := lv) (l := l) hf
    simpa using this
  | @fz_hi x α lv f l hf =>
    obtain rfl := h1 rfl
    have := SlBase.fz (i := 0) (j := j) (lv := lv) (l := l) hf
    simpa using this
  | @fz_lo x α lv f l hf =>
    simp only [AV.len?, Option.some.injEq] at hm
    obtain rfl := (h2 rfl).trans hm.symm
    have := SlBase.fz (i := i) (j := l.length) (lv := lv) (l := l) hf
    simpa using this
  | fz hf => exact .fz hf
  | @sl_all id ver off len =>
    simp only [AV.len?, Option.some.injEq] at hm
    obtain rfl := h1 rfl
    obtain rfl := (h2 rfl).trans hm.symm
    have := SlBase.sl (i := 0) (j := j) (e := e) (id := id) (ver := ver) (off := off) (len := j)
    simpa using this
  | @sl_hi x id ver off len =>
    obtain rfl := h1 rfl
    have := SlBase.sl (i := 0) (j := j) (e := e) (id := id) (ver := ver) (off := off) (len := len)
    simpa using this
  | @sl_lo x id ver off len =>
    simp only [AV.len?, Option.some.injEq] at hm
    obtain rfl := (h2 rfl).trans hm.symm
    exact .sl
  | sl => exact .sl
inductive SrcTo (s : AS) (y : Operand) : {α : Type} → (α → List AV) → Nat → List α → Prop
  | str {l : List UInt8} (hy : s.ev y = str l) : SrcTo s y bc 1 l
  | nil {α : Type} {f : α → List AV} {e k : Nat} (hy : s.ev y = .v (.slice none 0 k)) : SrcTo s y f e []
  | fz {α : Type} {f : α → List AV} {e lv : Nat} {l : List α} (hy : s.ev y = .fz lv l.length (cl f l)) (hf : ∀ x, (f x).length = e) : SrcTo s y f e l
  | sl {α : Type} {f : α → List AV} {e id ver : Nat} {l : List α} {ob : AObj} (hy : s.ev y = .sl id ver 0 l.length e) (hob : s.h id = some ob) (hat : ObAt ob ver (cl f l)) (hf : ∀ x, (f x).length = e) : SrcTo s y f e l
theorem SrcTo.src {y : Operand} {α : Type} {f : α → List AV} {e : Nat} {m : List α} (h : SrcTo s y f e m) : Src Try.prog n s y e m.length (cl f m) := by
  cases h with
  | str hy => exact src_str hy (bs_map _).symm
  | nil hy => exact src_nil hy
  | fz hy hf => exact src_fz hy (cl_length hf _)
  | sl hy hob hat hf => exact src_sl hy hob hat.at (by rw [List.drop_zero, List.take_of_length_le (by rw [cl_length hf]; omega)]) (cl_length hf _)
theorem q_app {t t2 e : TypeId} {x y : Operand} {id ver esz bt : Nat} {ty : Option TypeId} {α : Type} {f : α → List AV} {l m : List α} {ti tj tk : TI} (ho : o.op = .call { callee := .builtin .append, args := #[x, y], argTypes := #[t, t2] } := by exact rfl)
    (hx : s.ev x = .sl id ver 0 l.length esz := by exact rfl) (hob : s.h id = some (.grow ty (cl f l) esz ver) := by exact rfl) (ht : te.get t = some ti := by exact rfl) (hk : ti.k = .slice e := by exact rfl) (he : te.get e = some tj := by exact rfl)
    (hty : ty.getD e = e := by exact rfl) (hesz : tj.size = esz := by exact rfl) (hbt : tj.bytes = bt := by conv => lhs; whnf) (ht2 : te.get t2 = some tk := by exact rfl) (hk2 : (match tk.k with | .slice _ | .str => true | _ => false) = true := by exact rfl)
    (hsrc : SrcTo s y f esz m := by first | exact .sl rfl rfl .row (fun _ => rfl) | exact .fz rfl (fun _ => rfl) | exact .str rfl | exact .nil rfl) (hf : ∀ x, (f x).length = esz := by exact fun _ => rfl) (h1 : ∀ x, (f x).all AV.one = true := by exact fun _ => rfl)
    (hb : (l.length + m.length) * bt ≤ 140737488355328 := by first | omega | (simp; omega)) (hbp : 0 < bt := by exact Nat.le_of_ble_eq_true rfl)
    (hdd : o.dst = d := by conv => lhs; whnf) (hd : d.all (Nat.blt · n) = true := by exact rfl) : OpOk Try.prog n o s ((s.seth id (some (.grow ty (cl f (l ++ m)) esz (ver + 1)))).put d (.sl id (ver + 1) 0 (l ++ m).length esz)) := by
  subst hesz
  subst hbt
  rw [List.length_append, cl_append]
  have hle : l.length + m.length ≤ (l.length + m.length) * tj.bytes := Nat.le_mul_of_pos_right _ hbp
  exact ok_append_sl te_ok hty ho hx hob (by rw [Nat.zero_add, cl_length hf]) ht hk he rfl ht2 hk2 hsrc.src (cl_all h1) (by rw [List.drop_zero]) hb (by omega) hdd hd
end
end Go.Proofs.Ytfojdjlhpejbpaa.Fw


set_option linter.unusedVariables false
set_option linter.unusedSimpArgs false
namespace Go.Proofs.Ytfojdjlhpejbpaa.Fw
open Go.RowKit
mutual
theorem AV.refs_mono {S S' : Nat → Bool} (h : ∀ i, S i = true → S' i = true) : ∀ {x : AV}, x.refs S = true → x.refs S' = true
  | .v _, _ | .any, _ | .bl, _ | .fz .., _ | .fp .., _ => rfl
  | .ptr .., h1 | .sl .., h1 | .mp .., h1 | .dp .., h1 => by
    simp only [AV.refs] at h1 ⊢
    exact h _ h1
  | .agg cs, h1 | .tup cs, h1 => by
    simp only [AV.refs] at h1 ⊢
    exact AV.refss_mono h h1
  | .fn _ a b, h1 => by
    simp only [AV.refs, Bool.and_eq_true] at h1 ⊢
    exact ⟨AV.refss_mono h h1.1, AV.refss_mono h h1.2⟩
  | .ifc _ x, h1 => by
    simp only [AV.refs] at h1 ⊢
    exact AV.refs_mono h h1
theorem AV.refss_mono {S S' : Nat → Bool} (h : ∀ i, S i = true → S' i = true) : ∀ {x : List AV}, AV.refss S x = true → AV.refss S' x = true
  | [], _ => rfl
  | c :: cs, h1 => by
    simp only [AV.refss, Bool.and_eq_true] at h1 ⊢
    exact ⟨AV.refs_mono h h1.1, AV.refss_mono h h1.2⟩
end
theorem ObjIn.mono {S S' : Nat → Bool} (h : ∀ i, S i = true → S' i = true) {ob : AObj} (k : ObjIn S ob) : ObjIn S' ob := by
  cases ob with
  | gbox ty c => exact AV.refss_mono h k
  | grow ty c e v => exact AV.refss_mono h k
  | map es => exact fun p hp => AV.refs_mono h (k p hp)
theorem refss_all {S : Nat → Bool} {cs : List AV} (h : ∀ (j : Nat) c, cs[j]? = some c → c.refs S = true) : AV.refss S cs = true := AV.refss_iff.2 fun c hc => by
  obtain ⟨j, hj⟩ := List.getElem?_of_mem hc
  exact h j c hj
theorem Rep.refs_dom {w : World} {φ : PMap} {Λ : Lent} {x : AV} {v : Value} (h : Rep w φ Λ x v) : x.refs (fun id => (φ id).isSome) = true := by
  induction h with
  | v => rfl
  | any => rfl
  | bl => rfl
  | fz0 => rfl
  | fz => rfl
  | fp => rfl
  | agg vf h1 h2 h3 ih => exact refss_all ih
  | tup vf h1 h2 h3 ih => exact refss_all ih
  | fn vf wf h1 h2 h3 h4 h5 h6 ih1 ih2 =>
    simp only [AV.refs, Bool.and_eq_true]
    exact ⟨refss_all ih1, refss_all ih2⟩
  | ifc h ih => simpa only [AV.refs] using ih
  | ptr h => simp only [AV.refs, h, Option.isSome_some]
  | ptrx h => simp only [AV.refs, h, Option.isSome_some]
  | sl h => simp only [AV.refs, h, Option.isSome_some]
  | sl0 h => simp only [AV.refs, h, Option.isSome_some]
  | slx h => simp only [AV.refs, h, Option.isSome_some]
  | mp h => simp only [AV.refs, h, Option.isSome_some]
  | mpx h => simp only [AV.refs, h, Option.isSome_some]
  | dp h => simp only [AV.refs, h, Option.isSome_some]
  | dp0 h => simp only [AV.refs, h, Option.isSome_some]
  | dpx h => simp only [AV.refs, h, Option.isSome_some]
def isIn (h : Heap) (id : Nat) : Bool := (h id).isSome
def Dom (s : AS) : Prop := (∀ i, (s.t i).refs (isIn s.h) = true) ∧ ∀ k ob, s.h k = some ob → ObjIn (isIn s.h) ob
theorem HSim.has {w : World} {φ : PMap} {Λ : Lent} {h : Heap} (hs : HSim w φ Λ h) {id : Nat} (hk : (φ id).isSome = true) : isIn h id = true := by
  cases he : h id with
  | none => rw [hs.dom id he] at hk; cases hk
  | some ob => simp [isIn, he]
theorem Sim.dom {n : Nat} {w : World} {φ : PMap} {Λ : Lent} {s : AS} {a : Act} (hs : Sim n w φ Λ s a) : Dom s := by
  have hcell : ∀ {arr : Array Value} {o : Nat} {cells : List AV}, CellsRep w φ Λ arr o cells → AV.refss (isIn s.h) cells = true := fun {arr o cells} h => AV.refss_iff.2 fun c hc => by
    obtain ⟨j, hj⟩ := List.getElem?_of_mem hc
    obtain ⟨v, _, h2⟩ := h j c hj
    exact AV.refs_mono (fun i => hs.hs.has) h2.refs_dom
  refine ⟨fun i => AV.refs_mono (fun i => hs.hs.has) (hs.tmps i).refs_dom, fun k ob hk => ?_⟩
  obtain ⟨l, _, ho⟩ := hs.hs.heap k ob hk
  cases ob with
  | gbox ty c =>
    obtain ⟨b, arr, T, _, _, _, _, h⟩ := ho
    exact hcell h
  | grow ty c e v =>
    obtain ⟨_, h | ⟨b, o, arr, T, lo, hi, _, _, _, _, h⟩⟩ := ho
    · rw [h.2]; rfl
    · exact hcell h
  | map es =>
    obtain ⟨b, ents, clock, _, _, _, _, h⟩ := ho
    intro p hp
    obtain ⟨j, hj⟩ := List.getElem?_of_mem hp
    obtain ⟨e, _, _, h2⟩ := h j p hj
    exact AV.refs_mono (fun i => hs.hs.has) h2.refs_dom
theorem AWp.dom {P : Program} {n : Nat} {c : Code} {Q : APost} {s : AS} (h : Dom s → AWp P n c Q s) : AWp P n c Q s := fun Λ w φ a hs => h hs.dom Λ w φ a hs
def memN : List Nat → Nat → Bool
  | [], _ => false
  | k :: r, i => bif Nat.beq i k then true else memN r i
def overT (K : List Nat) : List (Nat × AV) → (Nat → AV) → Nat → AV
  | [], f, i => bif memN K i then .any else f i
  | (k, x) :: r, f, i => bif Nat.beq i k then x else overT K r f i
def overH : List (Nat × AObj) → Heap → Heap
  | [], h, i => h i
  | (k, x) :: r, h, i => bif Nat.beq i k then some x else overH r h i
def AS.over (s : AS) (K : List Nat) (T : List (Nat × AV)) (H : List (Nat × AObj)) : AS := ⟨overT K T s.t, overH H s.h⟩
def keep (H : List (Nat × AObj)) (h : Heap) (id : Nat) : Bool := keys H id || isIn h id
def AgT (K : List Nat) (f g : Nat → AV) : Prop := ∀ i, memN K i = false → f i = g i
def AgH (H : List (Nat × AObj)) (h h0 : Heap) : Prop := ∀ k, keys H k = false → isIn h0 k = true → h k = h0 k
theorem overT_cases {K : List Nat} {f : Nat → AV} {s : AS} {S : Nat → Bool} : ∀ {T : List (Nat × AV)}, HasT s S T → ∀ i, (overT K T f i = .any) ∨ (overT K T f i = f i ∧ memN K i = false) ∨ (s.t i = overT K T f i ∧ (overT K T f i).refs S = true)
  | [], _, i => by
    simp only [overT]
    cases memN K i
    · exact .inr (.inl ⟨rfl, rfl⟩)
    · exact .inl rfl
  | (k, x) :: r, h, i => by
    simp only [overT]
    cases hb : Nat.beq i k with
    | true =>
      have := Nat.eq_of_beq_eq_true hb
      subst this
      exact .inr (.inr h.1)
    | false => exact overT_cases h.2 i
theorem overH_out : ∀ {H : List (Nat × AObj)} {h : Heap} {i : Nat}, keys H i = false → overH H h i = h i
  | [], _, _, _ => rfl
  | (k, x) :: r, h, i, e => by
    simp only [keys, Bool.or_eq_false_iff] at e
    simp only [overH, e.1, cond_false]
    exact overH_out e.2
theorem overH_in {h1 : Heap} {S : Nat → Bool} : ∀ {H : List (Nat × AObj)} {h : Heap}, HasH h1 S H → ∀ {i : Nat}, keys H i = true → overH H h i = h1 i ∧ ∃ ob, overH H h i = some ob ∧ ObjIn S ob
  | [], _, _, i, hk => by simp [keys] at hk
  | (k, x) :: r, h, hh, i, hk => by
    simp only [overH]
    cases hb : Nat.beq i k with
    | true =>
      have := Nat.eq_of_beq_eq_true hb
      subst this
      exact ⟨hh.1.1.symm, x, rfl, hh.1.2⟩
    | false =>
      simp only [keys, hb, Bool.false_or] at hk
      exact overH_in hh.2 hk
structure Back (s0 s' : AS) (K : List Nat) (T : List (Nat × AV)) (H : List (Nat × AObj)) : Prop where
  hT : HasT s' (keep H s0.h) T
  hH : HasH s'.h (keep H s0.h) H
  aT : AgT K s'.t s0.t
  aH : AgH H s'.h s0.h
  hp : pinKept s'.h (keep H s0.h) = true
theorem Back.weak {s0 s' : AS} {K : List Nat} {T : List (Nat × AV)} {H : List (Nat × AObj)} (hd : Dom s0) (b : Back s0 s' K T H) : Weak s' (s0.over K T H) := by
  intro n Λ w φ a hs
  have hS : ∀ i, isIn s0.h i = true → keep H s0.h i = true := fun i h => by simp [keep, h]
  refine ⟨restrict (keep H s0.h) φ, ⟨hs.defs, hs.size, fun i => ?_, ?_⟩, goes_restrict w _ φ fun id hi hk => hs.hs.dom id (pinKept_iff b.hp hi hk)⟩
  · show Rep w _ Λ (overT K T s0.t i) _
    rcases overT_cases (K := K) (f := s0.t) b.hT i with e | ⟨e, e2⟩ | ⟨e1, e2⟩
    · rw [e]; exact .any
    · rw [e, ← b.aT i e2]
      refine (hs.tmps i).restrict ?_
      rw [b.aT i e2]
      exact AV.refs_mono hS (hd.1 i)
    · rw [← e1] at e2 ⊢
      exact (hs.tmps i).restrict e2
  · refine hs.hs.restrict (fun id hk => ?_) (fun id hk => ?_) (fun id ob hk => ?_)
    · show overH H s0.h id = s'.h id
      cases hb : keys H id with
      | true => exact (overH_in b.hH hb).1
      | false =>
        simp only [keep, hb, Bool.false_or] at hk
        rw [overH_out hb, b.aH id hb hk]
    · simp only [keep, Bool.or_eq_false_iff] at hk
      show overH H s0.h id = none
      rw [overH_out hk.1]
      have := hk.2
      simp only [isIn] at this
      simpa using this
    · replace hk : overH H s0.h id = some ob := hk
      cases hb : keys H id with
      | true =>
        obtain ⟨_, ob', e1, e2⟩ := overH_in (h := s0.h) b.hH hb
        rw [e1] at hk
        cases hk
        exact e2
      | false =>
        rw [overH_out hb] at hk
        exact ObjIn.mono hS (hd.2 id ob hk)
theorem AgT.refl (K : List Nat) (f : Nat → AV) : AgT K f f := fun _ _ => rfl
theorem AgT.put {K : List Nat} {s : AS} {g : Nat → AV} {d : Nat} {x : AV} (h : memN K d = true) (k : AgT K s.t g) : AgT K (s.put (some d) x).t g := fun i hi => by
  have : i ≠ d := fun e => by rw [e, h] at hi; cases hi
  show upd s.t d x i = _
  rw [upd_other _ _ _ _ this]
  exact k i hi
theorem AgT.putn {K : List Nat} {s : AS} {g : Nat → AV} {x : AV} (k : AgT K s.t g) : AgT K (s.put none x).t g := k
theorem AgT.seth {K : List Nat} {s : AS} {g : Nat → AV} {id : Nat} {ob : Option AObj} (k : AgT K s.t g) : AgT K (s.seth id ob).t g := k
theorem AgT.setl {K : List Nat} {s : AS} {g : Nat → AV} {l : List (Nat × AObj)} (k : AgT K s.t g) : AgT K (s.setl l).t g := by rw [setl_t]; exact k
theorem AgT.over {K K' : List Nat} {T : List (Nat × AV)} {H : List (Nat × AObj)} {s : AS} {g : Nat → AV} (h1 : (T.all fun p => memN K p.1) = true) (h2 : (K'.all (memN K)) = true) (k : AgT K s.t g) : AgT K (s.over K' T H).t g := fun i hi => by
  show overT K' T s.t i = g i
  rw [← k i hi]
  induction T with
  | nil =>
    simp only [overT]
    have : memN K' i = false := by
      cases hb : memN K' i with
      | false => rfl
      | true =>
        exfalso
        have : ∀ {L : List Nat}, memN L i = true → i ∈ L := fun {L} => by
          induction L with
          | nil => intro h; cases h
          | cons a r ih =>
            intro h
            simp only [memN] at h
            cases hc : Nat.beq i a with
            | true => rw [Nat.eq_of_beq_eq_true hc]; exact List.mem_cons_self
            | false => rw [hc] at h; exact List.mem_cons_of_mem _ (ih h)
        have h3 := List.all_eq_true.1 h2 i (this hb)
        rw [h3] at hi
        cases hi
    rw [this]
    rfl
  | cons p r ih =>
    obtain ⟨k', x⟩ := p
    simp only [List.all_cons, Bool.and_eq_true] at h1
    simp only [overT]
    have : Nat.beq i k' = false := by
      cases hb : Nat.beq i k' with
      | false => rfl
      | true => rw [Nat.eq_of_beq_eq_true hb, h1.1] at hi; cases hi
    rw [this]
    exact ih h1.2
theorem AgH.refl (H : List (Nat × AObj)) (h : Heap) : AgH H h h := fun _ _ _ => rfl
theorem AgH.put {H : List (Nat × AObj)} {s : AS} {h0 : Heap} {d : Option Nat} {x : AV} (k : AgH H s.h h0) : AgH H (s.put d x).h h0 := by
  cases d <;> exact k
theorem AgH.seth {H : List (Nat × AObj)} {s : AS} {h0 : Heap} {id : Nat} {ob : Option AObj} (h : (keys H id || !(isIn h0 id)) = true) (k : AgH H s.h h0) : AgH H (s.seth id ob).h h0 := fun i h1 h2 => by
  have : i ≠ id := fun e => by rw [e] at h1 h2; rw [h1, h2] at h; cases h
  show upd s.h id ob i = _
  rw [upd_other _ _ _ _ this]
  exact k i h1 h2
theorem AgH.setl {H : List (Nat × AObj)} {s : AS} {h0 : Heap} : ∀ {l : List (Nat × AObj)}, (l.all fun p => keys H p.1 || !(isIn h0 p.1)) = true → AgH H s.h h0 → AgH H (s.setl l).h h0
  | [], _, k => k
  | (id, ob) :: r, h, k => by
    simp only [List.all_cons, Bool.and_eq_true] at h
    exact AgH.seth h.1 (AgH.setl h.2 k)
theorem AgH.over {H H' : List (Nat × AObj)} {K : List Nat} {T : List (Nat × AV)} {s : AS} {h0 : Heap} (h : (H'.all fun p => keys H p.1 || !(isIn h0 p.1)) = true) (k : AgH H s.h h0) : AgH H (s.over K T H').h h0 := fun i h1 h2 => by
  show overH H' s.h i = _
  rw [← k i h1 h2]
  refine overH_out ?_
  induction H' with
  | nil => rfl
  | cons p r ih =>
    obtain ⟨k', x⟩ := p
    simp only [List.all_cons, Bool.and_eq_true] at h
    simp only [keys, Bool.or_eq_false_iff]
    refine ⟨?_, ih h.2⟩
    cases hb : Nat.beq i k' with
    | false => rfl
    | true =>
      have e := Nat.eq_of_beq_eq_true hb
      subst e
      rw [h1, h2] at h
      simp at h
theorem HasT.nil {s : AS} {S : Nat → Bool} : HasT s S [] := trivial
theorem HasT.cons {s : AS} {S : Nat → Bool} {k : Nat} {x : AV} {r : List (Nat × AV)} (h : HasT s S r) (h1 : s.t k = x := by first | exact rfl | exact i64_eq (by omega) | exact str_eq (by simp))
    (h2 : x.refs S = true := by exact rfl) : HasT s S ((k, x) :: r) := ⟨⟨h1, h2⟩, h⟩
theorem HasH.nil {s : Heap} {S : Nat → Bool} : HasH s S [] := trivial
theorem cl_refs {α : Type} {f : α → List AV} {l : List α} {S : Nat → Bool} (h : ∀ x, AV.refss S (f x) = true) : AV.refss S (cl f l) = true := AV.refss_iff.2 (cl_mem fun x _ => AV.refss_iff.1 (h x))
theorem HasH.cons {s : Heap} {S : Nat → Bool} {k : Nat} {x : AObj} {r : List (Nat × AObj)} (h : HasH s S r) (h1 : s k = some x := by first | exact rfl)
    (h2 : ObjIn S x := by first | exact rfl | exact cl_refs (fun _ => rfl)) : HasH s S ((k, x) :: r) := ⟨⟨h1, h2⟩, h⟩
theorem Back.mk' {s0 s' : AS} {K : List Nat} {T : List (Nat × AV)} {H : List (Nat × AObj)} (hT : HasT s' (keep H s0.h) T) (hH : HasH s'.h (keep H s0.h) H)
    (aT : AgT K s'.t s0.t := by repeat (first | exact AgT.refl _ _ | refine AgT.put rfl ?_ | refine AgT.putn ?_ | refine AgT.seth ?_ | refine AgT.setl ?_ | refine AgT.over rfl rfl ?_))
    (aH : AgH H s'.h s0.h := by repeat (first | exact AgH.refl _ _ | refine AgH.put ?_ | refine AgH.seth rfl ?_ | refine AgH.setl rfl ?_ | refine AgH.over rfl ?_))
    (hp : pinKept s'.h (keep H s0.h) = true := by exact rfl) : Back s0 s' K T H := ⟨hT, hH, aT, aH, hp⟩
section
variable {P : Program} {n : Nat} {Q : APost} {s : AS} {te : TE}
theorem AWp.as {c : Code} {s' : AS} (h : s = s') (k : AWp P n c Q s') : AWp P n c Q s := h ▸ k
theorem AWp.loopR {α : Type} {c : Code} (K : List Nat) (T : α → List (Nat × AV)) (H : α → List (Nat × AObj)) (I : α → Prop) (μ : α → Nat) (x0 : α) (hI : I x0) (h0 : Back s s K (T x0) (H x0))
    (round : ∀ x, I x → AWp P n c (AExit.then (fun s' => ∃ x', I x' ∧ Back s s' K (T x') (H x') ∧ μ x' < μ x) Q) (s.over K (T x) (H x))) : AWp P n (.loop c) Q s :=
  .dom fun hd => AWp.loopI (fun x => s.over K (T x) (H x)) I μ x0 hI (h0.weak hd) fun x hx => (round x hx).mono fun e s' q => by
    cases e with
    | normal =>
      obtain ⟨x', h1, h2, h3⟩ := q
      exact ⟨x', h1, h2.weak hd, h3⟩
    | exit id => exact q
    | goto l => exact q
    | ret => exact q
    | panic x => exact q
end
section
variable {h : Heap} {lo hi : Nat}
theorem fv_nilz {l k : Nat} {α : Type} {f : α → List AV} : FVal h lo hi (.v (.slice none 0 k)) (.fz l ([] : List α).length (cl f [])) := fv_nil
theorem fv_row0 {id ver esz : Nat} {α : Type} {f : α → List AV} {l : List α} {ob : AObj} (h1 : h id = some ob) (h2 : ObAt ob ver (cl f l)) (hf : ∀ x, (f x).length = esz) (h5 : 0 < esz) (h3 : ∀ x, AV.oks lo (f x) = true) :
    FVal h lo hi (.sl id ver 0 l.length esz) (.fz hi l.length (cl f l)) :=
  fv_row h1 h2.at (cl_oks h3) (by rw [cl_length hf]; omega) h5 (by rw [List.drop_zero, List.take_of_length_le (by rw [cl_length hf]; omega)])
theorem fv_ptrb {id ver off : Nat} {ob : AObj} {cells cs : List AV} (h1 : h id = some ob) (h2 : ObAt ob ver cells) (h3 : AV.oks lo cells = true) (h4 : Nat.ble (off + 1) cells.length = true) (h6 : cells.drop off = cs) : FVal h lo hi (.ptr id ver off) (.fp hi cs) :=
  fv_ptr h1 h2.at h3 (Nat.le_of_ble_eq_true h4) h6
theorem fv_okb {a b : AV} (hab : a = b) (e : b.ok lo = true) : FVal h lo hi a b := by
  subst hab
  exact fv_ok e
theorem ble_of {a b : Nat} (h : a ≤ b) : Nat.ble a b = true := Nat.ble_eq_true_of_le h
theorem fv_rowe {id ver esz len : Nat} {α : Type} {f : α → List AV} {l : List α} {ob : AObj} (h1 : h id = some ob) (h2 : ObAt ob ver (cl f l)) (hf : ∀ x, (f x).length = esz) (h5 : 0 < esz) (h3 : ∀ x, AV.oks lo (f x) = true) (hl : len = l.length) :
    FVal h lo hi (.sl id ver 0 len esz) (.fz hi l.length (cl f l)) := by
  subst hl
  exact fv_row0 h1 h2 hf h5 h3
theorem fv_row1 {id ver a m : Nat} {α : Type} {f : α → List AV} {l : List α} {ob : AObj} (h1 : h id = some ob) (h2 : ObAt ob ver (cl f l)) (hf : ∀ x, (f x).length = 1) (h3 : ∀ x, AV.oks lo (f x) = true) (hm : a + m ≤ l.length) :
    FVal h lo hi (.sl id ver a m 1) (.fz hi ((l.drop a).take m).length (cl f ((l.drop a).take m))) := by
  have e : ((l.drop a).take m).length = m := by simp; omega
  rw [e]
  refine fv_row h1 h2.at (cl_oks h3) (by rw [cl_length hf]; omega) (by decide) ?_
  have e1 := cl_drop hf l a
  have e2 := cl_take hf (l.drop a) m
  rw [Nat.mul_one] at e1 e2 ⊢
  rw [e1, e2]
end
section
variable {n : Nat} {s : AS} {o : Oper} {d : Option Tmp} {Q : APost}
theorem res_tmp' {t : Tmp} {x : AV} (h : s.t t = x := by conv => lhs; whnf) : ResOk te s (.tmp t) x := h
theorem res_cell' {a : Tmp} {ty : TypeId} {x y : AV} {cs : List AV} {ti : TI} (hx : s.t a = y := by conv => lhs; whnf) (ht : te.get ty = some ti := by exact rfl) (hp : 0 < ti.size := by exact Nat.le_of_ble_eq_true rfl) (hz : LoadTo s ti.size y cs := by first | exact .ptr rfl .box rfl)
    (hptr : (match y with | .ptr .. => true | _ => false) = true := by exact rfl) (hy : mkAV ti.k.agg cs = x := by conv => lhs; whnf) : ResOk te s (.cell a ty) x := by
  cases hz with
  | fp h => cases hptr
  | ptr hob hat h => exact ⟨_, _, _, _, _, _, hx, hob, hat.at, ht, h, hp, hy⟩
  | el hob hat hf hj =>
    have e := cl_at hf hj
    exact ⟨_, _, _, _, _, _, hx, hob, hat.at, ht, by rw [e]; exact hf _, hp, by rw [e]; exact hy⟩
  | @el1 α _ id ver j ob f l hsz hob hat hf hj =>
    have e := cl_at (i := j) hf hj
    rw [Nat.mul_one, ← hsz] at e
    exact ⟨_, _, _, _, _, _, hx, hob, hat.at, ht, by rw [e, hsz]; exact hf _, hp, by rw [e]; exact hy⟩
theorem q_call (lv : Nat) {f : FuncId} {A : List AV} {r : AV} {fop : Operand} {argops : Array Operand} {tys : Array TypeId} {first caps : List AV}
    (ho : o.op = .call { callee := .value fop, args := argops, argTypes := tys } := by exact rfl) (hf : s.ev fop = .fn (.func f) first caps := by exact rfl)
    (hA : FVals s.h lv (lv + 1) (first ++ argops.toList.map s.ev ++ caps) A := by repeat' (first | exact trivial | refine ⟨?_, ?_⟩ | exact fv_ok rfl | exact fv_nilz | exact fv_row0 rfl .row (fun _ => rfl) (Nat.le_of_ble_eq_true rfl) (fun _ => rfl) | exact fv_rowe rfl .row (fun _ => rfl) (Nat.le_of_ble_eq_true rfl) (fun _ => rfl) (by simp only [List.length_set]; done) | exact fv_row1 rfl .row (fun _ => rfl) (fun _ => rfl) (by first | omega | (simp; omega)) | exact fv_ptrb rfl .box rfl rfl rfl | refine fv_fn ?_ ?_ | exact fv_okb rfl (ble_of (by omega)) | (refine fv_okb rfl ?_; simp [AV.ok, AV.oks]; done)))
    (hr : r.ok lv = true := by first | exact rfl | exact ble_of (by omega) | (simp [AV.ok, AV.oks]; done)) (hdd : o.dst = d := by conv => lhs; whnf) (hd : d.all (Nat.blt · n) = true := by exact rfl) (hc : AC Try.prog f A emp (Ret r)) : OpOk Try.prog n o s (s.put d r) := ok_call lv ho hf hc hA hr hdd hd
theorem q_ret (lv : Nat) (xs ys : List AV) {fn : Func} {r : AV} (h3 : resVal ys = r) (h1 : ResOks te s fn.results.toList xs := by repeat' (first | exact trivial | exact res_tmp' | exact res_cell' | refine ⟨?_, ?_⟩))
    (h2 : FVals s.h lv lv xs ys := by repeat' (first | exact trivial | refine ⟨?_, ?_⟩ | exact fv_ok rfl | exact fv_nilz | exact fv_row0 rfl .row (fun _ => rfl) (Nat.le_of_ble_eq_true rfl) (fun _ => rfl) | exact fv_rowe rfl .row (fun _ => rfl) (Nat.le_of_ble_eq_true rfl) (fun _ => rfl) (by simp only [List.length_set]; done) | exact fv_row1 rfl .row (fun _ => rfl) (fun _ => rfl) (by first | omega | (simp; omega)) | exact fv_ptrb rfl .box rfl rfl rfl | refine fv_fn ?_ ?_ | exact fv_okb rfl (ble_of (by omega)) | (refine fv_okb rfl ?_; simp [AV.ok, AV.oks]; done)))
    (hp : pinFree s.h = true := by exact rfl) : Fin te fn (Ret r) s := Fin.ret2 lv h1 h2 h3 hp
end
end Go.Proofs.Ytfojdjlhpejbpaa.Fw


set_option linter.unusedVariables false
set_option linter.unusedSimpArgs false
namespace Go.Proofs.Ytfojdjlhpejbpaa.Fw
open Go.RowKit Go.ChangeShapes Go.WideShapes
def contig (te : TE) : Nat → List (Nat × TypeId) → Nat → Bool
  | o, [], z => Nat.beq o z
  | o, (o', t) :: r, z => Nat.beq o o' && match te.get t with | some j => contig te (o + j.size) r z | none => false
def plainT (te : TE) : Nat → TypeId → Bool
  | 0, _ => false
  | d + 1, t => match te.get t with
    | none => false
    | some i => match i.k with
      | .int _ | .bool | .str => true
      | .slice e => plainT te d e && (match te.get e with | some j => Nat.blt 0 j.size | none => false)
      | .arr m e => plainT te d e && (match te.get e with | some j => Nat.blt 0 j.size && Nat.beq i.size (m * j.size) | none => false)
      | .struct fs => contig te 0 fs i.size && fs.all (fun p => plainT te d p.2)
      | _ => false
def hasFs (H : TypeId → List AV → Prop) : List (Nat × TypeId) → List AV → Prop
  | [], cs => cs = []
  | (_, t) :: r, cs => ∃ a b, cs = a ++ b ∧ H t a ∧ hasFs H r b
def Has (te : TE) : Nat → TypeId → List AV → Prop
  | 0, _, _ => False
  | d + 1, t, cs => match te.get t with
    | none => False
    | some i => match i.k with
      | .bool => ∃ b, cs = [tf b]
      | .int k => ∃ n : Int, (Lit.int k n).wf = true ∧ cs = [.v (.int k n)]
      | .str => ∃ l : List UInt8, l.length ≤ reachBytes ∧ cs = [str l]
      | .slice e => ∃ es : List (List AV), (∀ c ∈ es, Has te d e c) ∧ (∀ j, te.get e = some j → es.length * j.bytes ≤ reachBytes) ∧ cs = [.fz 0 es.length es.flatten]
      | .arr m e => ∃ es : List (List AV), es.length = m ∧ (∀ c ∈ es, Has te d e c) ∧ cs = es.flatten
      | .struct fs => hasFs (Has te d) fs cs
      | _ => False
theorem exists_list {α : Type} {p : Nat → α → Prop} : ∀ n : Nat, (∀ i, i < n → ∃ x, p i x) → ∃ l : List α, l.length = n ∧ ∀ i x, l[i]? = some x → p i x
  | 0, _ => ⟨[], rfl, fun i x h => by simp at h⟩
  | n + 1, h => by
    obtain ⟨l, h1, h2⟩ := exists_list n fun i hi => h i (by omega)
    obtain ⟨x, hx⟩ := h n (by omega)
    refine ⟨l ++ [x], by simp [h1], fun i y hy => ?_⟩
    by_cases hi : i < n
    · rw [List.getElem?_append_left (by omega)] at hy
      exact h2 i y hy
    · rw [List.getElem?_append_right (by omega)] at hy
      have : i - l.length = 0 := by
        have := (List.getElem?_eq_some_iff.1 hy).1
        simp at this
        omega
      rw [this] at hy
      simp at hy
      subst hy
      have : i = n := by omega
      subst this
      exact hx
theorem flatten_length_of {α : Type} {m : Nat} : ∀ {es : List (List α)}, (∀ c ∈ es, c.length = m) → es.flatten.length = es.length * m
  | [], _ => by simp
  | c :: es, h => by
    rw [List.flatten_cons, List.length_append, h c List.mem_cons_self, flatten_length_of fun x hx => h x (List.mem_cons_of_mem _ hx), List.length_cons, Nat.add_mul, Nat.one_mul, Nat.add_comm]
theorem flatten_get {α : Type} {m : Nat} (hm : 0 < m) : ∀ {es : List (List α)}, (∀ c ∈ es, c.length = m) → ∀ {j : Nat} {x : α}, es.flatten[j]? = some x → ∃ c, es[j / m]? = some c ∧ c[j % m]? = some x
  | [], _, j, x, hj => by simp at hj
  | c :: es, h, j, x, hj => by
    have hc := h c List.mem_cons_self
    rw [List.flatten_cons] at hj
    by_cases h1 : j < m
    · rw [List.getElem?_append_left (by omega)] at hj
      exact ⟨c, by rw [Nat.div_eq_of_lt h1]; rfl, by rw [Nat.mod_eq_of_lt h1]; exact hj⟩
    · rw [List.getElem?_append_right (by omega), hc] at hj
      obtain ⟨c', k1, k2⟩ := flatten_get hm (fun x hx => h x (List.mem_cons_of_mem _ hx)) hj
      refine ⟨c', ?_, ?_⟩
      · have : j / m = (j - m) / m + 1 := by
          rw [Nat.div_eq_sub_div hm (by omega)]
        rw [this]
        simpa using k1
      · rw [Nat.mod_eq_sub_mod (by omega)]
        exact k2
abbrev noL : Lent := fun _ _ => False
abbrev noO : PMap := fun _ => none
theorem may_none (lv b : Nat) : may noO noL lv b := ⟨owned_none, fun _ _ h => h⟩
theorem weightsAll_mem {H : Type} {P : Program} {e : TypeId} : ∀ {l : List (DataW H)} {d : DataW H}, d ∈ l → ∀ m ∈ d.weights P e, m ∈ DataW.weightsAll P e l
  | a :: l, d, h, m, hm => by
    simp only [DataW.weightsAll, List.mem_append]
    rcases List.mem_cons.1 h with rfl | h
    · exact .inl hm
    · exact .inr (weightsAll_mem h m hm)
section
variable {P : Program} {te : TE} {w : World} {H : Type} {enc : TypeId × Value → H} {held : Bool}
def CellsAre (w : World) (cs : List Value) (av : List AV) : Prop := av.length = cs.length ∧ ∀ (j : Nat) c, av[j]? = some c → c.ok 0 = true ∧ ∃ v, cs[j]? = some v ∧ Rep w noO noL c v
theorem CellsAre.one {v : Value} {a : AV} (h1 : a.ok 0 = true) (h2 : Rep w noO noL a v) : CellsAre w [v] [a] :=
  ⟨rfl, fun j c hj => by
    cases j with
    | zero => simp at hj; subst hj; exact ⟨h1, v, rfl, h2⟩
    | succ j => simp at hj⟩
theorem Tells.cells {t : TypeId} {i : TI} (h : Tells P t i) : P.cellsOf t = i.size ∧ P.bytesOf t = i.bytes := by
  obtain ⟨f, z, h1, h2, h3, _⟩ := h.info
  exact ⟨by simp [Program.cellsOf, h1, h2], by simp [Program.bytesOf, h1, h3]⟩
theorem open_fields (hte : TEok P te) {d n : Nat} (ih : ∀ t, plainT te d t = true → ∀ n (cs : List Value) x, DataW.trod enc P w 0 (fun _ => true) held n t cs = some x → (∀ m ∈ x.1.weights P t, m ≤ reachBytes) → ∃ av, Has te d t av ∧ CellsAre w cs av)
    {cs : List Value} : ∀ (l : List Field) (o : Nat) (xs : List (DataW H × List MemPlace)), xs.length = l.length → (∀ (i : Nat) (f : Field), l[i]? = some f → DataW.trod enc P w 0 (fun _ => true) held n f.type ((cs.drop f.offset).take (P.cellsOf f.type)) = xs[i]?) →
      contig te o (l.map fun f => (f.offset, f.type)) cs.length = true → ((l.map fun f => (f.offset, f.type)).all fun p => plainT te d p.2) = true →
      (∀ m ∈ DataW.weightsEach P (l.map (·.type)) (xs.map (·.1)), m ≤ reachBytes) → ∃ av, hasFs (Has te d) (l.map fun f => (f.offset, f.type)) av ∧ CellsAre w (cs.drop o) av
  | [], o, xs, hx, hf, hc, hp, hw => by
    simp only [List.map_nil, contig] at hc
    have := Nat.eq_of_beq_eq_true hc
    refine ⟨[], rfl, by simp; omega, fun j c hj => by simp at hj⟩
  | f :: l, o, [], hx, hf, hc, hp, hw => by simp at hx
  | f :: l, o, y :: xs, hx, hf, hc, hp, hw => by
    simp only [List.map_cons, contig, Bool.and_eq_true] at hc
    obtain ⟨c1, c2⟩ := hc
    have c1 := Nat.eq_of_beq_eq_true c1
    simp only [List.map_cons, List.all_cons, Bool.and_eq_true] at hp
    have h0 := hf 0 f rfl
    simp only [List.getElem?_cons_zero] at h0
    simp only [List.map_cons, DataW.weightsEach, List.mem_append] at hw
    obtain ⟨a, a1, a2⟩ := ih f.type hp.1 n _ y h0 fun m hm => hw m (.inl hm)
    cases hg : te.get f.type with
    | none => rw [hg] at c2; cases c2
    | some j =>
      rw [hg] at c2
      simp only at c2
      obtain ⟨b, b1, b2⟩ := open_fields hte ih l (o + j.size) xs (by simpa using hx) (fun i g hg => by simpa using hf (i + 1) g (by simpa using hg)) c2 hp.2 (fun m hm => hw m (.inr hm))
      rw [((hte.tells hg).cells).1, ← c1] at a2
      refine ⟨a ++ b, ⟨a, b, rfl, a1, b1⟩, ?_⟩
      have hle : ∀ (l : List (Nat × TypeId)) (o : Nat), contig te o l cs.length = true → o ≤ cs.length := by
        intro l
        induction l with
        | nil => intro o h; simp only [contig] at h; exact Nat.le_of_eq (Nat.eq_of_beq_eq_true h)
        | cons p l ihl =>
          intro o h
          obtain ⟨po, pt⟩ := p
          simp only [contig, Bool.and_eq_true] at h
          cases hgp : te.get pt with
          | none => rw [hgp] at h; cases h.2
          | some q =>
            rw [hgp] at h
            have := ihl _ h.2
            omega
      have hlen := hle _ _ c2
      have al : a.length = j.size := by rw [a2.1]; simp; omega
      refine ⟨by rw [List.length_append, al, b2.1]; simp; omega, fun k c hk => ?_⟩
      by_cases hk1 : k < a.length
      · rw [List.getElem?_append_left hk1] at hk
        obtain ⟨z1, v, z2, z3⟩ := a2.2 k c hk
        rw [List.getElem?_take, if_pos (by omega)] at z2
        exact ⟨z1, v, z2, z3⟩
      · rw [List.getElem?_append_right (by omega)] at hk
        obtain ⟨z1, v, z2, z3⟩ := b2.2 _ c hk
        refine ⟨z1, v, ?_, z3⟩
        rw [List.getElem?_drop] at z2 ⊢
        rw [← z2]
        congr 1
        omega
theorem open_has (hte : TEok P te) : ∀ d t, plainT te d t = true → ∀ n (cs : List Value) x, DataW.trod enc P w 0 (fun _ => true) held n t cs = some x → (∀ m ∈ x.1.weights P t, m ≤ reachBytes) →
    ∃ av, Has te d t av ∧ CellsAre w cs av
  | 0, t, hp, n, cs, x, h, hw => by simp [plainT] at hp
  | d + 1, t, hp, n, cs, x, h, hw => by
    have ih := open_has hte d
    simp only [plainT] at hp
    simp only [Has]
    cases hg : te.get t with
    | none => rw [hg] at hp; cases hp
    | some i =>
      rw [hg] at hp
      have ht := hte.tells hg
      obtain ⟨k, size, bytes, zero⟩ := i
      cases k with
      | int k =>
        obtain ⟨m, rfl, rfl, h3⟩ := DataW.trod_int (ht.int rfl) h
        exact ⟨[.v (.int k m)], ⟨m, h3, rfl⟩, .one rfl .v⟩
      | bool =>
        obtain ⟨b, rfl, rfl⟩ := DataW.trod_bool (ht.bool rfl) h
        exact ⟨[tf b], ⟨b, rfl⟩, .one rfl .v⟩
      | str =>
        obtain ⟨s, rfl, rfl, _⟩ := DataW.trod_string (ht.str rfl) h
        exact ⟨[str s.data.toList], ⟨_, hw _ (by simp [DataW.weights]), rfl⟩, .one rfl .v⟩
      | slice e =>
        simp only [Bool.and_eq_true] at hp
        obtain ⟨hp1, hp2⟩ := hp
        cases he : te.get e with
        | none => rw [he] at hp2; cases hp2
        | some j =>
          rw [he] at hp2
          have hpos : 0 < j.size := Nat.blt_eq.mp hp2
          have hce := (hte.tells he).cells
          rcases DataW.trod_slice (ht.slice rfl) h with ⟨rfl, rfl⟩ | ⟨a, len, cap, elems, rest, n', rfl, rfl, rfl, hb, hlc, hcm, hel, hget, _, _⟩
          · exact ⟨[.fz 0 0 []], ⟨[], by simp, fun _ _ => by simp, rfl⟩, .one rfl .fz0⟩
          · have hwt : ∀ y ∈ elems, ∀ m ∈ y.1.weights P e, m ≤ reachBytes := fun y hy m hm => by
              refine hw m ?_
              simp only [DataW.weights, ht.slice rfl, List.mem_cons, List.mem_append]
              exact .inr (.inl (weightsAll_mem (List.mem_map_of_mem hy) m hm))
            have hone : ∀ i, i < len → ∃ av, Has te d e av ∧ av.length = j.size ∧ ∀ (r : Nat) c, av[r]? = some c → c.ok 0 = true ∧ ∃ v, w.cell? ((a.add (i * j.size)).add r) = some v ∧ Rep w noO noL c v := by
              intro i hi
              have h1 := hget i hi
              have hil : i < elems.length := by omega
              rw [List.getElem?_eq_getElem hil] at h1
              obtain ⟨cs', h2, h3⟩ := Option.bind_eq_some_iff.1 h1
              obtain ⟨_, q1, q2⟩ := World.cells?_some h2
              obtain ⟨av, b1, b2, b3⟩ := ih e hp1 n' cs' _ h3 (hwt _ (List.getElem_mem hil))
              rw [hce.1] at q1 q2
              refine ⟨av, b1, by rw [b2, q1], fun r c hr => ?_⟩
              obtain ⟨z1, v, z2, z3⟩ := b3 r c hr
              have hrl : r < j.size := by rw [← q1, ← b2]; exact (List.getElem?_eq_some_iff.1 hr).1
              exact ⟨z1, v, by rw [q2 r hrl, z2], z3⟩
            obtain ⟨es, l1, l2⟩ := exists_list len hone
            have hlen : ∀ c ∈ es, c.length = j.size := fun c hc => by
              obtain ⟨i, hi⟩ := List.mem_iff_getElem?.1 hc
              exact (l2 i c hi).2.1
            have hfl := flatten_length_of hlen
            refine ⟨[.fz 0 es.length es.flatten], ⟨es, fun c hc => ?_, fun j' hj' => ?_, rfl⟩, .one rfl ?_⟩
            · obtain ⟨i, hi⟩ := List.mem_iff_getElem?.1 hc
              exact (l2 i c hi).1
            · rw [he] at hj'
              cases hj'
              have := hw ((elems.length + rest.length) * P.bytesOf e) (by simp [DataW.weights, ht.slice rfl])
              rw [hce.2] at this
              have h2 : es.length * j.bytes ≤ (elems.length + rest.length) * j.bytes := Nat.mul_le_mul_right _ (by omega)
              omega
            · by_cases hl0 : len = 0
              · have : es = [] := List.eq_nil_of_length_eq_zero (by omega)
                subst this
                rw [hl0]
                exact .fz0
              ·
                have hc0 : ∀ q, q < es.flatten.length → ∃ c v, es.flatten[q]? = some c ∧ c.ok 0 = true ∧ w.cell? (a.add q) = some v ∧ Rep w noO noL c v := by
                  intro q hq
                  obtain ⟨c, k1, k2⟩ := flatten_get hpos hlen (List.getElem?_eq_getElem hq)
                  obtain ⟨_, _, g3⟩ := l2 _ c k1
                  obtain ⟨z1, v, z2, z3⟩ := g3 _ _ k2
                  refine ⟨_, v, List.getElem?_eq_getElem hq, z1, ?_, z3⟩
                  rw [Addr.add_add, Nat.mul_comm, Nat.div_add_mod] at z2
                  exact z2
                have hpf : 0 < es.flatten.length := by rw [hfl, l1]; exact Nat.mul_pos (by omega) hpos
                obtain ⟨b, o, sp⟩ := a
                have hsp : sp = none := by
                  obtain ⟨c, v, _, _, h3, _⟩ := hc0 0 hpf
                  simp only [Addr.add, if_true, World.cell?] at h3
                  split at h3
                  · split at h3
                    · cases h3
                    · rename_i hs
                      simpa using hs
                  · cases h3
                subst hsp
                rw [l1]
                refine .fz (fun q => (w.cell? ⟨b, o + q, none⟩).getD undef) (may_none _ _) hlc (fun c hc => ?_) (fun q hq => ?_) (fun q c hq => ?_) hpf
                · obtain ⟨q, hq⟩ := List.mem_iff_getElem?.1 hc
                  obtain ⟨c', v, h1, h2, _⟩ := hc0 q (List.getElem?_eq_some_iff.1 hq).1
                  rw [hq] at h1
                  cases h1
                  exact h2
                · obtain ⟨c', v, h1, h2, h3, h4⟩ := hc0 q hq
                  rw [Addr.add_lit] at h3
                  rw [h3]
                  rfl
                · obtain ⟨c', v, h1, h2, h3, h4⟩ := hc0 q (List.getElem?_eq_some_iff.1 hq).1
                  rw [hq] at h1
                  cases h1
                  rw [Addr.add_lit] at h3
                  rw [h3]
                  exact h4
      | arr m e =>
        simp only [Bool.and_eq_true] at hp
        obtain ⟨hp1, hp2⟩ := hp
        cases he : te.get e with
        | none => rw [he] at hp2; cases hp2
        | some j =>
          rw [he] at hp2
          simp only [Bool.and_eq_true] at hp2
          have hpos : 0 < j.size := Nat.blt_eq.mp hp2.1
          have hsz : size = m * j.size := Nat.eq_of_beq_eq_true hp2.2
          have hce := (hte.tells he).cells
          obtain ⟨xs, n', rfl, rfl, hl, hxl, hget⟩ := DataW.trod_array (ht.arr rfl) h
          have hl : cs.length = m * j.size := by rw [hl, ht.cells.1, ← hsz]
          have hone : ∀ i, i < m → ∃ av, Has te d e av ∧ CellsAre w ((cs.drop (i * j.size)).take j.size) av := by
            intro i hi
            have h1 := hget i hi
            have hil : i < xs.length := by omega
            rw [List.getElem?_eq_getElem hil, hce.1] at h1
            refine ih e hp1 n' _ _ h1 fun q hq => hw q ?_
            simp only [DataW.weights, ht.arr rfl]
            exact weightsAll_mem (List.mem_map_of_mem (List.getElem_mem hil)) q hq
          obtain ⟨es, l1, l2⟩ := exists_list m hone
          have hlen : ∀ c ∈ es, c.length = j.size := fun c hc => by
            obtain ⟨i, hi⟩ := List.mem_iff_getElem?.1 hc
            have hil : i < m := by rw [← l1]; exact (List.getElem?_eq_some_iff.1 hi).1
            rw [(l2 i c hi).2.1]
            show ((cs.drop (i * j.size)).take j.size).length = j.size
            have : (i + 1) * j.size ≤ m * j.size := Nat.mul_le_mul_right _ hil
            rw [Nat.add_mul, Nat.one_mul, ← hl] at this
            simp
            omega
          refine ⟨es.flatten, ⟨es, l1, fun c hc => ?_, rfl⟩, by rw [flatten_length_of hlen, l1, hl], fun q c hq => ?_⟩
          · obtain ⟨i, hi⟩ := List.mem_iff_getElem?.1 hc
            exact (l2 i c hi).1
          · obtain ⟨c', k1, k2⟩ := flatten_get hpos hlen hq
            obtain ⟨z1, v, z2, z3⟩ := (l2 _ c' k1).2.2 _ c k2
            refine ⟨z1, v, ?_, z3⟩
            rw [List.getElem?_take, if_pos (Nat.mod_lt _ hpos), List.getElem?_drop, Nat.mul_comm, Nat.div_add_mod] at z2
            exact z2
      | struct fs =>
        simp only [Bool.and_eq_true] at hp
        obtain ⟨fl, f1, f2⟩ := ht.struct rfl
        obtain ⟨xs, n', rfl, rfl, hl, hxl, hget⟩ := DataW.trod_struct f1 h
        rw [ht.cells.1] at hl
        subst f2
        simp only at hl
        rw [← hl] at hp
        have := open_fields hte ih (n := n') (cs := cs) fl.toList 0 xs (by simpa using hxl) (fun i f hf => hget i f (by simpa using hf)) hp.1 hp.2 (fun m hm => hw m (by simpa [DataW.weights, f1] using hm))
        simpa using this
      | _ => cases hp
end
end Go.Proofs.Ytfojdjlhpejbpaa.Fw


set_option linter.unusedVariables false
set_option linter.unusedSimpArgs false
namespace Go.Proofs.Ytfojdjlhpejbpaa.Fw
open Go.RowKit Go.ChangeShapes Go.WideShapes
def HasArgs (te : TE) (d : Nat) : List TypeId → List AV → Prop
  | [], [] => True
  | t :: ts, a :: r => (∃ i cs, te.get t = some i ∧ Has te d t cs ∧ a = mkAV i.k.agg cs) ∧ HasArgs te d ts r
  | _, _ => False
theorem HasArgs.length {te : TE} {d : Nat} : ∀ {ts : List TypeId} {l : List AV}, HasArgs te d ts l → l.length = ts.length
  | [], [], _ => rfl
  | t :: ts, a :: r, h => by simp [HasArgs.length h.2]
  | [], _ :: _, h => h.elim
  | _ :: _, [], h => h.elim
section
variable {P : Program} {te : TE} {w : World} {H : Type} {enc : TypeId × Value → H}
theorem scalar_cells {t : TypeId} {v : Value} {dsc : TypeDesc} {r : Reach} {base : Nat} (hu : P.underlying t = some dsc) (hn : (match dsc with | .int _ | .bool | .string | .slice _ => true | _ => false) = true)
    (h : Value.okWide P w r base t v) : v.cells = #[v] := by
  cases dsc <;> simp at hn
  · simp only [Value.okWide, hu, Cell.okWide] at h
    cases v <;> simp_all [Cell.ok, Value.cells]
  · simp only [Value.okWide, hu, Cell.okWide] at h
    cases v <;> simp_all [Cell.ok, Value.cells]
  · simp only [Value.okWide, hu, Cell.okWide] at h
    cases v <;> simp_all [Cell.ok, Value.cells]
  · simp only [Value.okWide, hu, Cell.okWide] at h
    cases v <;> simp_all [Cell.ok, Value.cells]
theorem arg_rep (hte : TEok P te) {d : Nat} {t : TypeId} {i : TI} {v : Value} {r : Reach} {base : Nat} {l : List AV} (hg : te.get t = some i) (hp : plainT te d t = true) (hv : Value.okWide P w r base t v)
    (hc : CellsAre w v.cells.toList l) : Rep w noO noL (mkAV i.k.agg l) v := by
  cases d with
  | zero => simp [plainT] at hp
  | succ d =>
    simp only [plainT, hg] at hp
    have ht := hte.tells hg
    have one : v.cells = #[v] → i.k.agg = false → Rep w noO noL (mkAV i.k.agg l) v := by
      intro h1 h2
      rw [h1] at hc
      obtain ⟨h3, h4⟩ := hc
      have h3 : l.length = 1 := h3
      obtain ⟨a, rfl⟩ := List.length_eq_one_iff.1 h3
      obtain ⟨_, v', h5, h6⟩ := h4 0 a rfl
      simp at h5
      subst h5
      rw [h2]
      exact h6
    have many : (∃ cs, v = .agg cs) → i.k.agg = true → Rep w noO noL (mkAV i.k.agg l) v := by
      rintro ⟨cs, rfl⟩ h2
      simp only [Value.cells] at hc
      obtain ⟨h3, h4⟩ := hc
      rw [h2]
      refine .agg (fun j => cs.getD j undef) (by simpa using h3.symm) (fun j hj => ?_) (fun j c hj => ?_)
      · have : j < cs.size := by simp at h3; omega
        simp [Array.getD, this]
      · obtain ⟨_, v, h5, h6⟩ := h4 j c hj
        rw [Array.getElem?_toList] at h5
        rw [Array.getD_eq_getD_getElem?, h5]
        exact h6
    obtain ⟨k, size, bytes, zero⟩ := i
    cases k with
    | int k => exact one (scalar_cells (ht.int rfl) rfl hv) rfl
    | bool => exact one (scalar_cells (ht.bool rfl) rfl hv) rfl
    | str => exact one (scalar_cells (ht.str rfl) rfl hv) rfl
    | slice e => exact one (scalar_cells (ht.slice rfl) rfl hv) rfl
    | arr m e =>
      refine many ?_ rfl
      simp only [Value.okWide, ht.arr rfl] at hv
      exact ⟨hv.choose, hv.choose_spec.1⟩
    | struct fs =>
      obtain ⟨fl, f1, f2⟩ := ht.struct rfl
      refine many ?_ rfl
      simp only [Value.okWide, f1] at hv
      exact ⟨hv.choose, hv.choose_spec.1⟩
    | _ => cases hp
theorem open_args (hte : TEok P te) {d : Nat} {r : Reach} {base : Nat} : ∀ {ts : List TypeId} {vs : List Value} {ds : List (DataW H)} {ps : List MemPlace}, DataW.TrodAll enc P w 0 (fun _ => true) true ts vs ds ps → (ts.all fun t => plainT te d t) = true →
    (∀ (j : Nat) t v, ts[j]? = some t → vs[j]? = some v → Value.okWide P w r base t v) → (∀ m ∈ DataW.weightsEach P ts ds, m ≤ reachBytes) →
    ∃ l, HasArgs te d ts l ∧ vs.length = l.length ∧ ∀ (j : Nat) c, l[j]? = some c → ∃ v, vs[j]? = some v ∧ Rep w noO noL c v
  | [], [], [], ps, h, hp, hv, hw => ⟨[], trivial, rfl, fun j c hj => by simp at hj⟩
  | t :: ts, v :: vs, x :: ds, ps, h, hp, hv, hw => by
    obtain ⟨p, q, ⟨n, h1⟩, h2, rfl⟩ := h
    simp only [List.all_cons, Bool.and_eq_true] at hp
    simp only [DataW.weightsEach, List.mem_append] at hw
    obtain ⟨l, l1, l2, l3⟩ := open_args hte h2 hp.2 (fun j t v ht hv' => hv (j + 1) t v (by simpa using ht) (by simpa using hv')) (fun m hm => hw m (.inr hm))
    obtain ⟨a, a1, a2⟩ := open_has hte d t hp.1 n _ _ h1 (fun m hm => hw m (.inl hm))
    have hg : ∃ i, te.get t = some i := by
      cases d with
      | zero => simp [plainT] at hp
      | succ d =>
        have := hp.1
        simp only [plainT] at this
        cases hg : te.get t with
        | none => rw [hg] at this; cases this
        | some i => exact ⟨i, rfl⟩
    obtain ⟨i, hg⟩ := hg
    have hr := arg_rep hte hg hp.1 (hv 0 t v rfl rfl) a2
    refine ⟨mkAV i.k.agg a :: l, ⟨⟨i, a, hg, a1, rfl⟩, l1⟩, by simp [l2], fun j c hj => ?_⟩
    cases j with
    | zero => simp at hj; subst hj; exact ⟨v, rfl, hr⟩
    | succ j => simpa using l3 j c (by simpa using hj)
  | [], _ :: _, _, _, h, _, _, _ => by simp [DataW.TrodAll] at h
  | [], [], _ :: _, _, h, _, _, _ => by simp [DataW.TrodAll] at h
  | _ :: _, [], _, _, h, _, _, _ => by simp [DataW.TrodAll] at h
  | _ :: _, _ :: _, [], _, h, _, _, _ => by simp [DataW.TrodAll] at h
theorem trodAll_stay (hl : laidOutB P = true) {w' : World} (hb : Below w.heap.size w w') : ∀ {ts : List TypeId} {vs : List Value} {ds : List (DataW H)} {ps : List MemPlace}, DataW.TrodAll enc P w 0 (fun _ => true) true ts vs ds ps →
    (ts.all fun t => P.readableRec t && decide (t < P.types.size)) = true → DataW.TrodAll enc P w' 0 (fun b => decide (b < w.heap.size)) true ts vs ds ps
  | [], [], [], ps, h, hp => h
  | t :: ts, v :: vs, y :: ds, ps, h, hp => by
    obtain ⟨p, q, h1, h2, rfl⟩ := h
    simp only [List.all_cons, Bool.and_eq_true, decide_eq_true_eq] at hp
    have hlt : ∀ x ∈ p, x.block < w.heap.size := fun x hx => by obtain ⟨n, h1⟩ := h1; exact DataW.trod_lt n _ _ _ h1 x hx
    exact ⟨p, q, Below.trod hl hp.1.1 hp.1.2 h1 hb hlt, trodAll_stay hl hb h2 (by simpa using hp.2), rfl⟩
  | [], _ :: _, _, _, h, _ => by simp [DataW.TrodAll] at h
  | [], [], _ :: _, _, h, _ => by simp [DataW.TrodAll] at h
  | _ :: _, [], _, _, h, _ => by simp [DataW.TrodAll] at h
  | _ :: _, _ :: _, [], _, h, _ => by simp [DataW.TrodAll] at h
theorem law_row (hte : TEok P te) {f : FuncId} {fn : Func} {s : ChangeSpec} {d : Nat} {tb : TypeId} (hl : laidOutB P = true) (hp : (fn.params.toList.all fun t => plainT te d t) = true)
    (hp2 : (fn.params.toList.all fun t => P.readableRec t && decide (t < P.types.size)) = true) (hres : fn.resultTypes = #[tb]) (hb : P.underlying tb = some .bool) (hvars : s.vars = [])
    (hfn : ∀ ds : List (DataW H), ds.length = fn.params.toList.length → (s.fn H ds).results = [.lit (.bool true)] ∧ (s.fn H ds).args = ds ∧ (s.fn H ds).vars = [])
    (hac : ∀ l, HasArgs te d fn.params.toList l → AC P f l emp (Ret (tf true)))
    {W : World} {base : Nat} {args : Array Value} {ds gs : List (DataW H)} {before : List MemPlace}
    (hval : ∀ (j : Nat) t v, fn.params[j]? = some t → args[j]? = some v → Value.okWide P W .any base t v) (hW : DataW.Whole enc P fn.params.toList s.vars false W args.toList ds gs before)
    (hsz : (DataW.weightsEach P (fn.params.toList ++ s.plain.varTypes P) (ds ++ gs)).all (· ≤ reachBytes) = true) :
    Calls P f args W fun e W' => ∃ v, e = .returned v ∧ s.post enc P fn false true false false W args v W' := by
  have hW' := hW
  obtain ⟨p, q, hA, hV, rfl, hfz, hnd⟩ := hW
  rw [hvars] at hV
  obtain ⟨rfl, rfl⟩ := trodVars_none hV
  have hlen : ∀ {ts : List TypeId} {vs : List Value} {ds : List (DataW H)} {ps : List MemPlace}, DataW.TrodAll enc P W 0 (fun _ => true) true ts vs ds ps → ds.length = ts.length := by
    intro ts
    induction ts with
    | nil => intro vs ds ps h; cases vs <;> cases ds <;> first | rfl | (simp [DataW.TrodAll] at h)
    | cons t ts ih =>
      intro vs ds ps h
      cases vs with
      | nil => simp [DataW.TrodAll] at h
      | cons v vs =>
        cases ds with
        | nil => simp [DataW.TrodAll] at h
        | cons x ds =>
          obtain ⟨_, _, _, h2, _⟩ := h
          simp [ih h2]
  have hdl := hlen hA
  obtain ⟨l, l1, l2, l3⟩ := open_args hte hA hp (fun j t v ht hv => hval j t v (by simpa using ht) (by simpa using hv)) (fun m hm => by
    have := List.all_eq_true.1 hsz m ?_
    · simpa using this
    · rw [List.append_nil]
      have key : ∀ (ts us : List TypeId) (ds : List (DataW H)), m ∈ DataW.weightsEach P ts ds → m ∈ DataW.weightsEach P (ts ++ us) ds := by
        intro ts
        induction ts with
        | nil => intro us ds h; simp [DataW.weightsEach] at h
        | cons t ts ih =>
          intro us ds h
          cases ds with
          | nil => simp [DataW.weightsEach] at h
          | cons x ds =>
            simp only [DataW.weightsEach, List.mem_append, List.cons_append] at h ⊢
            exact h.imp id (ih us ds)
      exact key _ _ _ hm)
  obtain ⟨_, hcall⟩ := hac l l1
  have hs0 : HSim W noO noL emp := ⟨(fun id ob h => by cases h), fun _ _ => rfl, (fun id l b o h => by cases h), (fun id id' l l' b o o' h => by cases h), fun k b h => h.elim⟩
  refine hcall noL W noO args hs0 ⟨by simpa using l2, fun j c hj => by simpa using l3 j c hj⟩ _ ?_ ?_
  · intro r h' w' φ' v hR hs' g hr
    obtain ⟨hr1, _⟩ := hR
    cases hr1
    cases hr
    have bel : Below W.heap.size W w' := ⟨g.os, g.tape, g.output, g.size, fun k hk => g.keep k hk owned_none⟩
    obtain ⟨f1, f2, f3⟩ := hfn ds hdl
    refine ⟨_, rfl, ds, [], p ++ [], [], p, [], hW', ?_, ?_, ?_, bel.frame _, fun h => by cases h⟩
    · rw [List.append_nil, f1, hres]
      exact trodAll_mk1 (shut_bool hb true)
    · rw [List.append_nil, f2]
      exact trodAll_stay hl bel hA hp2
    · rw [List.append_nil, f3, hvars]
      rfl
  · intro x h' w' φ' hR
    exact absurd hR.1 (by simp)
end
end Go.Proofs.Ytfojdjlhpejbpaa.Fw


set_option linter.unusedVariables false
set_option linter.unusedSimpArgs false
namespace Go.Proofs.Ytfojdjlhpejbpaa.Fw
open Go.RowKit
section
variable {te : TE}
theorem has_str {d : Nat} {t : TypeId} {i : TI} {cs : List AV} (h : Has te d t cs) (hg : te.get t = some i) (hk : i.k = .str) : ∃ l : List UInt8, cs = [str l] ∧ l.length ≤ 140737488351232 := by
  cases d with
  | zero => simp [Has] at h
  | succ d =>
    simp only [Has, hg, hk] at h
    obtain ⟨l, h1, h2⟩ := h
    exact ⟨l, h2, h1⟩
theorem arg_cons {d : Nat} {t : TypeId} {i : TI} {ts : List TypeId} {l : List AV} (h : HasArgs te d (t :: ts) l) (hg : te.get t = some i) : ∃ cs r, Has te d t cs ∧ HasArgs te d ts r ∧ l = mkAV i.k.agg cs :: r := by
  cases l with
  | nil => exact h.elim
  | cons a r =>
    obtain ⟨⟨i', cs, h1, h2, h3⟩, h4⟩ := h
    rw [hg] at h1
    cases h1
    subst h3
    exact ⟨cs, r, h2, h4, rfl⟩
theorem arg_nil {d : Nat} {l : List AV} (h : HasArgs te d [] l) : l = [] := by
  cases l with
  | nil => rfl
  | cons a r => exact h.elim
theorem args1 {d : Nat} {t : TypeId} {i : TI} {l : List AV} (h : HasArgs te d [t] l) (hg : te.get t = some i) : ∃ cs, Has te d t cs ∧ l = [mkAV i.k.agg cs] := by
  obtain ⟨cs, r, h1, h2, rfl⟩ := arg_cons h hg
  obtain rfl := arg_nil h2
  exact ⟨cs, h1, rfl⟩
theorem args2 {d : Nat} {t u : TypeId} {i j : TI} {l : List AV} (h : HasArgs te d [t, u] l) (hg : te.get t = some i) (hg2 : te.get u = some j) : ∃ cs es, Has te d t cs ∧ Has te d u es ∧ l = [mkAV i.k.agg cs, mkAV j.k.agg es] := by
  obtain ⟨cs, r, h1, h2, rfl⟩ := arg_cons h hg
  obtain ⟨es, h3, rfl⟩ := args1 h2 hg2
  exact ⟨cs, es, h1, h3, rfl⟩
end
end Go.Proofs.Ytfojdjlhpejbpaa.Fw


set_option linter.unusedVariables false
set_option linter.unusedSimpArgs false
namespace Go.Proofs.Ytfojdjlhpejbpaa.Fw
open Go.RowKit
section
variable {n : Nat} {s : AS} {o : Oper} {d : Option Tmp}
theorem run_equal_pnil {P : Program} {t e : TypeId} {a : Option Addr} (ht : P.underlying t = some (.pointer e)) (w : World) : (Op.equal t (.pointer a) (.pointer none)).run P w = .ok a.isNone w := by
  have h : ∀ q, (Op.equalIn (q + 1) t (.pointer a) (.pointer none)).run P w = .ok a.isNone w := fun q => by cases a <;> simp [Op.equalIn, run_underlying ht]
  exact h 9999
def pnil? : AV → Option Bool
  | .ptr .. | .fp .. => some false
  | .v (.pointer a) => some a.isNone
  | _ => none
theorem rep_pnil {w : World} {φ : PMap} {Λ : Lent} {x : AV} {v : Value} {b : Bool} (h : Rep w φ Λ x v) (hb : pnil? x = some b) : ∃ a, v = .pointer a ∧ a.isNone = b := by
  cases h with
  | v =>
    cases v <;> simp [pnil?] at hb
    exact ⟨_, rfl, hb⟩
  | fp => simp [pnil?] at hb; subst hb; exact ⟨_, rfl, rfl⟩
  | ptr => simp [pnil?] at hb; subst hb; exact ⟨_, rfl, rfl⟩
  | ptrx => simp [pnil?] at hb; subst hb; exact ⟨_, rfl, rfl⟩
  | _ => simp [pnil?] at hb
theorem q_pnil {op : BinOp} {t u e : TypeId} {x y : Operand} {a : AV} {b r : Bool} {ti : TI} (ho : o.op = .binOp op t x y u := by exact rfl) (hx : s.ev x = a := by conv => lhs; whnf) (ha : pnil? a = some b := by exact rfl) (hy : s.ev y = .v (.pointer none) := by exact rfl)
    (ht : te.get t = some ti := by exact rfl) (hk : ti.k = .ptr e := by exact rfl) (hop : (op = .eql ∧ r = b) ∨ (op = .neq ∧ r = !b) := by first | exact .inl ⟨rfl, rfl⟩ | exact .inr ⟨rfl, rfl⟩)
    (hdd : o.dst = d := by conv => lhs; whnf) (hd : d.all (Nat.blt · n) = true := by exact rfl) : OpOk Try.prog n o s (s.put d (tf r)) :=
  .val hdd hd fun Λ w φ ac hs => by
    have hr := hs.ev x
    rw [hx] at hr
    obtain ⟨ad, e1, e2⟩ := rep_pnil hr ha
    have e3 := run_equal_pnil (a := ad) ((te_ok.tells ht).ptr hk) w
    refine ⟨.bool r, ?_, .v⟩
    rcases hop with ⟨rfl, rfl⟩ | ⟨rfl, rfl⟩ <;> simp [execOp, ho, e1, ev_v hs hy, eqGuard, binOp, e3, e2]
end
def whole (agg : Bool) (xs : List Value) : Value := bif agg then .agg xs.toArray else xs.headD undef
section
variable {P : Program} {te : TE}
end
section
variable {n : Nat} {s : AS} {o : Oper} {d : Option Tmp}
end
end Go.Proofs.Ytfojdjlhpejbpaa.Fw


set_option linter.unusedVariables false
set_option linter.unusedSimpArgs false
namespace Go.Proofs.Ytfojdjlhpejbpaa.Fw
open Go.RowKit
section
variable {ρ : Nat → Bool} {σ : IdMap} {h : Heap} {lo hi : Nat}
theorem lv_nilz {l k : Nat} {α : Type} {f : α → List AV} : LVal ρ σ h lo hi (.v (.slice none 0 k)) (.fz l ([] : List α).length (cl f [])) := lv_nil
theorem lv_row0 {id ver esz : Nat} {α : Type} {f : α → List AV} {l : List α} {ob : AObj} (hi' : σ.inv id = none) (h1 : h id = some ob) (h2 : ObAt ob ver (cl f l)) (hf : ∀ x, (f x).length = esz) (h5 : 0 < esz) (h3 : ∀ x, AV.oks lo (f x) = true) :
    LVal ρ σ h lo hi (.sl id ver 0 l.length esz) (.fz hi l.length (cl f l)) :=
  lv_row hi' h1 h2.at (cl_oks h3) (by rw [cl_length hf]; omega) h5 (by rw [List.drop_zero, List.take_of_length_le (by rw [cl_length hf]; omega)])
theorem lv_row1 {id ver a m : Nat} {α : Type} {f : α → List AV} {l : List α} {ob : AObj} (hi' : σ.inv id = none) (h1 : h id = some ob) (h2 : ObAt ob ver (cl f l)) (hf : ∀ x, (f x).length = 1) (h3 : ∀ x, AV.oks lo (f x) = true) (hm : a + m ≤ l.length) :
    LVal ρ σ h lo hi (.sl id ver a m 1) (.fz hi ((l.drop a).take m).length (cl f ((l.drop a).take m))) := by
  have e : ((l.drop a).take m).length = m := by simp; omega
  rw [e]
  refine lv_row hi' h1 h2.at (cl_oks h3) (by rw [cl_length hf]; omega) (by decide) ?_
  have e1 := cl_drop hf l a
  have e2 := cl_take hf (l.drop a) m
  rw [Nat.mul_one] at e1 e2 ⊢
  rw [e1, e2]
theorem lv_rn {c k ver off len esz : Nat} {ob : AObj} {cells : List AV} (e : σ.get c = some k) (ho : h k = some ob) (hc : ObAt ob ver cells) (hρ : ρ c = true) : LVal ρ σ h lo hi (.sl k ver off len esz) (.sl c 0 off len esz) := lv_sl0 e ho hc.at hρ
theorem lobj_row {ty : Option TypeId} {α : Type} {f : α → List AV} {l : List α} {e v : Nat} (h3 : ∀ x, AV.oks lo (f x) = true) : LObj ρ σ h lo hi false (.grow ty (cl f l) e v) (.grow ty (cl f l) e v) := ⟨⟨rfl, rfl⟩, rfl, lvs_ok (cl_oks h3)⟩
theorem lobj_rown {ty : Option TypeId} {α : Type} {f : α → List AV} {l : List α} {e v : Nat} (h3 : ∀ x, AV.oks lo (f x) = true) : LObj ρ σ h lo hi true (.grow ty (cl f l) e v) (.grow ty (cl f l) e 0) := ⟨⟨rfl, rfl⟩, rfl, lvs_ok (cl_oks h3)⟩
theorem lobj_box {ty : Option TypeId} {cs cs' : List AV} {rn : Bool} (e : LVals ρ σ h lo hi cs cs') : LObj ρ σ h lo hi rn (.gbox ty cs) (.gbox ty cs') := ⟨rfl, e⟩
end
theorem hb_rowc {f : Nat → Nat} {ty : Option TypeId} {α : Type} {g : α → List AV} {l : List α} {e v : Nat} {lv : Nat} (h : ∀ x, AV.oks lv (g x) = true) : (AObj.grow ty (cl g l) e v).ren f = .grow ty (cl g l) e v := hb_row (cl_oks (lv := lv) h)
theorem hl_row {lv : Nat} {S : Nat → Bool} {ty : Option TypeId} {α : Type} {g : α → List AV} {l : List α} {e v : Nat} (h : ∀ x, AV.oks lv (g x) = true) : (AObj.grow ty (cl g l) e v).lev lv = true ∧ ObjIn S (.grow ty (cl g l) e v) :=
  ⟨AV.levs_ok (cl_oks h), AV.refss_ok (cl_oks h)⟩
section
variable {n : Nat} {s : AS} {o : Oper} {d : Option Tmp} {Q : APost}
theorem q_callB (lv : Nat) (σ ν : IdMap) (hl' : List (Nat × AObj)) {f : FuncId} {A : List AV} {r r' : AV} {hb hl : List (Nat × AObj)} {fop : Operand} {argops : Array Operand} {tys : Array TypeId} {first caps : List AV}
    (ho : o.op = .call { callee := .value fop, args := argops, argTypes := tys } := by exact rfl) (hf : s.ev fop = .fn (.func f) first caps := by exact rfl)
    (hwf : (σ ++ ν : IdMap).wf = true := by exact rfl) (hwf1 : σ.wf = true := by exact rfl) (h8 : (σ.all fun p => Nat.blt p.1 8) = true := by exact rfl) (hfresh : (ν.all fun p => (s.h p.2).isNone) = true := by exact rfl)
    (hobj : BObjs (fun _ => false) σ s.h lv (lv + 1) σ hb := by repeat' (first | exact trivial | exact lv_ok rfl | exact lv_sl rfl rfl | exact lv_ptr rfl rfl | exact lv_mp rfl rfl | exact lobj_row (fun _ => rfl) | refine lobj_box ?_ | refine ⟨rfl, ⟨_, rfl, ?_⟩, ?_⟩ | refine ⟨?_, ?_⟩))
    (hA : LVals (fun _ => false) σ s.h lv (lv + 1) (first ++ argops.toList.map s.ev ++ caps) A := by repeat' (first | exact trivial | exact lv_ok rfl | exact lv_ptr rfl rfl | exact lv_sl rfl rfl | exact lv_mp rfl rfl | exact lv_nilz | exact lv_row0 rfl rfl .row (fun _ => rfl) (Nat.le_of_ble_eq_true rfl) (fun _ => rfl) | refine ⟨?_, ?_⟩ | exact lv_row1 rfl rfl .row (fun _ => rfl) (fun _ => rfl) (by first | omega | (simp; omega))))
    (hB : HB (IdMap.to (σ ++ ν)) (σ ++ ν) hl hl' := by repeat' (first | exact trivial | exact hb_rowc (lv := 0) (fun _ => rfl) | exact rfl | refine ⟨rfl, rfl, ?_, ?_⟩))
    (hL : HL lv (IdMap.has (σ ++ ν)) hl := by repeat' (first | exact trivial | exact hl_row (fun _ => rfl) | exact ⟨rfl, rfl⟩ | refine ⟨?_, ?_⟩))
    (hr : r.lev lv = true := by exact rfl) (hr2 : r.refs (IdMap.has (σ ++ ν)) = true := by exact rfl) (hr3 : r.ren (IdMap.to (σ ++ ν)) = r' := by conv => lhs; whnf) (hdd : o.dst = d := by conv => lhs; whnf) (hd : d.all (Nat.blt · n) = true := by exact rfl) (hc : AC Try.prog f A (hlook hb) (RetH r hl)) :
    OpOk Try.prog n o s ((s.setl hl').put d r') := ok_callB lv σ ν hb hl' ho hf hc hwf hwf1 h8 hfresh hobj hA hB hL hr hr2 hr3 hdd hd
theorem q_retH (lv : Nat) (rn : List Nat) (xs ys : List AV) (hl : List (Nat × AObj)) {fn : Func} {r : AV} (h3 : resVal ys = r) (h1 : ResOks te s fn.results.toList xs := by repeat' (first | exact trivial | exact res_tmp' | exact res_cell' | refine ⟨?_, ?_⟩))
    (hobj : BObjs (inl rn) (idm hl) s.h lv lv (idm hl) hl := by repeat' (first | exact trivial | exact lv_ok rfl | exact lv_sl rfl rfl | exact lv_rn rfl rfl .row rfl | exact lv_ptr rfl rfl | exact lv_mp rfl rfl | exact lv_nilz | exact lv_row0 rfl rfl .row (fun _ => rfl) (Nat.le_of_ble_eq_true rfl) (fun _ => rfl) | exact lobj_row (fun _ => rfl) | exact lobj_rown (fun _ => rfl) | refine lobj_box ?_ | refine ⟨rfl, ⟨_, rfl, ?_⟩, ?_⟩ | refine ⟨?_, ?_⟩))
    (h2 : LVals (inl rn) (idm hl) s.h lv lv xs ys := by repeat' (first | exact trivial | exact lv_ok rfl | exact lv_ptr rfl rfl | exact lv_sl rfl rfl | exact lv_rn rfl rfl .row rfl | exact lv_mp rfl rfl | exact lv_nilz | exact lv_row0 rfl rfl .row (fun _ => rfl) (Nat.le_of_ble_eq_true rfl) (fun _ => rfl) | refine ⟨?_, ?_⟩))
    (hrn : (rn.all fun c => Nat.ble 8 c) = true := by exact rfl) (hp : pinKept s.h (keys hl) = true := by exact rfl) : Fin te fn (RetH r hl) s := Fin.retH lv rn hl h1 hobj h2 h3 hrn hp
theorem AC.fz {f : FuncId} {A : List AV} {h : Heap} {r r' : AV} {hl : List (Nat × AObj)} (hc : AC Try.prog f A h (RetH r hl)) (lv : Nat) (e : FVal (hlook hl) lv lv r r') (hp : pinFree (hlook hl) = true := by exact rfl) : AC Try.prog f A h (Ret r') := by
  refine ⟨hc.1, fun Λ w φ vals hs ha QQ h1 h2 => hc.2 Λ w φ vals hs ha QQ (fun r1 h' w' φ' v k hs' g hr => ?_) (fun x h' w' φ' k => absurd k.1 (by simp))⟩
  obtain ⟨k1, k2⟩ := k
  cases k1
  subst k2
  obtain ⟨φ2, g1, g2, g3⟩ := Sees.fv e hp w' φ' Λ v hs' hr
  exact h1 r' emp w' φ2 v ⟨rfl, rfl⟩ g1 (g.trans g3) g2
inductive NilTo (s : AS) : AV → Nat → Prop
  | fz {lv m cs} : NilTo s (.fz lv m cs) m
  | sl {id ver off len esz ob cells} (hob : s.h id = some ob) (hat : ObAt ob ver cells) : NilTo s (.sl id ver off len esz) len
theorem AOps.weak {P : Program} {ops : Array Oper} {l : List Nat} {s' : AS} (hw : Weak s s') (h : AOps P n ops Q l s') : AOps P n ops Q l s := by
  intro Λ w φ a hs QQ hQ
  obtain ⟨φ1, hs1, g1⟩ := hw n Λ w φ a hs
  exact h Λ w φ1 a hs1 QQ fun ae s2 w2 φ2 a2 q2 hs2 g2 => hQ ae s2 w2 φ2 a2 q2 hs2 (g1.trans g2)
theorem Weak.nilcell (k id j esz : Nat) {ty ty' : Option TypeId} {α : Type} (f : α → List AV) {cells cells' : List AV} (hk : s.h k = some (.gbox ty cells) := by exact rfl) (hid : s.h id = none := by exact rfl) (hj : cells[j]? = some (.v (.slice none 0 0)) := by exact rfl)
    (hc' : cells.set j (.sl id 0 0 ([] : List α).length esz) = cells' := by first | (simp only [List.set_cons_zero, List.set_cons_succ]; rfl) | exact rfl) :
    Weak s ((s.seth id (some (.grow ty' (cl f []) esz 0))).seth k (some (.gbox ty cells'))) := by
  subst hc'
  intro n Λ w φ a hs
  have hn := hs.hs.dom id hid
  have hc : Chg w φ Λ s.h id ⟨none, 0⟩ w := ⟨hs.hs, Nat.le_refl _, rfl, rfl, rfl, fun _ _ _ => rfl, (fun b' o' h => by cases h), (fun l hl => by rw [hn] at hl; cases hl), (fun l hl => by rw [hn] at hl; cases hl)⟩
  have h1 : HSim w (upd φ id (some ⟨none, 0⟩)) Λ (upd s.h id (some (.grow ty' (cl f []) esz 0))) := hc.hsim ⟨rfl, .inl ⟨rfl, rfl⟩⟩
  have hne : k ≠ id := fun e => by rw [e, hid] at hk; cases hk
  refine ⟨upd φ id (some ⟨none, 0⟩), ⟨hs.defs, hs.size, fun i => hc.rep (hs.tmps i), ?_⟩, hc.goes⟩
  refine ⟨fun i ob hi => ?_, fun i hi => ?_, h1.lt, h1.inj, h1.lent⟩
  · by_cases he : i = k
    · subst he
      replace hi : upd (upd s.h id (some (.grow ty' (cl f []) esz 0))) i (some (.gbox ty (cells.set j (.sl id 0 0 0 esz)))) i = some ob := hi
      rw [upd_same] at hi
      cases hi
      obtain ⟨l, g1, b, arr, T, g2, g3, g4, g5, g6⟩ := h1.heap i (.gbox ty cells) (by rw [upd_other _ _ _ _ hne]; exact hk)
      refine ⟨l, g1, b, arr, T, g2, g3, g4, by simpa using g5, fun m c hm => ?_⟩
      rw [List.getElem?_set] at hm
      split at hm
      · rename_i e
        subst e
        obtain ⟨v, e1, e2⟩ := g6 j _ hj
        cases e2
        split at hm
        · cases hm
          exact ⟨_, e1, .sl0 (upd_same _ _ _) rfl⟩
        · cases hm
      · exact g6 m c hm
    · exact h1.heap i ob (by
        have : upd (upd s.h id (some (.grow ty' (cl f []) esz 0))) k (some (.gbox ty (cells.set j (.sl id 0 0 0 esz)))) i = some ob := hi
        rwa [upd_other _ _ _ _ he] at this)
  · refine h1.dom i ?_
    replace hi : upd (upd s.h id (some (.grow ty' (cl f []) esz 0))) k (some (.gbox ty (cells.set j (.sl id 0 0 0 esz)))) i = none := hi
    by_cases he : i = k
    · subst he
      rw [upd_same] at hi
      cases hi
    · rwa [upd_other _ _ _ _ he] at hi
end
end Go.Proofs.Ytfojdjlhpejbpaa.Fw


set_option linter.unusedVariables false
set_option linter.unusedSimpArgs false
namespace Go.Proofs.Ytfojdjlhpejbpaa.Fw
open Go.RowKit
def sc (x : List UInt8) : List AV := [str x]
def kc (k : IntKind) (x : Int) : List AV := [.v (.int k x)]
theorem getD_mem {α : Type} [Inhabited α] {l : List α} {i : Nat} (h : i < l.length) : l.getD i default ∈ l := by
  rw [List.getD_eq_getElem?_getD, List.getElem?_eq_getElem h]
  exact List.getElem_mem h
theorem q_conv_sl (id : Nat) {n : Nat} {s : AS} {o : Oper} {d : Option Tmp} {src dst e : TypeId} {x : Operand} {l : List UInt8} {ti tj tk : TI} (ho : o.op = .convert src dst x := by exact rfl) (hx : s.ev x = str l := by exact rfl) (hi : te.get src = some ti := by exact rfl) (hk : ti.k = .str := by exact rfl)
    (hj : te.get dst = some tj := by exact rfl) (hk2 : tj.k = .slice e := by exact rfl) (he : te.get e = some tk := by exact rfl) (hk3 : tk.k = .int .u8 := by exact rfl) (hid : s.h id = none := by exact rfl)
    (hdd : o.dst = d := by conv => lhs; whnf) (hd : d.all (Nat.blt · n) = true := by exact rfl) : OpOk Try.prog n o s ((s.seth id (some (.row (cl bc l) 1 0))).put d (.sl id 0 0 l.length 1)) :=
  .chg hdd hd fun Λ w φ a hs => by
    have hrun := Lib.run_convert_string_bytes (P := Try.prog) w src dst e ⟨⟨l⟩⟩ ((te_ok.tells hi).str hk) ((te_ok.tells hj).slice hk2) ((te_ok.tells he).int hk3)
    have hn := hs.hs.dom id hid
    have hsz := Lib.bytesWorld_size w e ⟨⟨l⟩⟩
    have hnew := Lib.bytesWorld_at_new w e ⟨⟨l⟩⟩
    have hl : (⟨⟨l⟩⟩ : ByteArray).size = l.length := rfl
    have hc : Chg w φ Λ s.h id ⟨some (w.heap.size, 0), 0⟩ (Lib.bytesWorld w e ⟨⟨l⟩⟩) := by
      refine ⟨hs.hs, by omega, rfl, rfl, rfl, fun k hk _ => Lib.bytesWorld_at_old w e _ k hk, fun b' o' hb => ?_, fun l hl => ?_, fun l hl => ?_⟩
      · simp only [Option.some.injEq, Prod.mk.injEq] at hb
        obtain ⟨rfl, rfl⟩ := hb
        exact ⟨by omega, .inl (Nat.le_refl _)⟩
      · rw [hn] at hl; cases hl
      · rw [hn] at hl; cases hl
    have hcs : (Lib.bytesCells w e ⟨⟨l⟩⟩).size = l.length + (grownCap w l.length 0 e - l.length) := by simp [Lib.bytesCells, hl]
    refine ⟨_, _, _, ?_, hc, ⟨rfl, .inr ⟨w.heap.size, 0, _, e, _, _, rfl, hnew, .inl (Nat.le_refl _), by rw [bs_length]; omega, fun j c hj => ?_⟩⟩, .slice (some ⟨w.heap.size, 0, none⟩) l.length (grownCap w l.length 0 e), .inl rfl, ?_⟩
    · simp only [execOp, ho, ev_v hs hx, Sem.run_bind, hrun, Result.andThen_ok, Sem.run_pure, hl]
    · rw [bs_map, List.getElem?_map, Option.map_eq_some_iff] at hj
      obtain ⟨b, hb, rfl⟩ := hj
      have hlt := (List.getElem?_eq_some_iff.1 hb).1
      refine ⟨.int .u8 b.toNat, ?_, .v⟩
      have hb2 : l[j] = b := by
        rw [List.getElem?_eq_getElem hlt] at hb
        exact Option.some.inj hb
      simp [Lib.bytesCells, Array.getElem?_append, hlt, hb2]
    · have h0 := grownCap_ge w l.length 0 e
      exact Rep.sl (off := 0) (upd_same _ _ _) rfl rfl hnew (by omega) h0
section
variable {te : TE}
end
end Go.Proofs.Ytfojdjlhpejbpaa.Fw


set_option linter.unusedVariables false
set_option linter.unusedSimpArgs false
namespace Go.Proofs.Ytfojdjlhpejbpaa.Fw
open Go.RowKit
def labs (n : List UInt8) : Option (List (List UInt8)) :=
  match n with
  | [] => none
  | k :: r => if k = 0 then (if r = [] then some [] else none) else if 63 < k.toNat ∨ r.length < k.toNat then none else (labs (r.drop k.toNat)).map (r.take k.toNat :: ·)
termination_by n.length
decreasing_by simp; omega
def joinN (ls : List (List UInt8)) : List UInt8 := ls.flatMap (fun l => byte (l.length : Int) :: l) ++ [0]
def GoodN (ls : List (List UInt8)) : Prop := ∀ l ∈ ls, 1 ≤ l.length ∧ l.length ≤ 63
theorem joinN_nil : joinN [] = [0] := rfl
theorem joinN_cons (l : List UInt8) (ls : List (List UInt8)) : joinN (l :: ls) = byte (l.length : Int) :: (l ++ joinN ls) := by simp [joinN, List.append_assoc]
theorem byte_nat {k : Nat} (h : k < 256) : (byte (k : Int)).toNat = k := by
  have := byte_toNat (k : Int)
  omega
theorem byte_len {l : List UInt8} (h : l.length ≤ 63) : (byte (l.length : Int)).toNat = l.length := byte_nat (by omega)
theorem byte_ne {l : List UInt8} (h : 1 ≤ l.length ∧ l.length ≤ 63) : byte (l.length : Int) ≠ 0 := fun e => by
  have := byte_len h.2
  rw [e] at this
  simp at this
  omega
theorem GoodN.tail {l : List UInt8} {ls : List (List UInt8)} (h : GoodN (l :: ls)) : GoodN ls := fun x hx => h x (by simp [hx])
theorem GoodN.head {l : List UInt8} {ls : List (List UInt8)} (h : GoodN (l :: ls)) : 1 ≤ l.length ∧ l.length ≤ 63 := h l (by simp)
theorem GoodN.nil : GoodN [] := fun x hx => by cases hx
theorem labs_join : ∀ {ls : List (List UInt8)}, GoodN ls → labs (joinN ls) = some ls
  | [], _ => by rw [joinN_nil, labs]; rfl
  | l :: ls, h => by
    have h1 := byte_len h.head.2
    rw [joinN_cons, labs, if_neg (byte_ne h.head), h1, if_neg (by simp; have := h.head; omega), List.drop_left, List.take_left, labs_join h.tail]
    rfl
theorem labs_some : ∀ {n : List UInt8} {ls : List (List UInt8)}, labs n = some ls → n = joinN ls ∧ GoodN ls := by
  intro n
  induction h : n.length using Nat.strongRecOn generalizing n with
  | ind m ih =>
    intro ls hl
    match n, h, hl with
    | [], _, hl => rw [labs] at hl; cases hl
    | k :: r, h, hl =>
      rw [labs] at hl
      by_cases hk : k = 0
      · rw [if_pos hk] at hl
        by_cases hr : r = []
        · rw [if_pos hr] at hl
          cases hl
          exact ⟨by rw [hk, hr]; rfl, GoodN.nil⟩
        · rw [if_neg hr] at hl; cases hl
      · rw [if_neg hk] at hl
        have hkp : 0 < k.toNat := by
          rcases Nat.eq_zero_or_pos k.toNat with e | e
          · exact absurd (UInt8.toNat_inj.1 (by simpa using e)) hk
          · exact e
        split at hl
        · cases hl
        · rename_i hc
          obtain ⟨q, hq, rfl⟩ := Option.map_eq_some_iff.1 hl
          obtain ⟨e, g⟩ := ih (r.drop k.toNat).length (by rw [← h]; simp; omega) rfl hq
          have hlen : (r.take k.toNat).length = k.toNat := by rw [List.length_take]; omega
          refine ⟨?_, fun x hx => ?_⟩
          · rw [joinN_cons, ← e, List.take_append_drop, hlen, byte_of_toNat]
          · rcases List.mem_cons.1 hx with rfl | hx
            · omega
            · exact g x hx
def canN (n : List UInt8) : Bool := (labs n).isSome && decide (n.length ≤ 255)
def labN (n : List UInt8) : List (List UInt8) := if canN n then (labs n).getD [] else []
theorem canN_iff {n : List UInt8} : canN n = true ↔ ∃ ls, GoodN ls ∧ n = joinN ls ∧ (joinN ls).length ≤ 255 := by
  simp only [canN, Bool.and_eq_true, decide_eq_true_eq]
  constructor
  · rintro ⟨h1, h2⟩
    obtain ⟨ls, hl⟩ := Option.isSome_iff_exists.1 h1
    obtain ⟨rfl, g⟩ := labs_some hl
    exact ⟨ls, g, rfl, h2⟩
  · rintro ⟨ls, g, rfl, h⟩
    exact ⟨by rw [labs_join g]; rfl, h⟩
theorem labN_join {ls : List (List UInt8)} (g : GoodN ls) (h : (joinN ls).length ≤ 255) : labN (joinN ls) = ls := by
  rw [labN, if_pos (canN_iff.2 ⟨ls, g, rfl, h⟩), labs_join g]; rfl
theorem labN_no {n : List UInt8} (h : canN n = false) : labN n = [] := by rw [labN, if_neg (by simp [h])]
theorem joinN_length (ls : List (List UInt8)) : ls.length < (joinN ls).length := by
  induction ls with
  | nil => simp [joinN]
  | cons l ls ih => rw [joinN_cons]; simp; omega
theorem joinN_le {l : List UInt8} {ls : List (List UInt8)} : (joinN ls).length < (joinN (l :: ls)).length := by rw [joinN_cons]; simp; omega
theorem labN_len (n : List UInt8) : (labN n).length ≤ 254 := by
  cases h : canN n with
  | false => simp [labN_no h]
  | true =>
    obtain ⟨ls, g, rfl, hl⟩ := canN_iff.1 h
    have := joinN_length ls
    rw [labN_join g hl]
    omega
def nextB (n : List UInt8) : Bool := decide (n.length = 0 ∨ (n.getD 0 0).toNat = 0 ∨ 63 < (n.getD 0 0).toNat ∨ n.length < 2 + (n.getD 0 0).toNat)
def nextL (n : List UInt8) : List UInt8 := if nextB n then [] else (n.take (1 + (n.getD 0 0).toNat)).drop 1
def nextR (n : List UInt8) : List UInt8 := if nextB n then n else n.drop (1 + (n.getD 0 0).toNat)
theorem next_join {l : List UInt8} {ls : List (List UInt8)} (g : GoodN (l :: ls)) : nextB (joinN (l :: ls)) = false ∧ nextL (joinN (l :: ls)) = l ∧ nextR (joinN (l :: ls)) = joinN ls := by
  have h1 := byte_len g.head.2
  have h0 : (joinN (l :: ls)).getD 0 0 = byte (l.length : Int) := by rw [joinN_cons]; rfl
  have hl := joinN_length ls
  have hb : nextB (joinN (l :: ls)) = false := by
    have := g.head
    simp only [nextB, h0, h1, decide_eq_false_iff_not]
    rw [joinN_cons, List.length_cons, List.length_append]
    omega
  refine ⟨hb, ?_, ?_⟩
  · rw [nextL, hb, h0, h1, joinN_cons, Nat.add_comm, List.take_succ_cons, List.drop_succ_cons, List.drop_zero, List.take_left]
    rfl
  · rw [nextR, hb, h0, h1, joinN_cons, Nat.add_comm, List.drop_succ_cons, List.drop_left]
    rfl
theorem next_root : nextB (joinN []) = true := by simp [nextB, joinN]
theorem nextR_lt {n : List UInt8} (h : nextB n = false) : (nextR n).length < n.length := by
  have h1 := h
  simp only [nextB, decide_eq_false_iff_not] at h1
  rw [nextR, h]
  simp only [Bool.false_eq_true, if_false, List.length_drop]
  omega
def finN (n : List UInt8) : List UInt8 := if h : nextB n = true then n else finN (nextR n)
termination_by n.length
decreasing_by exact nextR_lt (by simpa using h)
theorem finN_stop {n : List UInt8} (h : nextB n = true) : finN n = n := by rw [finN, dif_pos h]
theorem finN_step {n : List UInt8} (h : nextB n = false) : finN n = finN (nextR n) := by rw [finN, dif_neg (by simp [h])]
theorem labs_step {n : List UInt8} (h : nextB n = false) : (labs n).isSome = (labs (nextR n)).isSome := by
  have h1 := h
  simp only [nextB, decide_eq_false_iff_not] at h1
  match n, h, h1 with
  | [], _, h1 => simp at h1
  | k :: r, h, h1 =>
    simp only [List.getD_cons_zero, List.length_cons] at h1
    have hk : k ≠ 0 := fun e => by subst e; simp at h1
    rw [nextR, h, labs, if_neg hk, if_neg (by omega)]
    simp only [Bool.false_eq_true, if_false, List.getD_cons_zero, Option.isSome_map]
    rw [Nat.add_comm, List.drop_succ_cons]
theorem labs_stop {n : List UInt8} (h : nextB n = true) : (labs n).isSome = decide (n = [0]) := by
  simp only [nextB, decide_eq_true_eq] at h
  match n, h with
  | [], _ => rw [labs]; rfl
  | k :: r, h =>
    simp only [List.getD_cons_zero, List.length_cons] at h
    rw [labs]
    by_cases hk : k = 0
    · subst hk
      rw [if_pos rfl]
      by_cases hr : r = []
      · simp [hr]
      · simp [hr]
    · rw [if_neg hk]
      have hkp : 0 < k.toNat := by
        rcases Nat.eq_zero_or_pos k.toNat with e | e
        · exact absurd (UInt8.toNat_inj.1 (by simpa using e)) hk
        · exact e
      rw [decide_eq_false (by simp [hk])]
      split
      · rfl
      · rename_i hc
        have : r.drop k.toNat = [] := List.drop_eq_nil_of_le (by omega)
        rw [this, labs]
        rfl
theorem fin_labs (n : List UInt8) : decide (finN n = [0]) = (labs n).isSome := by
  induction h : n.length using Nat.strongRecOn generalizing n with
  | ind m ih =>
    cases hb : nextB n with
    | true => rw [finN_stop hb, labs_stop hb]
    | false => rw [finN_step hb, labs_step hb, ih (nextR n).length (by rw [← h]; exact nextR_lt hb) _ rfl]
theorem can_join {ls : List (List UInt8)} (g : GoodN ls) (h : (joinN ls).length ≤ 255) : canN (joinN ls) = true := canN_iff.2 ⟨ls, g, rfl, h⟩
theorem next_no {n : List UInt8} (h : nextB n = true) : nextL n = [] ∧ nextR n = n := by simp [nextL, nextR, h]
theorem next_yes {n : List UInt8} (h : nextB n = false) : nextL n = (n.take (1 + (n.getD 0 0).toNat)).drop 1 ∧ nextR n = n.drop (1 + (n.getD 0 0).toNat) := by simp [nextL, nextR, h]
theorem can_fin (n : List UInt8) : canN n = (decide (finN n = [0]) && decide (n.length ≤ 255)) := by rw [canN, fin_labs]
theorem labN_step {m : List UInt8} (h : canN m = true) (hb : nextB m = false) : labN m = nextL m :: labN (nextR m) ∧ canN (nextR m) = true := by
  obtain ⟨ls, g, rfl, hl⟩ := canN_iff.1 h
  match ls, g, hl, hb with
  | [], _, _, hb => rw [next_root] at hb; cases hb
  | l :: ls, g, hl, hb =>
    obtain ⟨_, e1, e2⟩ := next_join g
    have hl2 : (joinN ls).length ≤ 255 := by have := joinN_le (l := l) (ls := ls); omega
    rw [e1, e2, labN_join g hl, labN_join g.tail hl2]
    exact ⟨rfl, can_join g.tail hl2⟩
theorem labN_end {m : List UInt8} (h : canN m = true) (hb : nextB m = true) : labN m = [] ∧ m = [0] := by
  obtain ⟨ls, g, rfl, hl⟩ := canN_iff.1 h
  match ls, g, hl, hb with
  | [], g, hl, _ => exact ⟨labN_join g hl, rfl⟩
  | l :: ls, g, _, hb => rw [(next_join g).1] at hb; cases hb
set_option maxRecDepth 20000 in
set_option maxHeartbeats 2000000 in
theorem c_name_next (n : List UInt8) (h : n.length ≤ 140737488355328) : AC Try.prog 32 [str n] emp (Ret (.tup [str (nextL n), str (nextR n), tf (!nextB n)])) := by
 refine AC.intro te_ok (fn := Try.f32) ⟨Try.func32, rfl, rfl⟩ (Nat.le_of_ble_eq_true rfl) ?_
 refine AWp.seq ?_
 refine AWp.region ?_
 refine AOps.cons rfl rfl (q_assign) ?_
 refine AOps.cons rfl rfl (q_assign) ?_
 refine AOps.cons rfl rfl (q_assign) ?_
 refine AOps.nil ?_
 refine AWp.seq ?_
 refine AWp.seq ?_
 refine AWp.region ?_
 refine AOps.cons rfl rfl (q_move) ?_
 refine AOps.cons rfl rfl (q_len_str) ?_
 refine AOps.dec rfl rfl (q_eql) (fun h1_2 => ?_) (fun h1_2 => ?_)
 ·
  refine AOps.cons rfl rfl (q_move) ?_
  refine AOps.gskip rfl rfl rfl rfl rfl rfl rfl rfl ?_
  refine AOps.gskip rfl rfl rfl rfl rfl rfl rfl rfl ?_
  refine AOps.gskip rfl rfl rfl rfl rfl rfl rfl rfl ?_
  refine AOps.cons rfl rfl (q_pick) ?_
  refine AOps.cons rfl rfl (q_move) ?_
  refine AOps.gskip rfl rfl rfl rfl rfl rfl rfl rfl ?_
  refine AOps.gskip rfl rfl rfl rfl rfl rfl rfl rfl ?_
  refine AOps.gskip rfl rfl rfl rfl rfl rfl rfl rfl ?_
  refine AOps.cons rfl rfl (q_pick) ?_
  refine AOps.cons rfl rfl (q_move) ?_
  refine AOps.gskip rfl rfl rfl rfl rfl rfl rfl rfl ?_
  refine AOps.gskip rfl rfl rfl rfl rfl rfl rfl rfl ?_
  refine AOps.gskip rfl rfl rfl rfl rfl rfl rfl rfl ?_
  refine AOps.gskip rfl rfl rfl rfl rfl rfl rfl rfl ?_
  refine AOps.gskip rfl rfl rfl rfl rfl rfl rfl rfl ?_
  refine AOps.gskip rfl rfl rfl rfl rfl rfl rfl rfl ?_
  refine AOps.gskip rfl rfl rfl rfl rfl rfl rfl rfl ?_
  refine AOps.cons rfl rfl (q_pick) ?_
  refine AOps.nil ?_
  refine AWp.cond_t rfl ?_
  refine AWp.seq ?_
  refine AWp.region ?_
  refine AOps.cons rfl rfl (q_move) ?_
  refine AOps.cons rfl rfl (q_assign) ?_
  refine AOps.cons rfl rfl (q_assign) ?_
  refine AOps.cons rfl rfl (q_assign) ?_
  refine AOps.nil ?_
  refine AWp.ret ?_
  show Fin te Try.f32 _ _
  refine q_ret (0) [_, _, _] [_, _, _] ?_
  have hb : nextB n = true := by simp only [nextB, decide_eq_true_eq]; omega
  rw [(next_no hb).1, (next_no hb).2, hb]; rfl
 ·
  refine AOps.cons rfl rfl (q_move) ?_
  refine AOps.gcons rfl rfl rfl rfl rfl (q_move) ?_
  refine AOps.gcons rfl rfl rfl rfl rfl (q_ixs) ?_
  refine AOps.gdec rfl rfl rfl rfl rfl (q_eql) (fun h1_6 => ?_) (fun h1_6 => ?_)
  ·
   refine AOps.cons rfl rfl (q_pick) ?_
   refine AOps.cons rfl rfl (q_move) ?_
   refine AOps.gskip rfl rfl rfl rfl rfl rfl rfl rfl ?_
   refine AOps.gskip rfl rfl rfl rfl rfl rfl rfl rfl ?_
   refine AOps.gskip rfl rfl rfl rfl rfl rfl rfl rfl ?_
   refine AOps.cons rfl rfl (q_pick) ?_
   refine AOps.cons rfl rfl (q_move) ?_
   refine AOps.gskip rfl rfl rfl rfl rfl rfl rfl rfl ?_
   refine AOps.gskip rfl rfl rfl rfl rfl rfl rfl rfl ?_
   refine AOps.gskip rfl rfl rfl rfl rfl rfl rfl rfl ?_
   refine AOps.gskip rfl rfl rfl rfl rfl rfl rfl rfl ?_
   refine AOps.gskip rfl rfl rfl rfl rfl rfl rfl rfl ?_
   refine AOps.gskip rfl rfl rfl rfl rfl rfl rfl rfl ?_
   refine AOps.gskip rfl rfl rfl rfl rfl rfl rfl rfl ?_
   refine AOps.cons rfl rfl (q_pick) ?_
   refine AOps.nil ?_
   refine AWp.cond_t rfl ?_
   refine AWp.seq ?_
   refine AWp.region ?_
   refine AOps.cons rfl rfl (q_move) ?_
   refine AOps.cons rfl rfl (q_assign) ?_
   refine AOps.cons rfl rfl (q_assign) ?_
   refine AOps.cons rfl rfl (q_assign) ?_
   refine AOps.nil ?_
   refine AWp.ret ?_
   show Fin te Try.f32 _ _
   refine q_ret (0) [_, _, _] [_, _, _] ?_
   have hb : nextB n = true := by simp only [nextB, decide_eq_true_eq]; simp at *; omega
   rw [(next_no hb).1, (next_no hb).2, hb]; rfl
  ·
   refine AOps.cons rfl rfl (q_pick) ?_
   refine AOps.cons rfl rfl (q_move) ?_
   refine AOps.gcons rfl rfl rfl rfl rfl (q_move) ?_
   refine AOps.gcons rfl rfl rfl rfl rfl (q_ixs) ?_
   refine AOps.gdec rfl rfl rfl rfl rfl (q_gtr) (fun h1_11 => ?_) (fun h1_11 => ?_)
   ·
    refine AOps.cons rfl rfl (q_pick) ?_
    refine AOps.cons rfl rfl (q_move) ?_
    refine AOps.gskip rfl rfl rfl rfl rfl rfl rfl rfl ?_
    refine AOps.gskip rfl rfl rfl rfl rfl rfl rfl rfl ?_
    refine AOps.gskip rfl rfl rfl rfl rfl rfl rfl rfl ?_
    refine AOps.gskip rfl rfl rfl rfl rfl rfl rfl rfl ?_
    refine AOps.gskip rfl rfl rfl rfl rfl rfl rfl rfl ?_
    refine AOps.gskip rfl rfl rfl rfl rfl rfl rfl rfl ?_
    refine AOps.gskip rfl rfl rfl rfl rfl rfl rfl rfl ?_
    refine AOps.cons rfl rfl (q_pick) ?_
    refine AOps.nil ?_
    refine AWp.cond_t rfl ?_
    refine AWp.seq ?_
    refine AWp.region ?_
    refine AOps.cons rfl rfl (q_move) ?_
    refine AOps.cons rfl rfl (q_assign) ?_
    refine AOps.cons rfl rfl (q_assign) ?_
    refine AOps.cons rfl rfl (q_assign) ?_
    refine AOps.nil ?_
    refine AWp.ret ?_
    show Fin te Try.f32 _ _
    refine q_ret (0) [_, _, _] [_, _, _] ?_
    have hb : nextB n = true := by simp only [nextB, decide_eq_true_eq]; simp at *; omega
    rw [(next_no hb).1, (next_no hb).2, hb]; rfl
   ·
    refine AOps.cons rfl rfl (q_pick) ?_
    refine AOps.cons rfl rfl (q_move) ?_
    refine AOps.gcons rfl rfl rfl rfl rfl (q_move) ?_
    refine AOps.gcons rfl rfl rfl rfl rfl (q_len_str) ?_
    refine AOps.gcons rfl rfl rfl rfl rfl (q_move) ?_
    refine AOps.gcons rfl rfl rfl rfl rfl (q_ixs) ?_
    refine AOps.gcons rfl rfl rfl rfl rfl (q_conv_8i) ?_
    refine AOps.gcons rfl rfl rfl rfl rfl (q_add) ?_
    refine AOps.gdec rfl rfl rfl rfl rfl (q_lss) (fun h1_20 => ?_) (fun h1_20 => ?_)
    ·
     refine AOps.cons rfl rfl (q_pick) ?_
     refine AOps.nil ?_
     refine AWp.cond_t rfl ?_
     refine AWp.seq ?_
     refine AWp.region ?_
     refine AOps.cons rfl rfl (q_move) ?_
     refine AOps.cons rfl rfl (q_assign) ?_
     refine AOps.cons rfl rfl (q_assign) ?_
     refine AOps.cons rfl rfl (q_assign) ?_
     refine AOps.nil ?_
     refine AWp.ret ?_
     show Fin te Try.f32 _ _
     refine q_ret (0) [_, _, _] [_, _, _] ?_
     have hb : nextB n = true := by simp only [nextB, decide_eq_true_eq]; simp at *; omega
     rw [(next_no hb).1, (next_no hb).2, hb]; rfl
    ·
     refine AOps.cons rfl rfl (q_pick) ?_
     refine AOps.nil ?_
     refine AWp.cond_f rfl ?_
     refine AWp.skip ?_
     refine AWp.seq ?_
     refine AWp.region ?_
     have k1 : ¬ ((n.getD 0 0).toNat : Int) = 0 := h1_6
     have k2 : ¬ 63 < ((n.getD 0 0).toNat : Int) := h1_11
     have k3 : ¬ (n.length : Int) < 2 + ((n.getD 0 0).toNat : Int) := h1_20
     have hb : nextB n = false := by simp only [nextB, decide_eq_false_iff_not]; omega
     obtain ⟨e1, e2⟩ := next_yes hb
     have hk := (n.getD 0 0).toNat_lt
     refine AOps.cons rfl rfl (q_move) ?_
     refine AOps.cons rfl rfl (q_ixs) ?_
     refine AOps.cons rfl rfl (q_conv_8i) ?_
     refine AOps.cons rfl rfl (q_add) ?_
     refine AOps.cons rfl rfl (q_assign) ?_
     refine AOps.nil ?_
     refine AWp.seq ?_
     refine AWp.draws [⟨0, [0], [], some 33, _, []⟩,
         ⟨1, [5], [], some 34, _, []⟩,
         ⟨2, [33, 34], [], some 35, _, []⟩,
         ⟨3, [0], [], some 36, _, []⟩,
         ⟨4, [5], [], some 37, _, []⟩,
         ⟨5, [36, 37], [], some 38, _, []⟩,
         ⟨6, [35], [], some 2, _, []⟩,
         ⟨7, [38], [], some 3, _, []⟩,
         ⟨8, [], [], some 4, _, []⟩]
      [⟨0, [0], [], some 33, .any, []⟩,
          ⟨1, [5], [], some 34, .any, []⟩,
          ⟨2, [33, 34], [], some 35, .any, []⟩,
          ⟨3, [0], [], some 36, .any, []⟩,
          ⟨4, [5], [], some 37, .any, []⟩,
          ⟨5, [36, 37], [], some 38, .any, []⟩,
          ⟨6, [35], [], some 2, .any, []⟩,
          ⟨7, [38], [], some 3, .any, []⟩,
          ⟨8, [], [], some 4, .any, []⟩]
      mixed_ok rfl (by kernel_rfl) ⟨DS.ok_over fun s0 => OpAt.go rfl rfl (q_move),
          DS.ok_over fun s0 => OpAt.go rfl rfl (q_move),
          DS.ok_over fun s0 => OpAt.go rfl rfl (q_sls),
          DS.ok_over fun s0 => OpAt.go rfl rfl (q_move),
          DS.ok_over fun s0 => OpAt.go rfl rfl (q_move),
          DS.ok_over fun s0 => OpAt.go rfl rfl (q_sls_lo),
          DS.ok_over fun s0 => OpAt.go rfl rfl (q_assign),
          DS.ok_over fun s0 => OpAt.go rfl rfl (q_assign),
          DS.ok_over fun s0 => OpAt.go rfl rfl (q_assign), trivial⟩ ?_
     dsimp only [final, DS.upd, AS.seto]
     refine AWp.ret ?_
     show Fin te Try.f32 _ _
     refine q_ret (0) [_, _, _] [_, _, _] ?_
     have hk2 : ((1:Int) + ((n.getD 0 0).toNat:Int)).toNat = 1 + (n.getD 0 0).toNat := by omega
     show resVal [str (List.drop 1 (List.take ((1:Int) + ((n.getD 0 0).toNat:Int)).toNat n)), str (List.drop ((1:Int) + ((n.getD 0 0).toNat:Int)).toNat n), tf true] = _
     rw [e1, e2, hb, hk2]; rfl
set_option maxRecDepth 20000 in
set_option maxHeartbeats 2000000 in
theorem c_name_Can (n : List UInt8) (h : n.length ≤ 140737488355328) : AC Try.prog 29 [str n] emp (Ret (tf (canN n))) := by
 refine AC.intro te_ok (fn := Try.f29) ⟨Try.func29, rfl, rfl⟩ (Nat.le_of_ble_eq_true rfl) ?_
 refine AWp.seq ?_
 refine AWp.region ?_
 refine AOps.cons rfl rfl (q_assign) ?_
 refine AOps.nil ?_
 refine AWp.scope ?_
 refine AWp.seq ?_
 refine AWp.region ?_
 refine AOps.cons rfl rfl (q_move) ?_
 refine AOps.cons rfl rfl (q_assign) ?_
 refine AOps.nil ?_
 refine AWp.seq ?_
 refine AWp.label ?_
 refine AWp.seq ?_
 refine AWp.block ?_
 refine AWp.loopR (α := List UInt8) [3, 4, 5, 6, 8, 9, 10, 11, 12, 13, 14, 15, 16] (fun r => [(3, str r)]) (fun r => []) (fun r => finN r = finN n ∧ r.length ≤ n.length) (fun r => r.length) n ?_ (Back.mk' (HasT.cons HasT.nil) HasH.nil) ?_
 ·
  exact ⟨rfl, Nat.le_refl _⟩
 ·
  rintro r ⟨hf, hl⟩
  refine AWp.block ?_
  refine AWp.seq ?_
  refine AWp.region ?_
  refine AOps.cons rfl rfl (q_move) ?_
  refine AOps.cons rfl rfl (q_call (0) (hc := c_name_next _ (by first | assumption | omega | decide | (simp; omega) | (simp [*]; done)))) ?_
  refine AOps.cons rfl rfl (q_move) ?_
  refine AOps.cons rfl rfl (q_extract) ?_
  refine AOps.cons rfl rfl (q_extract) ?_
  refine AOps.bool rfl rfl (q_extract) (fun h2_5 => ?_) (fun h2_5 => ?_)
  ·
   refine AOps.cons rfl rfl (q_assign) ?_
   refine AOps.cons rfl rfl (q_assign) ?_
   refine AOps.cons rfl rfl (q_assign) ?_
   refine AOps.nil ?_
   refine AWp.seq ?_
   refine AWp.seq ?_
   refine AWp.region ?_
   refine AOps.cons rfl rfl (q_move) ?_
   refine AOps.cons rfl rfl (q_not) ?_
   refine AOps.nil ?_
   refine AWp.cond_f rfl ?_
   refine AWp.skip ?_
   refine AWp.region ?_
   refine AOps.cons rfl rfl (q_move) ?_
   refine AOps.cons rfl rfl (q_assign) ?_
   refine AOps.nil ?_
   refine ⟨nextR r, ?_, Back.mk' (HasT.cons HasT.nil) HasH.nil, ?_⟩
   ·
    have hb : nextB r = false := by simpa using h2_5
    have := nextR_lt hb
    exact ⟨by rw [← finN_step hb, hf], by omega⟩
   ·
    exact nextR_lt (by simpa using h2_5)
  ·
   refine AOps.cons rfl rfl (q_assign) ?_
   refine AOps.cons rfl rfl (q_assign) ?_
   refine AOps.cons rfl rfl (q_assign) ?_
   refine AOps.nil ?_
   refine AWp.seq ?_
   refine AWp.seq ?_
   refine AWp.region ?_
   refine AOps.cons rfl rfl (q_move) ?_
   refine AOps.cons rfl rfl (q_not) ?_
   refine AOps.nil ?_
   refine AWp.cond_t rfl ?_
   refine AWp.exit ?_
   refine AWp.seq ?_
   refine AWp.region ?_
   refine AOps.cons rfl rfl (q_move) ?_
   refine AOps.dec rfl rfl (q_seql) (fun h5_1 => ?_) (fun h5_1 => ?_)
   ·
    refine AOps.cons rfl rfl (q_move) ?_
    refine AOps.gcons rfl rfl rfl rfl rfl (q_move) ?_
    refine AOps.gcons rfl rfl rfl rfl rfl (q_len_str) ?_
    refine AOps.gcons rfl rfl rfl rfl rfl (q_leq) ?_
    refine AOps.cons rfl rfl (q_pick) ?_
    refine AOps.cons rfl rfl (q_assign) ?_
    refine AOps.nil ?_
    refine AWp.ret ?_
    show Fin te Try.f29 _ _
    refine q_ret (0) [_] [_] ?_
    have e : finN n = r := by rw [← hf, finN_stop (by simpa using h2_5)]
    rw [can_fin, e, h5_1]; simp [resVal]; omega
   ·
    refine AOps.cons rfl rfl (q_move) ?_
    refine AOps.gskip rfl rfl rfl rfl rfl rfl rfl rfl ?_
    refine AOps.gskip rfl rfl rfl rfl rfl rfl rfl rfl ?_
    refine AOps.gskip rfl rfl rfl rfl rfl rfl rfl rfl ?_
    refine AOps.cons rfl rfl (q_pick) ?_
    refine AOps.cons rfl rfl (q_assign) ?_
    refine AOps.nil ?_
    refine AWp.ret ?_
    show Fin te Try.f29 _ _
    refine q_ret (0) [_] [_] ?_
    have e : finN n = r := by rw [← hf, finN_stop (by simpa using h2_5)]
    rw [can_fin, e, decide_eq_false h5_1]; rfl
set_option maxRecDepth 20000 in
set_option maxHeartbeats 2000000 in
theorem co_labels (n : List UInt8) (h : n.length ≤ 140737488355328) : AC Try.prog 35 [str n] (hlook []) (RetH (.sl 8 0 0 (labN n).length 1) [(8, .row (cl sc (labN n)) 1 0)]) := by
 refine AC.intro te_ok (fn := Try.f35) ⟨Try.func35, rfl, rfl⟩ (Nat.le_of_ble_eq_true rfl) ?_
 refine AWp.seq ?_
 refine AWp.region ?_
 refine AOps.cons rfl rfl (q_nilz (0) sc) ?_
 refine AOps.nil ?_
 refine AWp.seq ?_
 refine AWp.region ?_
 refine AOps.cons rfl rfl (q_nilrow 8 1 sc) ?_
 refine AOps.nil ?_
 refine AWp.seq ?_
 refine AWp.block ?_
 refine AWp.loopR (α := List UInt8 × List (List UInt8) × Nat) [0, 3, 4, 5, 6, 7, 8, 9, 10, 11, 12, 13, 14, 15, 16, 17, 18, 19, 20, 21] (fun x_ => [(0, str (x_.1)), (3, .sl 8 (x_.2.2) 0 (x_.2.1).length 1)]) (fun x_ => [(8, .row (cl sc (x_.2.1)) 1 (x_.2.2))]) (fun x_ => labN n = (x_.2.1) ++ labN (x_.1) ∧ (x_.1).length ≤ n.length) (fun x_ => (x_.1).length) (n, [], 0) ?_ (Back.mk' (HasT.cons (HasT.cons HasT.nil)) (HasH.cons HasH.nil)) ?_
 ·
  exact ⟨rfl, Nat.le_refl _⟩
 ·
  rintro ⟨m, acc, v⟩ hI2
  change labN n = acc ++ labN m ∧ m.length ≤ n.length at hI2
  obtain ⟨hI, hm⟩ := hI2
  refine AWp.as (s' := AS.over _ [0, 3, 4, 5, 6, 7, 8, 9, 10, 11, 12, 13, 14, 15, 16, 17, 18, 19, 20, 21] [(0, str m), (3, .sl 8 v 0 acc.length 1)] [(8, .row (cl sc acc) 1 v)]) rfl ?_
  have hll := labN_len n
  rw [hI, List.length_append] at hll
  refine AWp.seq ?_
  refine AWp.seq ?_
  refine AWp.region ?_
  refine AOps.cons rfl rfl (q_move) ?_
  refine AOps.bool rfl rfl (q_call (0) (hc := c_name_Can _ (by first | assumption | omega | decide | (simp; omega) | (simp [*]; done)))) (fun h2_1 => ?_) (fun h2_1 => ?_)
  ·
   refine AOps.nil ?_
   refine AWp.cond_t rfl ?_
   refine AWp.skip ?_
   refine AWp.block ?_
   refine AWp.seq ?_
   refine AWp.region ?_
   refine AOps.cons rfl rfl (q_move) ?_
   refine AOps.cons rfl rfl (q_call (0) (hc := c_name_next _ (by first | assumption | omega | decide | (simp; omega) | (simp [*]; done)))) ?_
   refine AOps.cons rfl rfl (q_move) ?_
   refine AOps.cons rfl rfl (q_extract) ?_
   refine AOps.cons rfl rfl (q_extract) ?_
   refine AOps.bool rfl rfl (q_extract) (fun h3_5 => ?_) (fun h3_5 => ?_)
   ·
    refine AOps.cons rfl rfl (q_assign) ?_
    refine AOps.cons rfl rfl (q_assign) ?_
    refine AOps.cons rfl rfl (q_assign) ?_
    refine AOps.nil ?_
    refine AWp.seq ?_
    refine AWp.seq ?_
    refine AWp.region ?_
    refine AOps.cons rfl rfl (q_move) ?_
    refine AOps.cons rfl rfl (q_not) ?_
    refine AOps.nil ?_
    refine AWp.cond_f rfl ?_
    refine AWp.skip ?_
    refine AWp.region ?_
    refine AOps.cons rfl rfl (q_move) ?_
    refine AOps.cons rfl rfl (q_move) ?_
    refine AOps.cons rfl rfl (q_bs 602 sc [_] [(_, _)]) ?_
    refine AOps.cons rfl rfl (q_app) ?_
    refine AOps.cons rfl rfl (q_move) ?_
    refine AOps.cons rfl rfl (q_assign) ?_
    refine AOps.cons rfl rfl (q_assign) ?_
    refine AOps.nil ?_
    refine ⟨(nextR m, _, _), ?_, Back.mk' (HasT.cons (HasT.cons HasT.nil)) (HasH.cons HasH.nil), ?_⟩
    ·
     try dsimp only
     have hb : nextB m = false := by simpa using h3_5
     have := nextR_lt hb
     exact ⟨by rw [hI, (labN_step h2_1 hb).1]; simp, by omega⟩
    ·
     try dsimp only
     exact nextR_lt (by simpa using h3_5)
   ·
    refine AOps.cons rfl rfl (q_assign) ?_
    refine AOps.cons rfl rfl (q_assign) ?_
    refine AOps.cons rfl rfl (q_assign) ?_
    refine AOps.nil ?_
    refine AWp.seq ?_
    refine AWp.seq ?_
    refine AWp.region ?_
    refine AOps.cons rfl rfl (q_move) ?_
    refine AOps.cons rfl rfl (q_not) ?_
    refine AOps.nil ?_
    refine AWp.cond_t rfl ?_
    refine AWp.exit ?_
    refine AWp.seq ?_
    refine AWp.region ?_
    refine AOps.cons rfl rfl (q_move) ?_
    refine AOps.cons rfl rfl (q_assign) ?_
    refine AOps.nil ?_
    refine AWp.ret ?_
    show Fin te Try.f35 _ _
    obtain rfl : acc = labN n := by rw [hI, (labN_end h2_1 (by simpa using h3_5)).1, List.append_nil]
    refine q_retH (0) [8] [_] [.sl 8 0 0 _ 1] [(8, .row (cl sc _) 1 0)] ?_
    rfl
  ·
   refine AOps.nil ?_
   refine AWp.cond_f rfl ?_
   refine AWp.exit ?_
   refine AWp.seq ?_
   refine AWp.region ?_
   refine AOps.cons rfl rfl (q_move) ?_
   refine AOps.cons rfl rfl (q_assign) ?_
   refine AOps.nil ?_
   refine AWp.ret ?_
   show Fin te Try.f35 _ _
   obtain rfl : acc = labN n := by rw [hI, labN_no h2_1, List.append_nil]
   refine q_retH (0) [8] [_] [.sl 8 0 0 _ 1] [(8, .row (cl sc _) 1 0)] ?_
   rfl
end Go.Proofs.Ytfojdjlhpejbpaa.Fw


set_option linter.unusedVariables false
set_option linter.unusedSimpArgs false
namespace Go.Proofs.Ytfojdjlhpejbpaa.Fw
open Go.RowKit
def Half {α : Type} (l m : List α) (i : Nat) : Prop := m.length = l.length ∧ ∀ k, k < l.length → m[k]? = if k < i ∨ l.length ≤ k + i then l[l.length - 1 - k]? else l[k]?
theorem Half.done {α : Type} {l m : List α} {i : Nat} (h : Half l m i) (hi : l.length ≤ 2 * i + 1) : m = l.reverse := by
  obtain ⟨h1, h2⟩ := h
  apply List.ext_getElem?
  intro k
  by_cases hk : k < l.length
  · rw [h2 k hk, List.getElem?_reverse hk]
    split
    · rfl
    · rw [show l.length - 1 - k = k by omega]
  · rw [List.getElem?_eq_none (by omega), List.getElem?_eq_none (by simp; omega)]
end Go.Proofs.Ytfojdjlhpejbpaa.Fw


set_option linter.unusedVariables false
set_option linter.unusedSimpArgs false
namespace Go.Proofs.Ytfojdjlhpejbpaa.Fw
open Go.RowKit
theorem labs_end (n : List UInt8) {i : Nat} (h : n.length ≤ i) : (labs (n.drop i)).isSome = false := by
  rw [List.drop_of_length_le h, labs]; rfl
theorem labs_at {n : List UInt8} {i : Nat} (hi : i < n.length) : (labs (n.drop i)).isSome = if (n.getD i 0).toNat = 0 then decide (i + 1 = n.length) else if 63 < (n.getD i 0).toNat then false else (labs (n.drop (i + 1 + (n.getD i 0).toNat))).isSome := by
  have hg : n.getD i 0 = n[i] := by rw [List.getD_eq_getElem?_getD, List.getElem?_eq_getElem hi]; rfl
  rw [List.drop_eq_getElem_cons hi, labs, ← hg]
  generalize n.getD i 0 = k
  have hz : k = 0 ↔ k.toNat = 0 := ⟨fun e => by rw [e]; rfl, fun e => UInt8.toNat_inj.1 (by simpa using e)⟩
  by_cases h0 : k.toNat = 0
  · rw [if_pos (hz.2 h0), if_pos h0]
    by_cases he : i + 1 = n.length
    · rw [if_pos (List.drop_of_length_le (by omega)), decide_eq_true he]; rfl
    · rw [if_neg (fun e => by have := congrArg List.length e; simp at this; omega), decide_eq_false he]; rfl
  · rw [if_neg (fun e => h0 (hz.1 e)), if_neg h0]
    by_cases h6 : 63 < k.toNat
    · rw [if_pos (Or.inl h6), if_pos h6]; rfl
    · rw [if_neg h6]
      by_cases hr : (n.drop (i + 1)).length < k.toNat
      · rw [if_pos (Or.inr hr), labs_end n (by simp at hr; omega)]; rfl
      · rw [if_neg (by omega), Option.isSome_map, List.drop_drop]
theorem join_at {ls : List (List UInt8)} {i : Nat} (hi : i < ls.length) : joinN (ls.drop i) = byte ((ls.getD i default).length : Int) :: (ls.getD i default ++ joinN (ls.drop (i + 1))) := by
  have e : ls.getD i default = ls[i] := by rw [List.getD_eq_getElem?_getD, List.getElem?_eq_getElem hi]; rfl
  rw [List.drop_eq_getElem_cons hi, joinN_cons, e]
set_option maxRecDepth 20000 in
set_option maxHeartbeats 2000000 in
theorem c_ciceroneref01_Can (n : List UInt8) (h : n.length ≤ 140737488355328) : AC Try.prog 26 [str n] emp (Ret (tf (canN n))) := by
 refine AC.intro te_ok (fn := Try.f26) ⟨Try.func26, rfl, rfl⟩ (Nat.le_of_ble_eq_true rfl) ?_
 refine AWp.seq ?_
 refine AWp.region ?_
 refine AOps.cons rfl rfl (q_assign) ?_
 refine AOps.nil ?_
 refine AWp.seq ?_
 refine AWp.seq ?_
 refine AWp.region ?_
 refine AOps.cons rfl rfl (q_move) ?_
 refine AOps.cons rfl rfl (q_len_str) ?_
 refine AOps.dec rfl rfl (q_gtr) (fun h1_2 => ?_) (fun h1_2 => ?_)
 ·
  refine AOps.nil ?_
  refine AWp.cond_t rfl ?_
  refine AWp.seq ?_
  refine AWp.region ?_
  refine AOps.cons rfl rfl (q_assign) ?_
  refine AOps.nil ?_
  refine AWp.ret ?_
  show Fin te Try.f26 _ _
  refine q_ret (0) [_] [_] ?_
  have e : canN n = false := by rw [canN, decide_eq_false (by omega), Bool.and_false]
  rw [e]; rfl
 ·
  refine AOps.nil ?_
  refine AWp.cond_f rfl ?_
  refine AWp.skip ?_
  refine AWp.seq ?_
  refine AWp.region ?_
  refine AOps.cons rfl rfl (q_assign) ?_
  refine AOps.nil ?_
  refine AWp.seq ?_
  refine AWp.block ?_
  refine AWp.loopR (α := Nat) [2, 3, 4, 8, 9, 10, 11, 12, 13, 14, 15, 16, 17, 18, 19, 20, 21, 22, 23, 24, 25, 26, 27, 28] (fun i => [(3, i64 i)]) (fun i => []) (fun i => (labs n).isSome = (labs (n.drop i)).isSome ∧ i ≤ 319) (fun i => n.length - i) 0 ?_ (Back.mk' (HasT.cons HasT.nil) HasH.nil) ?_
  ·
   exact ⟨rfl, by omega⟩
  ·
   rintro i ⟨hc, hi⟩
   refine AWp.seq ?_
   refine AWp.seq ?_
   refine AWp.region ?_
   refine AOps.cons rfl rfl (q_move) ?_
   refine AOps.cons rfl rfl (q_move) ?_
   refine AOps.cons rfl rfl (q_len_str) ?_
   refine AOps.dec rfl rfl (q_lss) (fun h4_3 => ?_) (fun h4_3 => ?_)
   ·
    refine AOps.nil ?_
    refine AWp.cond_t rfl ?_
    refine AWp.skip ?_
    refine AWp.block ?_
    refine AWp.seq ?_
    refine AWp.region ?_
    have hk := (n.getD i 0).toNat_lt
    refine AOps.cons rfl rfl (q_move) ?_
    refine AOps.cons rfl rfl (q_move) ?_
    refine AOps.cons rfl rfl (q_ixs) ?_
    refine AOps.cons rfl rfl (q_conv_8i) ?_
    refine AOps.cons rfl rfl (q_assign) ?_
    refine AOps.nil ?_
    refine AWp.seq ?_
    refine AWp.seq ?_
    refine AWp.region ?_
    have hla := labs_at (n := n) (i := i) (by omega)
    refine AOps.cons rfl rfl (q_move) ?_
    refine AOps.dec rfl rfl (q_eql) (fun h6_1 => ?_) (fun h6_1 => ?_)
    ·
     refine AOps.nil ?_
     refine AWp.cond_t rfl ?_
     refine AWp.seq ?_
     refine AWp.region ?_
     refine AOps.cons rfl rfl (q_move) ?_
     refine AOps.cons rfl rfl (q_move) ?_
     refine AOps.cons rfl rfl (q_len_str) ?_
     refine AOps.cons rfl rfl (q_sub) ?_
     refine AOps.cons rfl rfl (q_eql) ?_
     refine AOps.cons rfl rfl (q_assign) ?_
     refine AOps.nil ?_
     refine AWp.ret ?_
     show Fin te Try.f26 _ _
     refine q_ret (0) [_] [_] ?_
     have k1 : ((n.getD i 0).toNat : Int) = 0 := h6_1
     rw [if_pos (by omega)] at hla
     rw [canN, hc, hla, decide_eq_true (show n.length ≤ 255 by omega), Bool.and_true]
     exact congrArg tf (decide_eq_decide.2 (by omega))
    ·
     refine AOps.nil ?_
     refine AWp.cond_f rfl ?_
     refine AWp.skip ?_
     refine AWp.seq ?_
     refine AWp.seq ?_
     refine AWp.region ?_
     refine AOps.cons rfl rfl (q_move) ?_
     refine AOps.dec rfl rfl (q_gtr) (fun h8_1 => ?_) (fun h8_1 => ?_)
     ·
      refine AOps.nil ?_
      refine AWp.cond_t rfl ?_
      refine AWp.seq ?_
      refine AWp.region ?_
      refine AOps.cons rfl rfl (q_assign) ?_
      refine AOps.nil ?_
      refine AWp.ret ?_
      show Fin te Try.f26 _ _
      refine q_ret (0) [_] [_] ?_
      have k1 : ¬ ((n.getD i 0).toNat : Int) = 0 := h6_1
      have k2 : 63 < ((n.getD i 0).toNat : Int) := h8_1
      rw [if_neg (by omega), if_pos (by omega)] at hla
      rw [canN, hc, hla]; rfl
     ·
      refine AOps.nil ?_
      refine AWp.cond_f rfl ?_
      refine AWp.skip ?_
      refine AWp.region ?_
      have k2 : ¬ 63 < ((n.getD i 0).toNat : Int) := h8_1
      have hk3 : ((n.getD (i : Int).toNat 0).toNat : Int) = ((n.getD i 0).toNat : Int) := rfl
      refine AOps.cons rfl rfl (q_move) ?_
      refine AOps.cons rfl rfl (q_move) ?_
      refine AOps.cons rfl rfl (q_add) ?_
      refine AOps.cons rfl rfl (q_add) ?_
      refine AOps.cons rfl rfl (q_assign) ?_
      refine AOps.nil ?_
      have k1 : ¬ ((n.getD i 0).toNat : Int) = 0 := h6_1
      have k2 : ¬ 63 < ((n.getD i 0).toNat : Int) := h8_1
      refine ⟨i + 1 + (n.getD i 0).toNat, ?_, Back.mk' (HasT.cons HasT.nil (h1 := by exact i64_eq (by show (i : Int) + (1 + ((n.getD i 0).toNat : Int)) = ((i + 1 + (n.getD i 0).toNat : Nat) : Int); omega)) ) HasH.nil, ?_⟩
      ·
       exact ⟨by rw [hc, labs_at (by omega), if_neg (by omega), if_neg (by omega)], by omega⟩
      ·
       omega
   ·
    refine AOps.nil ?_
    refine AWp.cond_f rfl ?_
    refine AWp.exit ?_
    refine AWp.seq ?_
    refine AWp.region ?_
    refine AOps.cons rfl rfl (q_assign) ?_
    refine AOps.nil ?_
    refine AWp.ret ?_
    show Fin te Try.f26 _ _
    refine q_ret (0) [_] [_] ?_
    have e : canN n = false := by rw [canN, hc, labs_end n (by omega)]; rfl
    rw [e]; rfl
set_option maxRecDepth 20000 in
set_option maxHeartbeats 2000000 in
theorem c_ciceroneref01_Join (ls : List (List UInt8)) (lv : Nat) (hj : (joinN ls).length ≤ 140737488351232) : AC Try.prog 34 [.fz lv ls.length (cl sc ls)] emp (Ret (str (joinN ls))) := by
 refine AC.intro te_ok (fn := Try.f34) ⟨Try.func34, rfl, rfl⟩ (Nat.le_of_ble_eq_true rfl) ?_
 refine AWp.seq ?_
 refine AWp.region ?_
 refine AOps.cons rfl rfl (q_assign) ?_
 refine AOps.nil ?_
 refine AWp.seq ?_
 refine AWp.region ?_
 refine AOps.cons rfl rfl (q_assign) ?_
 refine AOps.nil ?_
 refine AWp.seq ?_
 refine AWp.seq ?_
 refine AWp.region ?_
 refine AOps.cons rfl rfl (q_move) ?_
 refine AOps.cons rfl rfl (q_len) ?_
 refine AOps.cons rfl rfl (q_move) ?_
 refine AOps.nil ?_
 refine AWp.block ?_
 refine AWp.loopR (α := Nat × List UInt8) [3, 5, 8, 9, 10, 11, 12, 13, 14, 15, 16, 17, 18, 19, 20, 21] (fun x_ => [(8, i64 (x_.1)), (3, str (x_.2))]) (fun x_ => []) (fun x_ => (x_.1) ≤ ls.length ∧ (x_.2) ++ joinN (ls.drop (x_.1)) = joinN ls) (fun x_ => ls.length - (x_.1)) (0, []) ?_ (Back.mk' (HasT.cons (HasT.cons HasT.nil)) HasH.nil) ?_
 ·
  exact ⟨Nat.zero_le _, rfl⟩
 ·
  rintro ⟨i, acc⟩ hI3
  change i ≤ ls.length ∧ acc ++ joinN (ls.drop i) = joinN ls at hI3
  obtain ⟨hi, hI⟩ := hI3
  refine AWp.as (s' := AS.over _ [3, 5, 8, 9, 10, 11, 12, 13, 14, 15, 16, 17, 18, 19, 20, 21] [(8, i64 i), (3, str acc)] []) rfl ?_
  have hll := congrArg List.length hI
  rw [List.length_append] at hll
  refine AWp.seq ?_
  refine AWp.region ?_
  refine AOps.dec rfl rfl (q_lss) (fun h3_0 => ?_) (fun h3_0 => ?_)
  ·
   refine AOps.nil ?_
   refine AWp.seq ?_
   refine AWp.cond_t rfl ?_
   refine AWp.skip ?_
   refine AWp.seq ?_
   refine AWp.block ?_
   refine AWp.seq ?_
   refine AWp.region ?_
   have hja := join_at (ls := ls) (i := i) (by omega)
   rw [hja, List.length_cons, List.length_append] at hll
   have hll2 : acc.length + ((ls.getD (i : Int).toNat default).length + (joinN (ls.drop (i + 1))).length + 1) = (joinN ls).length := hll
   have hg3 : (ls[i]?.getD default).length = (ls.getD (i : Int).toNat default).length := congrArg List.length (List.getD_eq_getElem?_getD).symm
   have hg4 := joinN_length ls
   refine AOps.cons rfl rfl (q_ix) ?_
   refine AOps.cons rfl rfl (q_load) ?_
   refine AOps.cons rfl rfl (q_assign) ?_
   refine AOps.nil ?_
   refine AWp.region ?_
   refine AOps.cons rfl rfl (q_move) ?_
   refine AOps.cons rfl rfl (q_move) ?_
   refine AOps.cons rfl rfl (q_len_str) ?_
   refine AOps.cons rfl rfl (q_conv_u8) ?_
   refine AOps.cons rfl rfl (q_bs 604 bc [_] [(_, _)]) ?_
   refine AOps.cons rfl rfl (q_conv_ls) ?_
   refine AOps.cons rfl rfl (q_move) ?_
   refine AOps.cons rfl rfl (q_sadd) ?_
   refine AOps.cons rfl rfl (q_sadd) ?_
   refine AOps.cons rfl rfl (q_assign) ?_
   refine AOps.nil ?_
   refine AWp.region ?_
   refine AOps.cons rfl rfl (q_add) ?_
   refine AOps.cons rfl rfl (q_move) ?_
   refine AOps.nil ?_
   refine ⟨(i + 1, _), ?_, Back.mk' (HasT.cons (HasT.cons HasT.nil)) HasH.nil, ?_⟩
   ·
    try dsimp only
    exact ⟨by omega, by rw [← hI, hja]; simp⟩
   ·
    try dsimp only
    first | omega | (simp; omega)
  ·
   refine AOps.nil ?_
   refine AWp.seq ?_
   refine AWp.cond_f rfl ?_
   refine AWp.exit ?_
   refine AWp.seq ?_
   refine AWp.region ?_
   refine AOps.cons rfl rfl (q_move) ?_
   refine AOps.cons rfl rfl (q_sadd) ?_
   refine AOps.cons rfl rfl (q_assign) ?_
   refine AOps.nil ?_
   refine AWp.ret ?_
   show Fin te Try.f34 _ _
   obtain rfl : i = ls.length := by omega
   rw [List.drop_length, joinN_nil] at hI
   refine q_ret (0) [_] [_] ?_
   exact congrArg (fun x => str x) hI
end Go.Proofs.Ytfojdjlhpejbpaa.Fw


set_option linter.unusedVariables false
set_option linter.unusedSimpArgs false
namespace Go.Proofs.Ytfojdjlhpejbpaa.Fw
open Go.RowKit
theorem Sim.yielded_no {n : Nat} {ops : Array Oper} {s : AS} {w : World} {φ : PMap} {Λ : Lent} {a : Act} (hs : Sim n w φ Λ s a) {j : Nat} {oj : Oper} {d : Nat} (hj : ops[j]? = some oj) (hd : oj.dst = some d)
    (hb : s.t d = .v undef) : Go.yielded ops a.tmps j = none := by
  have h := hs.tmps d
  rw [hb] at h
  generalize hv : a.tmps.getD d undef = v at h
  cases h
  simp only [Go.yielded, hj, Option.bind_some, hd]
  cases hx : a.tmps[d]? with
  | none => rfl
  | some y =>
    rw [Array.getD_eq_getD_getElem?, hx] at hv
    simp only [Option.getD_some] at hv
    rw [hv]
    rfl
theorem AOps.gskipu {P : Program} {n : Nat} {ops : Array Oper} {Q : APost} {s : AS} {i : Nat} {rest : List Nat} {o : Oper} {j : Nat} {want : Bool} {oj : Oper} {d : Nat} {dd : Option Tmp} (ho : ops[i]? = some o) (hg : o.guard = some (j, want)) (hj : ops[j]? = some oj)
    (hd : oj.dst = some d) (hb : s.t d = .v undef) (hdd : o.dst = dd) (hn : dd.all (Nat.blt · n) = true) (hr : AOps P n ops Q rest (s.put dd (.v undef))) :
    AOps P n ops Q (i :: rest) s := by
  intro Λ w φ a hs QQ hQ
  have hy := hs.yielded_no hj hd hb
  have hw : ((none : Option Bool) == some want) = false := rfl
  simp only [wpOps, ho, Region.wanted, hg, hy, hw, Bool.false_eq_true, if_false]
  subst hdd
  exact hr Λ w φ _ (hs.put o.dst hn .v) QQ hQ
theorem OpAt.gskipu {P : Program} {n : Nat} {ops : Array Oper} {i : Nat} {o : Oper} {s : AS} {j : Nat} {want : Bool} {oj : Oper} {d : Nat} {dd : Option Tmp} (ho : ops[i]? = some o) (hg : o.guard = some (j, want)) (hj : ops[j]? = some oj)
    (hd : oj.dst = some d) (hb : s.t d = .v undef) (hdd : o.dst = dd) (hn : dd.all (Nat.blt · n) = true) : OpAt P n ops i s (s.put dd (.v undef)) := by
  intro Λ w φ a hs K QQ hK
  have hy := hs.yielded_no hj hd hb
  have hw : ((none : Option Bool) == some want) = false := rfl
  simp only [wpOp, ho, Region.wanted, hg, hy, hw, Bool.false_eq_true, if_false]
  subst hdd
  exact hK w φ _ (hs.put o.dst hn .v) (Goes.refl _ _)
end Go.Proofs.Ytfojdjlhpejbpaa.Fw


set_option linter.unusedVariables false
set_option linter.unusedSimpArgs false
namespace Go.Proofs.Ytfojdjlhpejbpaa.Fw
open Go.RowKit
def plB (c : UInt8) : Bool := decide ((97 ≤ c.toNat ∧ c.toNat ≤ 122) ∨ (65 ≤ c.toNat ∧ c.toNat ≤ 90) ∨ (48 ≤ c.toNat ∧ c.toNat ≤ 57) ∨ c.toNat = 45 ∨ c.toNat = 95 ∨ c.toNat = 42)
def digB (c : UInt8) : Bool := decide (48 ≤ c.toNat ∧ c.toNat ≤ 57)
def escB (c : UInt8) : List UInt8 := if plB c then [c] else [92, 48 + c / 100, 48 + c / 10 % 10, 48 + c % 10]
def escL (l : List UInt8) : List UInt8 := l.flatMap escB
def txtN (n : List UInt8) : List UInt8 := if canN n then (if n = [0] then [46] else (labN n).flatMap fun l => escL l ++ [46]) else []
theorem escB_len (c : UInt8) : (escB c).length ≤ 4 := by unfold escB; split <;> simp
theorem escL_len (l : List UInt8) : (escL l).length ≤ 4 * l.length := by
  induction l with
  | nil => simp [escL]
  | cons c l ih =>
    have := escB_len c
    simp only [escL, List.flatMap_cons, List.length_append, List.length_cons] at *
    omega
theorem getD_at {l : List UInt8} {j : Nat} (h : j < l.length) : l.getD j default = l[j] := by rw [List.getD_eq_getElem?_getD, List.getElem?_eq_getElem h]; rfl
theorem escL_step {l : List UInt8} {j : Nat} (h : j < l.length) : escL (l.take (j + 1)) = escL (l.take j) ++ escB (l.getD j default) := by
  rw [List.take_succ_eq_append_getElem h, getD_at h, escL, List.flatMap_append]; simp [escL]
theorem take1 {l : List UInt8} {j : Nat} (h : j < l.length) : (l.take (j + 1)).drop j = [l.getD j default] := by
  rw [List.take_succ_eq_append_getElem h, getD_at h]
  exact List.drop_left' (by rw [List.length_take]; omega)
theorem txt_step {ls : List (List UInt8)} {i : Nat} (h : i < ls.length) : (ls.take (i + 1)).flatMap (fun l => escL l ++ [46]) = (ls.take i).flatMap (fun l => escL l ++ [46]) ++ (escL (ls.getD i default) ++ [46]) := by
  rw [List.take_succ_eq_append_getElem h, List.flatMap_append, List.getD_eq_getElem?_getD, List.getElem?_eq_getElem h]; simp
theorem lab_le {n l : List UInt8} (h : l ∈ labN n) : l.length ≤ 255 := by
  cases hc : canN n with
  | false => rw [labN_no hc] at h; cases h
  | true =>
    obtain ⟨ls, g, rfl, hl⟩ := canN_iff.1 hc
    rw [labN_join g hl] at h
    have := (g l h).2
    omega
theorem escB_yes {c : UInt8} (h : plB c = true) : escB c = [c] := if_pos h
theorem escB_no {c : UInt8} (h : plB c = false) : escB c = [92, 48 + c / 100, 48 + c / 10 % 10, 48 + c % 10] := if_neg (by simp [h])
set_option maxRecDepth 20000 in
set_option maxHeartbeats 2000000 in
theorem c_ciceroneref01_digit (c : UInt8) : AC Try.prog 43 [u8 c.toNat] emp (Ret (tf (digB c))) := by
 refine AC.intro te_ok (fn := Try.f43) ⟨Try.func43, rfl, rfl⟩ (Nat.le_of_ble_eq_true rfl) ?_
 refine AWp.seq ?_
 refine AWp.region ?_
 refine AOps.cons rfl rfl (q_assign) ?_
 refine AOps.nil ?_
 refine AWp.seq ?_
 refine AWp.region ?_
 refine AOps.cons rfl rfl (q_move) ?_
 refine AOps.dec rfl rfl (q_geq) (fun h1_1 => ?_) (fun h1_1 => ?_)
 ·
  refine AOps.cons rfl rfl (q_move) ?_
  refine AOps.gcons rfl rfl rfl rfl rfl (q_move) ?_
  refine AOps.gcons rfl rfl rfl rfl rfl (q_leq) ?_
  refine AOps.cons rfl rfl (q_pick) ?_
  refine AOps.cons rfl rfl (q_assign) ?_
  refine AOps.nil ?_
  refine AWp.ret ?_
  show Fin te Try.f43 _ _
  refine q_ret (0) [_] [_] ?_
  exact congrArg tf (by unfold digB; first | exact (decide_eq_true (by omega)).symm | exact (decide_eq_false (by omega)).symm | exact decide_eq_decide.2 (by omega))
 ·
  refine AOps.cons rfl rfl (q_move) ?_
  refine AOps.gskip rfl rfl rfl rfl rfl rfl rfl rfl ?_
  refine AOps.gskip rfl rfl rfl rfl rfl rfl rfl rfl ?_
  refine AOps.cons rfl rfl (q_pick) ?_
  refine AOps.cons rfl rfl (q_assign) ?_
  refine AOps.nil ?_
  refine AWp.ret ?_
  show Fin te Try.f43 _ _
  refine q_ret (0) [_] [_] ?_
  exact congrArg tf (by unfold digB; first | exact (decide_eq_true (by omega)).symm | exact (decide_eq_false (by omega)).symm | exact decide_eq_decide.2 (by omega))
set_option maxRecDepth 20000 in
set_option maxHeartbeats 2000000 in
theorem c_ciceroneref01_plain (c : UInt8) : AC Try.prog 42 [u8 c.toNat] emp (Ret (tf (plB c))) := by
 refine AC.intro te_ok (fn := Try.f42) ⟨Try.func42, rfl, rfl⟩ (Nat.le_of_ble_eq_true rfl) ?_
 refine AWp.seq ?_
 refine AWp.region ?_
 refine AOps.cons rfl rfl (q_assign) ?_
 refine AOps.nil ?_
 refine AWp.seq ?_
 refine AWp.region ?_
 refine AOps.cons rfl rfl (q_move) ?_
 refine AOps.dec rfl rfl (q_geq) (fun h1_1 => ?_) (fun h1_1 => ?_)
 ·
  refine AOps.cons rfl rfl (q_move) ?_
  refine AOps.gcons rfl rfl rfl rfl rfl (q_move) ?_
  refine AOps.gdec rfl rfl rfl rfl rfl (q_leq) (fun h1_4 => ?_) (fun h1_4 => ?_)
  ·
   refine AOps.cons rfl rfl (q_pick) ?_
   refine AOps.cons rfl rfl (q_move) ?_
   refine AOps.gskip rfl rfl rfl rfl rfl rfl rfl rfl ?_
   refine AOps.gskip rfl rfl rfl rfl rfl rfl rfl rfl ?_
   refine AOps.gskip rfl rfl rfl rfl rfl rfl rfl rfl ?_
   refine AOps.gskipu rfl rfl rfl rfl rfl rfl rfl ?_
   refine AOps.gskipu rfl rfl rfl rfl rfl rfl rfl ?_
   refine AOps.gskip rfl rfl rfl rfl rfl rfl rfl rfl ?_
   refine AOps.cons rfl rfl (q_pick) ?_
   refine AOps.cons rfl rfl (q_move) ?_
   refine AOps.gskip rfl rfl rfl rfl rfl rfl rfl rfl ?_
   refine AOps.gskip rfl rfl rfl rfl rfl rfl rfl rfl ?_
   refine AOps.gskip rfl rfl rfl rfl rfl rfl rfl rfl ?_
   refine AOps.gskipu rfl rfl rfl rfl rfl rfl rfl ?_
   refine AOps.gskipu rfl rfl rfl rfl rfl rfl rfl ?_
   refine AOps.gskip rfl rfl rfl rfl rfl rfl rfl rfl ?_
   refine AOps.cons rfl rfl (q_pick) ?_
   refine AOps.cons rfl rfl (q_move) ?_
   refine AOps.gskip rfl rfl rfl rfl rfl rfl rfl rfl ?_
   refine AOps.gskip rfl rfl rfl rfl rfl rfl rfl rfl ?_
   refine AOps.cons rfl rfl (q_pick) ?_
   refine AOps.cons rfl rfl (q_move) ?_
   refine AOps.gskip rfl rfl rfl rfl rfl rfl rfl rfl ?_
   refine AOps.gskip rfl rfl rfl rfl rfl rfl rfl rfl ?_
   refine AOps.cons rfl rfl (q_pick) ?_
   refine AOps.cons rfl rfl (q_move) ?_
   refine AOps.gskip rfl rfl rfl rfl rfl rfl rfl rfl ?_
   refine AOps.gskip rfl rfl rfl rfl rfl rfl rfl rfl ?_
   refine AOps.cons rfl rfl (q_pick) ?_
   refine AOps.cons rfl rfl (q_assign) ?_
   refine AOps.nil ?_
   refine AWp.ret ?_
   show Fin te Try.f42 _ _
   refine q_ret (0) [_] [_] ?_
   exact congrArg tf (by unfold plB; first | exact (decide_eq_true (by omega)).symm | exact (decide_eq_false (by omega)).symm | exact decide_eq_decide.2 (by omega))
  ·
   refine AOps.cons rfl rfl (q_pick) ?_
   refine AOps.cons rfl rfl (q_move) ?_
   refine AOps.gcons rfl rfl rfl rfl rfl (q_move) ?_
   refine AOps.gdec rfl rfl rfl rfl rfl (q_geq) (fun h1_8 => ?_) (fun h1_8 => ?_)
   ·
    refine AOps.gcons rfl rfl rfl rfl rfl (q_move) ?_
    refine AOps.gcons rfl rfl rfl rfl rfl (q_move) ?_
    refine AOps.gdec rfl rfl rfl rfl rfl (q_leq) (fun h1_11 => ?_) (fun h1_11 => ?_)
    ·
     refine AOps.gcons rfl rfl rfl rfl rfl (q_pick) ?_
     refine AOps.cons rfl rfl (q_pick) ?_
     refine AOps.cons rfl rfl (q_move) ?_
     refine AOps.gskip rfl rfl rfl rfl rfl rfl rfl rfl ?_
     refine AOps.gskip rfl rfl rfl rfl rfl rfl rfl rfl ?_
     refine AOps.gskip rfl rfl rfl rfl rfl rfl rfl rfl ?_
     refine AOps.gskipu rfl rfl rfl rfl rfl rfl rfl ?_
     refine AOps.gskipu rfl rfl rfl rfl rfl rfl rfl ?_
     refine AOps.gskip rfl rfl rfl rfl rfl rfl rfl rfl ?_
     refine AOps.cons rfl rfl (q_pick) ?_
     refine AOps.cons rfl rfl (q_move) ?_
     refine AOps.gskip rfl rfl rfl rfl rfl rfl rfl rfl ?_
     refine AOps.gskip rfl rfl rfl rfl rfl rfl rfl rfl ?_
     refine AOps.cons rfl rfl (q_pick) ?_
     refine AOps.cons rfl rfl (q_move) ?_
     refine AOps.gskip rfl rfl rfl rfl rfl rfl rfl rfl ?_
     refine AOps.gskip rfl rfl rfl rfl rfl rfl rfl rfl ?_
     refine AOps.cons rfl rfl (q_pick) ?_
     refine AOps.cons rfl rfl (q_move) ?_
     refine AOps.gskip rfl rfl rfl rfl rfl rfl rfl rfl ?_
     refine AOps.gskip rfl rfl rfl rfl rfl rfl rfl rfl ?_
     refine AOps.cons rfl rfl (q_pick) ?_
     refine AOps.cons rfl rfl (q_assign) ?_
     refine AOps.nil ?_
     refine AWp.ret ?_
     show Fin te Try.f42 _ _
     refine q_ret (0) [_] [_] ?_
     exact congrArg tf (by unfold plB; first | exact (decide_eq_true (by omega)).symm | exact (decide_eq_false (by omega)).symm | exact decide_eq_decide.2 (by omega))
    ·
     refine AOps.gcons rfl rfl rfl rfl rfl (q_pick) ?_
     refine AOps.cons rfl rfl (q_pick) ?_
     refine AOps.cons rfl rfl (q_move) ?_
     refine AOps.gcons rfl rfl rfl rfl rfl (q_move) ?_
     refine AOps.gdec rfl rfl rfl rfl rfl (q_geq) (fun h1_16 => ?_) (fun h1_16 => ?_)
     ·
      refine AOps.gcons rfl rfl rfl rfl rfl (q_move) ?_
      refine AOps.gcons rfl rfl rfl rfl rfl (q_move) ?_
      refine AOps.gdec rfl rfl rfl rfl rfl (q_leq) (fun h1_19 => ?_) (fun h1_19 => ?_)
      ·
       refine AOps.gcons rfl rfl rfl rfl rfl (q_pick) ?_
       refine AOps.cons rfl rfl (q_pick) ?_
       refine AOps.cons rfl rfl (q_move) ?_
       refine AOps.gskip rfl rfl rfl rfl rfl rfl rfl rfl ?_
       refine AOps.gskip rfl rfl rfl rfl rfl rfl rfl rfl ?_
       refine AOps.cons rfl rfl (q_pick) ?_
       refine AOps.cons rfl rfl (q_move) ?_
       refine AOps.gskip rfl rfl rfl rfl rfl rfl rfl rfl ?_
       refine AOps.gskip rfl rfl rfl rfl rfl rfl rfl rfl ?_
       refine AOps.cons rfl rfl (q_pick) ?_
       refine AOps.cons rfl rfl (q_move) ?_
       refine AOps.gskip rfl rfl rfl rfl rfl rfl rfl rfl ?_
       refine AOps.gskip rfl rfl rfl rfl rfl rfl rfl rfl ?_
       refine AOps.cons rfl rfl (q_pick) ?_
       refine AOps.cons rfl rfl (q_assign) ?_
       refine AOps.nil ?_
       refine AWp.ret ?_
       show Fin te Try.f42 _ _
       refine q_ret (0) [_] [_] ?_
       exact congrArg tf (by unfold plB; first | exact (decide_eq_true (by omega)).symm | exact (decide_eq_false (by omega)).symm | exact decide_eq_decide.2 (by omega))
      ·
       refine AOps.gcons rfl rfl rfl rfl rfl (q_pick) ?_
       refine AOps.cons rfl rfl (q_pick) ?_
       refine AOps.cons rfl rfl (q_move) ?_
       refine AOps.gcons rfl rfl rfl rfl rfl (q_move) ?_
       refine AOps.gdec rfl rfl rfl rfl rfl (q_eql) (fun h1_24 => ?_) (fun h1_24 => ?_)
       ·
        refine AOps.cons rfl rfl (q_pick) ?_
        refine AOps.cons rfl rfl (q_move) ?_
        refine AOps.gskip rfl rfl rfl rfl rfl rfl rfl rfl ?_
        refine AOps.gskip rfl rfl rfl rfl rfl rfl rfl rfl ?_
        refine AOps.cons rfl rfl (q_pick) ?_
        refine AOps.cons rfl rfl (q_move) ?_
        refine AOps.gskip rfl rfl rfl rfl rfl rfl rfl rfl ?_
        refine AOps.gskip rfl rfl rfl rfl rfl rfl rfl rfl ?_
        refine AOps.cons rfl rfl (q_pick) ?_
        refine AOps.cons rfl rfl (q_assign) ?_
        refine AOps.nil ?_
        refine AWp.ret ?_
        show Fin te Try.f42 _ _
        refine q_ret (0) [_] [_] ?_
        exact congrArg tf (by unfold plB; first | exact (decide_eq_true (by omega)).symm | exact (decide_eq_false (by omega)).symm | exact decide_eq_decide.2 (by omega))
       ·
        refine AOps.cons rfl rfl (q_pick) ?_
        refine AOps.cons rfl rfl (q_move) ?_
        refine AOps.gcons rfl rfl rfl rfl rfl (q_move) ?_
        refine AOps.gdec rfl rfl rfl rfl rfl (q_eql) (fun h1_28 => ?_) (fun h1_28 => ?_)
        ·
         refine AOps.cons rfl rfl (q_pick) ?_
         refine AOps.cons rfl rfl (q_move) ?_
         refine AOps.gskip rfl rfl rfl rfl rfl rfl rfl rfl ?_
         refine AOps.gskip rfl rfl rfl rfl rfl rfl rfl rfl ?_
         refine AOps.cons rfl rfl (q_pick) ?_
         refine AOps.cons rfl rfl (q_assign) ?_
         refine AOps.nil ?_
         refine AWp.ret ?_
         show Fin te Try.f42 _ _
         refine q_ret (0) [_] [_] ?_
         exact congrArg tf (by unfold plB; first | exact (decide_eq_true (by omega)).symm | exact (decide_eq_false (by omega)).symm | exact decide_eq_decide.2 (by omega))
        ·
         refine AOps.cons rfl rfl (q_pick) ?_
         refine AOps.cons rfl rfl (q_move) ?_
         refine AOps.gcons rfl rfl rfl rfl rfl (q_move) ?_
         refine AOps.gcons rfl rfl rfl rfl rfl (q_eql) ?_
         refine AOps.cons rfl rfl (q_pick) ?_
         refine AOps.cons rfl rfl (q_assign) ?_
         refine AOps.nil ?_
         refine AWp.ret ?_
         show Fin te Try.f42 _ _
         refine q_ret (0) [_] [_] ?_
         exact congrArg tf (by unfold plB; first | exact (decide_eq_true (by omega)).symm | exact (decide_eq_false (by omega)).symm | exact decide_eq_decide.2 (by omega))
     ·
      refine AOps.gcons rfl rfl rfl rfl rfl (q_move) ?_
      refine AOps.gskip rfl rfl rfl rfl rfl rfl rfl rfl ?_
      refine AOps.gskip rfl rfl rfl rfl rfl rfl rfl rfl ?_
      refine AOps.gcons rfl rfl rfl rfl rfl (q_pick) ?_
      refine AOps.cons rfl rfl (q_pick) ?_
      refine AOps.cons rfl rfl (q_move) ?_
      refine AOps.gcons rfl rfl rfl rfl rfl (q_move) ?_
      refine AOps.gdec rfl rfl rfl rfl rfl (q_eql) (fun h1_24 => ?_) (fun h1_24 => ?_)
      ·
       refine AOps.cons rfl rfl (q_pick) ?_
       refine AOps.cons rfl rfl (q_move) ?_
       refine AOps.gskip rfl rfl rfl rfl rfl rfl rfl rfl ?_
       refine AOps.gskip rfl rfl rfl rfl rfl rfl rfl rfl ?_
       refine AOps.cons rfl rfl (q_pick) ?_
       refine AOps.cons rfl rfl (q_move) ?_
       refine AOps.gskip rfl rfl rfl rfl rfl rfl rfl rfl ?_
       refine AOps.gskip rfl rfl rfl rfl rfl rfl rfl rfl ?_
       refine AOps.cons rfl rfl (q_pick) ?_
       refine AOps.cons rfl rfl (q_assign) ?_
       refine AOps.nil ?_
       refine AWp.ret ?_
       show Fin te Try.f42 _ _
       refine q_ret (0) [_] [_] ?_
       exact congrArg tf (by unfold plB; first | exact (decide_eq_true (by omega)).symm | exact (decide_eq_false (by omega)).symm | exact decide_eq_decide.2 (by omega))
      ·
       refine AOps.cons rfl rfl (q_pick) ?_
       refine AOps.cons rfl rfl (q_move) ?_
       refine AOps.gcons rfl rfl rfl rfl rfl (q_move) ?_
       refine AOps.gdec rfl rfl rfl rfl rfl (q_eql) (fun h1_28 => ?_) (fun h1_28 => ?_)
       ·
        refine AOps.cons rfl rfl (q_pick) ?_
        refine AOps.cons rfl rfl (q_move) ?_
        refine AOps.gskip rfl rfl rfl rfl rfl rfl rfl rfl ?_
        refine AOps.gskip rfl rfl rfl rfl rfl rfl rfl rfl ?_
        refine AOps.cons rfl rfl (q_pick) ?_
        refine AOps.cons rfl rfl (q_assign) ?_
        refine AOps.nil ?_
        refine AWp.ret ?_
        show Fin te Try.f42 _ _
        refine q_ret (0) [_] [_] ?_
        exact congrArg tf (by unfold plB; first | exact (decide_eq_true (by omega)).symm | exact (decide_eq_false (by omega)).symm | exact decide_eq_decide.2 (by omega))
       ·
        refine AOps.cons rfl rfl (q_pick) ?_
        refine AOps.cons rfl rfl (q_move) ?_
        refine AOps.gcons rfl rfl rfl rfl rfl (q_move) ?_
        refine AOps.gcons rfl rfl rfl rfl rfl (q_eql) ?_
        refine AOps.cons rfl rfl (q_pick) ?_
        refine AOps.cons rfl rfl (q_assign) ?_
        refine AOps.nil ?_
        refine AWp.ret ?_
        show Fin te Try.f42 _ _
        refine q_ret (0) [_] [_] ?_
        exact congrArg tf (by unfold plB; first | exact (decide_eq_true (by omega)).symm | exact (decide_eq_false (by omega)).symm | exact decide_eq_decide.2 (by omega))
   ·
    refine AOps.gcons rfl rfl rfl rfl rfl (q_move) ?_
    refine AOps.gskip rfl rfl rfl rfl rfl rfl rfl rfl ?_
    refine AOps.gskip rfl rfl rfl rfl rfl rfl rfl rfl ?_
    refine AOps.gcons rfl rfl rfl rfl rfl (q_pick) ?_
    refine AOps.cons rfl rfl (q_pick) ?_
    refine AOps.cons rfl rfl (q_move) ?_
    refine AOps.gcons rfl rfl rfl rfl rfl (q_move) ?_
    refine AOps.gdec rfl rfl rfl rfl rfl (q_geq) (fun h1_16 => ?_) (fun h1_16 => ?_)
    ·
     refine AOps.gcons rfl rfl rfl rfl rfl (q_move) ?_
     refine AOps.gcons rfl rfl rfl rfl rfl (q_move) ?_
     refine AOps.gdec rfl rfl rfl rfl rfl (q_leq) (fun h1_19 => ?_) (fun h1_19 => ?_)
     ·
      refine AOps.gcons rfl rfl rfl rfl rfl (q_pick) ?_
      refine AOps.cons rfl rfl (q_pick) ?_
      refine AOps.cons rfl rfl (q_move) ?_
      refine AOps.gskip rfl rfl rfl rfl rfl rfl rfl rfl ?_
      refine AOps.gskip rfl rfl rfl rfl rfl rfl rfl rfl ?_
      refine AOps.cons rfl rfl (q_pick) ?_
      refine AOps.cons rfl rfl (q_move) ?_
      refine AOps.gskip rfl rfl rfl rfl rfl rfl rfl rfl ?_
      refine AOps.gskip rfl rfl rfl rfl rfl rfl rfl rfl ?_
      refine AOps.cons rfl rfl (q_pick) ?_
      refine AOps.cons rfl rfl (q_move) ?_
      refine AOps.gskip rfl rfl rfl rfl rfl rfl rfl rfl ?_
      refine AOps.gskip rfl rfl rfl rfl rfl rfl rfl rfl ?_
      refine AOps.cons rfl rfl (q_pick) ?_
      refine AOps.cons rfl rfl (q_assign) ?_
      refine AOps.nil ?_
      refine AWp.ret ?_
      show Fin te Try.f42 _ _
      refine q_ret (0) [_] [_] ?_
      exact congrArg tf (by unfold plB; first | exact (decide_eq_true (by omega)).symm | exact (decide_eq_false (by omega)).symm | exact decide_eq_decide.2 (by omega))
     ·
      refine AOps.gcons rfl rfl rfl rfl rfl (q_pick) ?_
      refine AOps.cons rfl rfl (q_pick) ?_
      refine AOps.cons rfl rfl (q_move) ?_
      refine AOps.gcons rfl rfl rfl rfl rfl (q_move) ?_
      refine AOps.gdec rfl rfl rfl rfl rfl (q_eql) (fun h1_24 => ?_) (fun h1_24 => ?_)
      ·
       refine AOps.cons rfl rfl (q_pick) ?_
       refine AOps.cons rfl rfl (q_move) ?_
       refine AOps.gskip rfl rfl rfl rfl rfl rfl rfl rfl ?_
       refine AOps.gskip rfl rfl rfl rfl rfl rfl rfl rfl ?_
       refine AOps.cons rfl rfl (q_pick) ?_
       refine AOps.cons rfl rfl (q_move) ?_
       refine AOps.gskip rfl rfl rfl rfl rfl rfl rfl rfl ?_
       refine AOps.gskip rfl rfl rfl rfl rfl rfl rfl rfl ?_
       refine AOps.cons rfl rfl (q_pick) ?_
       refine AOps.cons rfl rfl (q_assign) ?_
       refine AOps.nil ?_
       refine AWp.ret ?_
       show Fin te Try.f42 _ _
       refine q_ret (0) [_] [_] ?_
       exact congrArg tf (by unfold plB; first | exact (decide_eq_true (by omega)).symm | exact (decide_eq_false (by omega)).symm | exact decide_eq_decide.2 (by omega))
      ·
       refine AOps.cons rfl rfl (q_pick) ?_
       refine AOps.cons rfl rfl (q_move) ?_
       refine AOps.gcons rfl rfl rfl rfl rfl (q_move) ?_
       refine AOps.gdec rfl rfl rfl rfl rfl (q_eql) (fun h1_28 => ?_) (fun h1_28 => ?_)
       ·
        refine AOps.cons rfl rfl (q_pick) ?_
        refine AOps.cons rfl rfl (q_move) ?_
        refine AOps.gskip rfl rfl rfl rfl rfl rfl rfl rfl ?_
        refine AOps.gskip rfl rfl rfl rfl rfl rfl rfl rfl ?_
        refine AOps.cons rfl rfl (q_pick) ?_
        refine AOps.cons rfl rfl (q_assign) ?_
        refine AOps.nil ?_
        refine AWp.ret ?_
        show Fin te Try.f42 _ _
        refine q_ret (0) [_] [_] ?_
        exact congrArg tf (by unfold plB; first | exact (decide_eq_true (by omega)).symm | exact (decide_eq_false (by omega)).symm | exact decide_eq_decide.2 (by omega))
       ·
        refine AOps.cons rfl rfl (q_pick) ?_
        refine AOps.cons rfl rfl (q_move) ?_
        refine AOps.gcons rfl rfl rfl rfl rfl (q_move) ?_
        refine AOps.gcons rfl rfl rfl rfl rfl (q_eql) ?_
        refine AOps.cons rfl rfl (q_pick) ?_
        refine AOps.cons rfl rfl (q_assign) ?_
        refine AOps.nil ?_
        refine AWp.ret ?_
        show Fin te Try.f42 _ _
        refine q_ret (0) [_] [_] ?_
        exact congrArg tf (by unfold plB; first | exact (decide_eq_true (by omega)).symm | exact (decide_eq_false (by omega)).symm | exact decide_eq_decide.2 (by omega))
    ·
     refine AOps.gcons rfl rfl rfl rfl rfl (q_move) ?_
     refine AOps.gskip rfl rfl rfl rfl rfl rfl rfl rfl ?_
     refine AOps.gskip rfl rfl rfl rfl rfl rfl rfl rfl ?_
     refine AOps.gcons rfl rfl rfl rfl rfl (q_pick) ?_
     refine AOps.cons rfl rfl (q_pick) ?_
     refine AOps.cons rfl rfl (q_move) ?_
     refine AOps.gcons rfl rfl rfl rfl rfl (q_move) ?_
     refine AOps.gdec rfl rfl rfl rfl rfl (q_eql) (fun h1_24 => ?_) (fun h1_24 => ?_)
     ·
      refine AOps.cons rfl rfl (q_pick) ?_
      refine AOps.cons rfl rfl (q_move) ?_
      refine AOps.gskip rfl rfl rfl rfl rfl rfl rfl rfl ?_
      refine AOps.gskip rfl rfl rfl rfl rfl rfl rfl rfl ?_
      refine AOps.cons rfl rfl (q_pick) ?_
      refine AOps.cons rfl rfl (q_move) ?_
      refine AOps.gskip rfl rfl rfl rfl rfl rfl rfl rfl ?_
      refine AOps.gskip rfl rfl rfl rfl rfl rfl rfl rfl ?_
      refine AOps.cons rfl rfl (q_pick) ?_
      refine AOps.cons rfl rfl (q_assign) ?_
      refine AOps.nil ?_
      refine AWp.ret ?_
      show Fin te Try.f42 _ _
      refine q_ret (0) [_] [_] ?_
      exact congrArg tf (by unfold plB; first | exact (decide_eq_true (by omega)).symm | exact (decide_eq_false (by omega)).symm | exact decide_eq_decide.2 (by omega))
     ·
      refine AOps.cons rfl rfl (q_pick) ?_
      refine AOps.cons rfl rfl (q_move) ?_
      refine AOps.gcons rfl rfl rfl rfl rfl (q_move) ?_
      refine AOps.gdec rfl rfl rfl rfl rfl (q_eql) (fun h1_28 => ?_) (fun h1_28 => ?_)
      ·
       refine AOps.cons rfl rfl (q_pick) ?_
       refine AOps.cons rfl rfl (q_move) ?_
       refine AOps.gskip rfl rfl rfl rfl rfl rfl rfl rfl ?_
       refine AOps.gskip rfl rfl rfl rfl rfl rfl rfl rfl ?_
       refine AOps.cons rfl rfl (q_pick) ?_
       refine AOps.cons rfl rfl (q_assign) ?_
       refine AOps.nil ?_
       refine AWp.ret ?_
       show Fin te Try.f42 _ _
       refine q_ret (0) [_] [_] ?_
       exact congrArg tf (by unfold plB; first | exact (decide_eq_true (by omega)).symm | exact (decide_eq_false (by omega)).symm | exact decide_eq_decide.2 (by omega))
      ·
       refine AOps.cons rfl rfl (q_pick) ?_
       refine AOps.cons rfl rfl (q_move) ?_
       refine AOps.gcons rfl rfl rfl rfl rfl (q_move) ?_
       refine AOps.gcons rfl rfl rfl rfl rfl (q_eql) ?_
       refine AOps.cons rfl rfl (q_pick) ?_
       refine AOps.cons rfl rfl (q_assign) ?_
       refine AOps.nil ?_
       refine AWp.ret ?_
       show Fin te Try.f42 _ _
       refine q_ret (0) [_] [_] ?_
       exact congrArg tf (by unfold plB; first | exact (decide_eq_true (by omega)).symm | exact (decide_eq_false (by omega)).symm | exact decide_eq_decide.2 (by omega))
 ·
  refine AOps.cons rfl rfl (q_move) ?_
  refine AOps.gskip rfl rfl rfl rfl rfl rfl rfl rfl ?_
  refine AOps.gskip rfl rfl rfl rfl rfl rfl rfl rfl ?_
  refine AOps.cons rfl rfl (q_pick) ?_
  refine AOps.cons rfl rfl (q_move) ?_
  refine AOps.gcons rfl rfl rfl rfl rfl (q_move) ?_
  refine AOps.gdec rfl rfl rfl rfl rfl (q_geq) (fun h1_8 => ?_) (fun h1_8 => ?_)
  ·
   refine AOps.gcons rfl rfl rfl rfl rfl (q_move) ?_
   refine AOps.gcons rfl rfl rfl rfl rfl (q_move) ?_
   refine AOps.gdec rfl rfl rfl rfl rfl (q_leq) (fun h1_11 => ?_) (fun h1_11 => ?_)
   ·
    refine AOps.gcons rfl rfl rfl rfl rfl (q_pick) ?_
    refine AOps.cons rfl rfl (q_pick) ?_
    refine AOps.cons rfl rfl (q_move) ?_
    refine AOps.gskip rfl rfl rfl rfl rfl rfl rfl rfl ?_
    refine AOps.gskip rfl rfl rfl rfl rfl rfl rfl rfl ?_
    refine AOps.gskip rfl rfl rfl rfl rfl rfl rfl rfl ?_
    refine AOps.gskipu rfl rfl rfl rfl rfl rfl rfl ?_
    refine AOps.gskipu rfl rfl rfl rfl rfl rfl rfl ?_
    refine AOps.gskip rfl rfl rfl rfl rfl rfl rfl rfl ?_
    refine AOps.cons rfl rfl (q_pick) ?_
    refine AOps.cons rfl rfl (q_move) ?_
    refine AOps.gskip rfl rfl rfl rfl rfl rfl rfl rfl ?_
    refine AOps.gskip rfl rfl rfl rfl rfl rfl rfl rfl ?_
    refine AOps.cons rfl rfl (q_pick) ?_
    refine AOps.cons rfl rfl (q_move) ?_
    refine AOps.gskip rfl rfl rfl rfl rfl rfl rfl rfl ?_
    refine AOps.gskip rfl rfl rfl rfl rfl rfl rfl rfl ?_
    refine AOps.cons rfl rfl (q_pick) ?_
    refine AOps.cons rfl rfl (q_move) ?_
    refine AOps.gskip rfl rfl rfl rfl rfl rfl rfl rfl ?_
    refine AOps.gskip rfl rfl rfl rfl rfl rfl rfl rfl ?_
    refine AOps.cons rfl rfl (q_pick) ?_
    refine AOps.cons rfl rfl (q_assign) ?_
    refine AOps.nil ?_
    refine AWp.ret ?_
    show Fin te Try.f42 _ _
    refine q_ret (0) [_] [_] ?_
    exact congrArg tf (by unfold plB; first | exact (decide_eq_true (by omega)).symm | exact (decide_eq_false (by omega)).symm | exact decide_eq_decide.2 (by omega))
   ·
    refine AOps.gcons rfl rfl rfl rfl rfl (q_pick) ?_
    refine AOps.cons rfl rfl (q_pick) ?_
    refine AOps.cons rfl rfl (q_move) ?_
    refine AOps.gcons rfl rfl rfl rfl rfl (q_move) ?_
    refine AOps.gdec rfl rfl rfl rfl rfl (q_geq) (fun h1_16 => ?_) (fun h1_16 => ?_)
    ·
     refine AOps.gcons rfl rfl rfl rfl rfl (q_move) ?_
     refine AOps.gcons rfl rfl rfl rfl rfl (q_move) ?_
     refine AOps.gdec rfl rfl rfl rfl rfl (q_leq) (fun h1_19 => ?_) (fun h1_19 => ?_)
     ·
      refine AOps.gcons rfl rfl rfl rfl rfl (q_pick) ?_
      refine AOps.cons rfl rfl (q_pick) ?_
      refine AOps.cons rfl rfl (q_move) ?_
      refine AOps.gskip rfl rfl rfl rfl rfl rfl rfl rfl ?_
      refine AOps.gskip rfl rfl rfl rfl rfl rfl rfl rfl ?_
      refine AOps.cons rfl rfl (q_pick) ?_
      refine AOps.cons rfl rfl (q_move) ?_
      refine AOps.gskip rfl rfl rfl rfl rfl rfl rfl rfl ?_
      refine AOps.gskip rfl rfl rfl rfl rfl rfl rfl rfl ?_
      refine AOps.cons rfl rfl (q_pick) ?_
      refine AOps.cons rfl rfl (q_move) ?_
      refine AOps.gskip rfl rfl rfl rfl rfl rfl rfl rfl ?_
      refine AOps.gskip rfl rfl rfl rfl rfl rfl rfl rfl ?_
      refine AOps.cons rfl rfl (q_pick) ?_
      refine AOps.cons rfl rfl (q_assign) ?_
      refine AOps.nil ?_
      refine AWp.ret ?_
      show Fin te Try.f42 _ _
      refine q_ret (0) [_] [_] ?_
      exact congrArg tf (by unfold plB; first | exact (decide_eq_true (by omega)).symm | exact (decide_eq_false (by omega)).symm | exact decide_eq_decide.2 (by omega))
     ·
      refine AOps.gcons rfl rfl rfl rfl rfl (q_pick) ?_
      refine AOps.cons rfl rfl (q_pick) ?_
      refine AOps.cons rfl rfl (q_move) ?_
      refine AOps.gcons rfl rfl rfl rfl rfl (q_move) ?_
      refine AOps.gdec rfl rfl rfl rfl rfl (q_eql) (fun h1_24 => ?_) (fun h1_24 => ?_)
      ·
       refine AOps.cons rfl rfl (q_pick) ?_
       refine AOps.cons rfl rfl (q_move) ?_
       refine AOps.gskip rfl rfl rfl rfl rfl rfl rfl rfl ?_
       refine AOps.gskip rfl rfl rfl rfl rfl rfl rfl rfl ?_
       refine AOps.cons rfl rfl (q_pick) ?_
       refine AOps.cons rfl rfl (q_move) ?_
       refine AOps.gskip rfl rfl rfl rfl rfl rfl rfl rfl ?_
       refine AOps.gskip rfl rfl rfl rfl rfl rfl rfl rfl ?_
       refine AOps.cons rfl rfl (q_pick) ?_
       refine AOps.cons rfl rfl (q_assign) ?_
       refine AOps.nil ?_
       refine AWp.ret ?_
       show Fin te Try.f42 _ _
       refine q_ret (0) [_] [_] ?_
       exact congrArg tf (by unfold plB; first | exact (decide_eq_true (by omega)).symm | exact (decide_eq_false (by omega)).symm | exact decide_eq_decide.2 (by omega))
      ·
       refine AOps.cons rfl rfl (q_pick) ?_
       refine AOps.cons rfl rfl (q_move) ?_
       refine AOps.gcons rfl rfl rfl rfl rfl (q_move) ?_
       refine AOps.gdec rfl rfl rfl rfl rfl (q_eql) (fun h1_28 => ?_) (fun h1_28 => ?_)
       ·
        refine AOps.cons rfl rfl (q_pick) ?_
        refine AOps.cons rfl rfl (q_move) ?_
        refine AOps.gskip rfl rfl rfl rfl rfl rfl rfl rfl ?_
        refine AOps.gskip rfl rfl rfl rfl rfl rfl rfl rfl ?_
        refine AOps.cons rfl rfl (q_pick) ?_
        refine AOps.cons rfl rfl (q_assign) ?_
        refine AOps.nil ?_
        refine AWp.ret ?_
        show Fin te Try.f42 _ _
        refine q_ret (0) [_] [_] ?_
        exact congrArg tf (by unfold plB; first | exact (decide_eq_true (by omega)).symm | exact (decide_eq_false (by omega)).symm | exact decide_eq_decide.2 (by omega))
       ·
        refine AOps.cons rfl rfl (q_pick) ?_
        refine AOps.cons rfl rfl (q_move) ?_
        refine AOps.gcons rfl rfl rfl rfl rfl (q_move) ?_
        refine AOps.gcons rfl rfl rfl rfl rfl (q_eql) ?_
        refine AOps.cons rfl rfl (q_pick) ?_
        refine AOps.cons rfl rfl (q_assign) ?_
        refine AOps.nil ?_
        refine AWp.ret ?_
        show Fin te Try.f42 _ _
        refine q_ret (0) [_] [_] ?_
        exact congrArg tf (by unfold plB; first | exact (decide_eq_true (by omega)).symm | exact (decide_eq_false (by omega)).symm | exact decide_eq_decide.2 (by omega))
    ·
     refine AOps.gcons rfl rfl rfl rfl rfl (q_move) ?_
     refine AOps.gskip rfl rfl rfl rfl rfl rfl rfl rfl ?_
     refine AOps.gskip rfl rfl rfl rfl rfl rfl rfl rfl ?_
     refine AOps.gcons rfl rfl rfl rfl rfl (q_pick) ?_
     refine AOps.cons rfl rfl (q_pick) ?_
     refine AOps.cons rfl rfl (q_move) ?_
     refine AOps.gcons rfl rfl rfl rfl rfl (q_move) ?_
     refine AOps.gdec rfl rfl rfl rfl rfl (q_eql) (fun h1_24 => ?_) (fun h1_24 => ?_)
     ·
      refine AOps.cons rfl rfl (q_pick) ?_
      refine AOps.cons rfl rfl (q_move) ?_
      refine AOps.gskip rfl rfl rfl rfl rfl rfl rfl rfl ?_
      refine AOps.gskip rfl rfl rfl rfl rfl rfl rfl rfl ?_
      refine AOps.cons rfl rfl (q_pick) ?_
      refine AOps.cons rfl rfl (q_move) ?_
      refine AOps.gskip rfl rfl rfl rfl rfl rfl rfl rfl ?_
      refine AOps.gskip rfl rfl rfl rfl rfl rfl rfl rfl ?_
      refine AOps.cons rfl rfl (q_pick) ?_
      refine AOps.cons rfl rfl (q_assign) ?_
      refine AOps.nil ?_
      refine AWp.ret ?_
      show Fin te Try.f42 _ _
      refine q_ret (0) [_] [_] ?_
      exact congrArg tf (by unfold plB; first | exact (decide_eq_true (by omega)).symm | exact (decide_eq_false (by omega)).symm | exact decide_eq_decide.2 (by omega))
     ·
      refine AOps.cons rfl rfl (q_pick) ?_
      refine AOps.cons rfl rfl (q_move) ?_
      refine AOps.gcons rfl rfl rfl rfl rfl (q_move) ?_
      refine AOps.gdec rfl rfl rfl rfl rfl (q_eql) (fun h1_28 => ?_) (fun h1_28 => ?_)
      ·
       refine AOps.cons rfl rfl (q_pick) ?_
       refine AOps.cons rfl rfl (q_move) ?_
       refine AOps.gskip rfl rfl rfl rfl rfl rfl rfl rfl ?_
       refine AOps.gskip rfl rfl rfl rfl rfl rfl rfl rfl ?_
       refine AOps.cons rfl rfl (q_pick) ?_
       refine AOps.cons rfl rfl (q_assign) ?_
       refine AOps.nil ?_
       refine AWp.ret ?_
       show Fin te Try.f42 _ _
       refine q_ret (0) [_] [_] ?_
       exact congrArg tf (by unfold plB; first | exact (decide_eq_true (by omega)).symm | exact (decide_eq_false (by omega)).symm | exact decide_eq_decide.2 (by omega))
      ·
       refine AOps.cons rfl rfl (q_pick) ?_
       refine AOps.cons rfl rfl (q_move) ?_
       refine AOps.gcons rfl rfl rfl rfl rfl (q_move) ?_
       refine AOps.gcons rfl rfl rfl rfl rfl (q_eql) ?_
       refine AOps.cons rfl rfl (q_pick) ?_
       refine AOps.cons rfl rfl (q_assign) ?_
       refine AOps.nil ?_
       refine AWp.ret ?_
       show Fin te Try.f42 _ _
       refine q_ret (0) [_] [_] ?_
       exact congrArg tf (by unfold plB; first | exact (decide_eq_true (by omega)).symm | exact (decide_eq_false (by omega)).symm | exact decide_eq_decide.2 (by omega))
  ·
   refine AOps.gcons rfl rfl rfl rfl rfl (q_move) ?_
   refine AOps.gskip rfl rfl rfl rfl rfl rfl rfl rfl ?_
   refine AOps.gskip rfl rfl rfl rfl rfl rfl rfl rfl ?_
   refine AOps.gcons rfl rfl rfl rfl rfl (q_pick) ?_
   refine AOps.cons rfl rfl (q_pick) ?_
   refine AOps.cons rfl rfl (q_move) ?_
   refine AOps.gcons rfl rfl rfl rfl rfl (q_move) ?_
   refine AOps.gdec rfl rfl rfl rfl rfl (q_geq) (fun h1_16 => ?_) (fun h1_16 => ?_)
   ·
    refine AOps.gcons rfl rfl rfl rfl rfl (q_move) ?_
    refine AOps.gcons rfl rfl rfl rfl rfl (q_move) ?_
    refine AOps.gdec rfl rfl rfl rfl rfl (q_leq) (fun h1_19 => ?_) (fun h1_19 => ?_)
    ·
     refine AOps.gcons rfl rfl rfl rfl rfl (q_pick) ?_
     refine AOps.cons rfl rfl (q_pick) ?_
     refine AOps.cons rfl rfl (q_move) ?_
     refine AOps.gskip rfl rfl rfl rfl rfl rfl rfl rfl ?_
     refine AOps.gskip rfl rfl rfl rfl rfl rfl rfl rfl ?_
     refine AOps.cons rfl rfl (q_pick) ?_
     refine AOps.cons rfl rfl (q_move) ?_
     refine AOps.gskip rfl rfl rfl rfl rfl rfl rfl rfl ?_
     refine AOps.gskip rfl rfl rfl rfl rfl rfl rfl rfl ?_
     refine AOps.cons rfl rfl (q_pick) ?_
     refine AOps.cons rfl rfl (q_move) ?_
     refine AOps.gskip rfl rfl rfl rfl rfl rfl rfl rfl ?_
     refine AOps.gskip rfl rfl rfl rfl rfl rfl rfl rfl ?_
     refine AOps.cons rfl rfl (q_pick) ?_
     refine AOps.cons rfl rfl (q_assign) ?_
     refine AOps.nil ?_
     refine AWp.ret ?_
     show Fin te Try.f42 _ _
     refine q_ret (0) [_] [_] ?_
     exact congrArg tf (by unfold plB; first | exact (decide_eq_true (by omega)).symm | exact (decide_eq_false (by omega)).symm | exact decide_eq_decide.2 (by omega))
    ·
     refine AOps.gcons rfl rfl rfl rfl rfl (q_pick) ?_
     refine AOps.cons rfl rfl (q_pick) ?_
     refine AOps.cons rfl rfl (q_move) ?_
     refine AOps.gcons rfl rfl rfl rfl rfl (q_move) ?_
     refine AOps.gdec rfl rfl rfl rfl rfl (q_eql) (fun h1_24 => ?_) (fun h1_24 => ?_)
     ·
      refine AOps.cons rfl rfl (q_pick) ?_
      refine AOps.cons rfl rfl (q_move) ?_
      refine AOps.gskip rfl rfl rfl rfl rfl rfl rfl rfl ?_
      refine AOps.gskip rfl rfl rfl rfl rfl rfl rfl rfl ?_
      refine AOps.cons rfl rfl (q_pick) ?_
      refine AOps.cons rfl rfl (q_move) ?_
      refine AOps.gskip rfl rfl rfl rfl rfl rfl rfl rfl ?_
      refine AOps.gskip rfl rfl rfl rfl rfl rfl rfl rfl ?_
      refine AOps.cons rfl rfl (q_pick) ?_
      refine AOps.cons rfl rfl (q_assign) ?_
      refine AOps.nil ?_
      refine AWp.ret ?_
      show Fin te Try.f42 _ _
      refine q_ret (0) [_] [_] ?_
      exact congrArg tf (by unfold plB; first | exact (decide_eq_true (by omega)).symm | exact (decide_eq_false (by omega)).symm | exact decide_eq_decide.2 (by omega))
     ·
      refine AOps.cons rfl rfl (q_pick) ?_
      refine AOps.cons rfl rfl (q_move) ?_
      refine AOps.gcons rfl rfl rfl rfl rfl (q_move) ?_
      refine AOps.gdec rfl rfl rfl rfl rfl (q_eql) (fun h1_28 => ?_) (fun h1_28 => ?_)
      ·
       refine AOps.cons rfl rfl (q_pick) ?_
       refine AOps.cons rfl rfl (q_move) ?_
       refine AOps.gskip rfl rfl rfl rfl rfl rfl rfl rfl ?_
       refine AOps.gskip rfl rfl rfl rfl rfl rfl rfl rfl ?_
       refine AOps.cons rfl rfl (q_pick) ?_
       refine AOps.cons rfl rfl (q_assign) ?_
       refine AOps.nil ?_
       refine AWp.ret ?_
       show Fin te Try.f42 _ _
       refine q_ret (0) [_] [_] ?_
       exact congrArg tf (by unfold plB; first | exact (decide_eq_true (by omega)).symm | exact (decide_eq_false (by omega)).symm | exact decide_eq_decide.2 (by omega))
      ·
       refine AOps.cons rfl rfl (q_pick) ?_
       refine AOps.cons rfl rfl (q_move) ?_
       refine AOps.gcons rfl rfl rfl rfl rfl (q_move) ?_
       refine AOps.gcons rfl rfl rfl rfl rfl (q_eql) ?_
       refine AOps.cons rfl rfl (q_pick) ?_
       refine AOps.cons rfl rfl (q_assign) ?_
       refine AOps.nil ?_
       refine AWp.ret ?_
       show Fin te Try.f42 _ _
       refine q_ret (0) [_] [_] ?_
       exact congrArg tf (by unfold plB; first | exact (decide_eq_true (by omega)).symm | exact (decide_eq_false (by omega)).symm | exact decide_eq_decide.2 (by omega))
   ·
    refine AOps.gcons rfl rfl rfl rfl rfl (q_move) ?_
    refine AOps.gskip rfl rfl rfl rfl rfl rfl rfl rfl ?_
    refine AOps.gskip rfl rfl rfl rfl rfl rfl rfl rfl ?_
    refine AOps.gcons rfl rfl rfl rfl rfl (q_pick) ?_
    refine AOps.cons rfl rfl (q_pick) ?_
    refine AOps.cons rfl rfl (q_move) ?_
    refine AOps.gcons rfl rfl rfl rfl rfl (q_move) ?_
    refine AOps.gdec rfl rfl rfl rfl rfl (q_eql) (fun h1_24 => ?_) (fun h1_24 => ?_)
    ·
     refine AOps.cons rfl rfl (q_pick) ?_
     refine AOps.cons rfl rfl (q_move) ?_
     refine AOps.gskip rfl rfl rfl rfl rfl rfl rfl rfl ?_
     refine AOps.gskip rfl rfl rfl rfl rfl rfl rfl rfl ?_
     refine AOps.cons rfl rfl (q_pick) ?_
     refine AOps.cons rfl rfl (q_move) ?_
     refine AOps.gskip rfl rfl rfl rfl rfl rfl rfl rfl ?_
     refine AOps.gskip rfl rfl rfl rfl rfl rfl rfl rfl ?_
     refine AOps.cons rfl rfl (q_pick) ?_
     refine AOps.cons rfl rfl (q_assign) ?_
     refine AOps.nil ?_
     refine AWp.ret ?_
     show Fin te Try.f42 _ _
     refine q_ret (0) [_] [_] ?_
     exact congrArg tf (by unfold plB; first | exact (decide_eq_true (by omega)).symm | exact (decide_eq_false (by omega)).symm | exact decide_eq_decide.2 (by omega))
    ·
     refine AOps.cons rfl rfl (q_pick) ?_
     refine AOps.cons rfl rfl (q_move) ?_
     refine AOps.gcons rfl rfl rfl rfl rfl (q_move) ?_
     refine AOps.gdec rfl rfl rfl rfl rfl (q_eql) (fun h1_28 => ?_) (fun h1_28 => ?_)
     ·
      refine AOps.cons rfl rfl (q_pick) ?_
      refine AOps.cons rfl rfl (q_move) ?_
      refine AOps.gskip rfl rfl rfl rfl rfl rfl rfl rfl ?_
      refine AOps.gskip rfl rfl rfl rfl rfl rfl rfl rfl ?_
      refine AOps.cons rfl rfl (q_pick) ?_
      refine AOps.cons rfl rfl (q_assign) ?_
      refine AOps.nil ?_
      refine AWp.ret ?_
      show Fin te Try.f42 _ _
      refine q_ret (0) [_] [_] ?_
      exact congrArg tf (by unfold plB; first | exact (decide_eq_true (by omega)).symm | exact (decide_eq_false (by omega)).symm | exact decide_eq_decide.2 (by omega))
     ·
      refine AOps.cons rfl rfl (q_pick) ?_
      refine AOps.cons rfl rfl (q_move) ?_
      refine AOps.gcons rfl rfl rfl rfl rfl (q_move) ?_
      refine AOps.gcons rfl rfl rfl rfl rfl (q_eql) ?_
      refine AOps.cons rfl rfl (q_pick) ?_
      refine AOps.cons rfl rfl (q_assign) ?_
      refine AOps.nil ?_
      refine AWp.ret ?_
      show Fin te Try.f42 _ _
      refine q_ret (0) [_] [_] ?_
      exact congrArg tf (by unfold plB; first | exact (decide_eq_true (by omega)).symm | exact (decide_eq_false (by omega)).symm | exact decide_eq_decide.2 (by omega))
end Go.Proofs.Ytfojdjlhpejbpaa.Fw


set_option linter.unusedVariables false
set_option linter.unusedSimpArgs false
namespace Go.Proofs.Ytfojdjlhpejbpaa.Fw
open Go.RowKit
def numD (r : List UInt8) : Nat := ((r.getD 0 default).toNat - 48) * 100 + ((r.getD 1 default).toNat - 48) * 10 + ((r.getD 2 default).toNat - 48)
def prs : List UInt8 → List (List UInt8) → List UInt8 → Option (List (List UInt8))
  | [], l, lab => if lab = [] ∧ l ≠ [] then some l else none
  | c :: r, l, lab =>
    if plB c then prs r l (lab ++ [c])
    else if c.toNat = 46 then (if lab.length < 1 ∨ 63 < lab.length then none else prs r (l ++ [lab]) [])
    else if c.toNat = 92 ∧ 3 ≤ r.length ∧ digB (r.getD 0 default) = true ∧ digB (r.getD 1 default) = true ∧ digB (r.getD 2 default) = true then (if 255 < numD r then none else prs (r.drop 3) l (lab ++ [byte (numD r : Int)]))
    else none
termination_by s => s.length
decreasing_by all_goals simp <;> omega
def parO (s : List UInt8) : List UInt8 × Int := if s = [46] then ([0], 0) else match prs s [] [] with
  | none => ([], 10)
  | some l => if 255 < (joinN l).length then ([], 11) else (joinN l, 0)
theorem joinN_sum : ∀ ls : List (List UInt8), (joinN ls).length = (ls.map List.length).sum + ls.length + 1
  | [] => rfl
  | l :: ls => by rw [joinN_cons]; simp [joinN_sum ls]; omega
theorem dig_sub {c : UInt8} (h : digB c = true) : (c - 48).toNat = c.toNat - 48 ∧ c.toNat ≤ 57 := by
  simp only [digB, decide_eq_true_eq] at h
  exact ⟨UInt8.toNat_sub_of_le c 48 (by rw [UInt8.le_iff_toNat_le]; exact h.1), h.2⟩
theorem par_dot {s : List UInt8} (h : s = [46]) : parO s = ([0], 0) := if_pos h
theorem par_none {s : List UInt8} (h : ¬ s = [46]) (hp : prs s [] [] = none) : parO s = ([], 10) := by rw [parO, if_neg h, hp]
theorem par_big {s : List UInt8} {l : List (List UInt8)} (h : ¬ s = [46]) (hp : prs s [] [] = some l) (hl : 255 < (joinN l).length) : parO s = ([], 11) := by rw [parO, if_neg h, hp]; exact if_pos hl
theorem par_some {s : List UInt8} {l : List (List UInt8)} (h : ¬ s = [46]) (hp : prs s [] [] = some l) (hl : ¬ 255 < (joinN l).length) : parO s = (joinN l, 0) := by rw [parO, if_neg h, hp]; exact if_neg hl
section
variable {s lab : List UInt8} {l : List (List UInt8)} {k : Nat}
theorem drop_at (h : k < s.length) : s.drop k = s.getD k default :: s.drop (k + 1) := by rw [List.drop_eq_getElem_cons h, getD_at h]
theorem getD_drop {j : Nat} : (s.drop k).getD j default = s.getD (k + j) default := by rw [List.getD_eq_getElem?_getD, List.getElem?_drop, ← List.getD_eq_getElem?_getD]
theorem prs_end (h : k = s.length) : prs (s.drop k) l lab = if lab = [] ∧ l ≠ [] then some l else none := by subst h; rw [List.drop_length, prs]
theorem prs_pl (h : k < s.length) (hc : plB (s.getD k default) = true) : prs (s.drop k) l lab = prs (s.drop (k + 1)) l (lab ++ [s.getD k default]) := by rw [drop_at h, prs, if_pos hc]
theorem prs_dotx (h : k < s.length) (hc : plB (s.getD k default) = false) (h2 : (s.getD k default).toNat = 46) (h3 : lab.length < 1 ∨ 63 < lab.length) : prs (s.drop k) l lab = none := by rw [drop_at h, prs, if_neg (by rw [hc]; exact Bool.false_ne_true), if_pos h2, if_pos h3]
theorem prs_dot (h : k < s.length) (hc : plB (s.getD k default) = false) (h2 : (s.getD k default).toNat = 46) (h3 : ¬ (lab.length < 1 ∨ 63 < lab.length)) : prs (s.drop k) l lab = prs (s.drop (k + 1)) (l ++ [lab]) [] := by rw [drop_at h, prs, if_neg (by rw [hc]; exact Bool.false_ne_true), if_pos h2, if_neg h3]
theorem prs_bad (h : k < s.length) (hc : plB (s.getD k default) = false) (h2 : ¬ (s.getD k default).toNat = 46)
    (h3 : ¬ ((s.getD k default).toNat = 92 ∧ k + 4 ≤ s.length ∧ digB (s.getD (k + 1) default) = true ∧ digB (s.getD (k + 2) default) = true ∧ digB (s.getD (k + 3) default) = true)) : prs (s.drop k) l lab = none := by
  rw [drop_at h, prs, if_neg (by rw [hc]; exact Bool.false_ne_true), if_neg h2, if_neg]
  rw [getD_drop, getD_drop, getD_drop, List.length_drop]
  intro ⟨a, b, c, d, e⟩
  exact h3 ⟨a, by omega, c, d, e⟩
def numA (s : List UInt8) (k : Nat) : Nat := ((s.getD (k + 1) default).toNat - 48) * 100 + ((s.getD (k + 2) default).toNat - 48) * 10 + ((s.getD (k + 3) default).toNat - 48)
theorem numA_eq : numD (s.drop (k + 1)) = numA s k := by rw [numD, numA, getD_drop, getD_drop, getD_drop]
theorem prs_escx (h : k < s.length) (hc : plB (s.getD k default) = false) (h2 : ¬ (s.getD k default).toNat = 46)
    (h3 : (s.getD k default).toNat = 92 ∧ k + 4 ≤ s.length ∧ digB (s.getD (k + 1) default) = true ∧ digB (s.getD (k + 2) default) = true ∧ digB (s.getD (k + 3) default) = true) (h4 : 255 < numA s k) : prs (s.drop k) l lab = none := by
  rw [drop_at h, prs, if_neg (by rw [hc]; exact Bool.false_ne_true), if_neg h2, if_pos, numA_eq, if_pos h4]
  rw [getD_drop, getD_drop, getD_drop, List.length_drop]
  exact ⟨h3.1, by omega, h3.2.2⟩
theorem prs_esc (h : k < s.length) (hc : plB (s.getD k default) = false) (h2 : ¬ (s.getD k default).toNat = 46)
    (h3 : (s.getD k default).toNat = 92 ∧ k + 4 ≤ s.length ∧ digB (s.getD (k + 1) default) = true ∧ digB (s.getD (k + 2) default) = true ∧ digB (s.getD (k + 3) default) = true) (h4 : ¬ 255 < numA s k) : prs (s.drop k) l lab = prs (s.drop (k + 4)) l (lab ++ [byte (numA s k : Int)]) := by
  rw [drop_at h, prs, if_neg (by rw [hc]; exact Bool.false_ne_true), if_neg h2, if_pos, numA_eq, if_neg h4, List.drop_drop]
  rw [getD_drop, getD_drop, getD_drop, List.length_drop]
  exact ⟨h3.1, by omega, h3.2.2⟩
end
set_option maxRecDepth 20000 in
set_option maxHeartbeats 2000000 in
theorem c_rParse (s : List UInt8) (h : s.length ≤ 1073741824) : AC Try.prog 28 [str s] emp (Ret (.tup [str (parO s).1, i64 (parO s).2])) := by
 refine AC.intro te_ok (fn := Try.f28) ⟨Try.func28, rfl, rfl⟩ (Nat.le_of_ble_eq_true rfl) ?_
 refine AWp.seq ?_
 refine AWp.region ?_
 refine AOps.cons rfl rfl (q_assign) ?_
 refine AOps.cons rfl rfl (q_assign) ?_
 refine AOps.nil ?_
 refine AWp.seq ?_
 refine AWp.seq ?_
 refine AWp.region ?_
 refine AOps.cons rfl rfl (q_move) ?_
 refine AOps.dec rfl rfl (q_seql) (fun h1_1 => ?_) (fun h1_1 => ?_)
 ·
  refine AOps.nil ?_
  refine AWp.cond_t rfl ?_
  refine AWp.seq ?_
  refine AWp.region ?_
  refine AOps.cons rfl rfl (q_assign) ?_
  refine AOps.cons rfl rfl (q_assign) ?_
  refine AOps.nil ?_
  refine AWp.ret ?_
  show Fin te Try.f28 _ _
  refine q_ret (0) [_, _] [_, _] ?_
  rw [par_dot h1_1]; rfl
 ·
  refine AOps.nil ?_
  refine AWp.cond_f rfl ?_
  refine AWp.skip ?_
  refine AWp.seq ?_
  refine AWp.region ?_
  refine AOps.cons rfl rfl (q_nilrow 400 1 sc) ?_
  refine AOps.nil ?_
  refine AWp.seq ?_
  refine AWp.region ?_
  refine AOps.cons rfl rfl (q_assign) ?_
  refine AOps.nil ?_
  refine AWp.seq ?_
  refine AWp.region ?_
  refine AOps.cons rfl rfl (q_assign) ?_
  refine AOps.nil ?_
  refine AWp.seq ?_
  refine AWp.block ?_
  refine AWp.loopR (α := Nat × List (List UInt8) × List UInt8 × Nat) [2, 3, 4, 5, 6, 7, 8, 12, 13, 14, 15, 16, 17, 18, 19, 20, 21, 22, 23, 24, 25, 26, 27, 28, 29, 30, 31, 32, 33, 34, 35, 36, 37, 38, 39, 40, 41, 42, 43, 44, 45, 46, 47, 48, 49, 50, 51, 52, 53, 54, 55, 56, 57, 58, 59, 60, 61, 62, 63, 64, 65, 66, 67, 68, 69, 70, 71, 72, 73, 74, 75, 76, 77, 78, 79, 80, 81, 82, 83, 84, 85, 86, 87, 88, 89, 90, 91, 92, 93, 94, 95, 96, 97, 98, 99, 100, 101, 102, 103, 104, 105, 106, 107, 108, 109, 110] (fun x_ => [(6, i64 (x_.1)), (5, str (x_.2.2.1)), (4, .sl 400 (x_.2.2.2) 0 (x_.2.1).length 1)]) (fun x_ => [(400, .row (cl sc (x_.2.1)) 1 (x_.2.2.2))]) (fun x_ => (x_.1) ≤ s.length ∧ prs (s.drop (x_.1)) (x_.2.1) (x_.2.2.1) = prs s [] [] ∧ ((x_.2.1).map List.length).sum + (x_.2.1).length + (x_.2.2.1).length ≤ (x_.1)) (fun x_ => s.length - (x_.1)) (0, [], [], 0) ?_ (Back.mk' (HasT.cons (HasT.cons (HasT.cons HasT.nil))) (HasH.cons HasH.nil)) ?_
  ·
   exact ⟨Nat.zero_le _, rfl, Nat.le_refl _⟩
  ·
   rintro ⟨k, l, lab, v⟩ hI6
   change k ≤ s.length ∧ prs (s.drop k) l lab = prs s [] [] ∧ (l.map List.length).sum + l.length + lab.length ≤ k at hI6
   obtain ⟨hk, hE, hsz⟩ := hI6
   refine AWp.as (s' := AS.over _ [2, 3, 4, 5, 6, 7, 8, 12, 13, 14, 15, 16, 17, 18, 19, 20, 21, 22, 23, 24, 25, 26, 27, 28, 29, 30, 31, 32, 33, 34, 35, 36, 37, 38, 39, 40, 41, 42, 43, 44, 45, 46, 47, 48, 49, 50, 51, 52, 53, 54, 55, 56, 57, 58, 59, 60, 61, 62, 63, 64, 65, 66, 67, 68, 69, 70, 71, 72, 73, 74, 75, 76, 77, 78, 79, 80, 81, 82, 83, 84, 85, 86, 87, 88, 89, 90, 91, 92, 93, 94, 95, 96, 97, 98, 99, 100, 101, 102, 103, 104, 105, 106, 107, 108, 109, 110] [(6, i64 k), (5, str lab), (4, .sl 400 v 0 l.length 1)] [(400, .row (cl sc l) 1 v)]) rfl ?_
   refine AWp.seq ?_
   refine AWp.seq ?_
   refine AWp.region ?_
   refine AOps.cons rfl rfl (q_move) ?_
   refine AOps.cons rfl rfl (q_move) ?_
   refine AOps.cons rfl rfl (q_len_str) ?_
   refine AOps.dec rfl rfl (q_lss) (fun h6_3 => ?_) (fun h6_3 => ?_)
   ·
    refine AOps.nil ?_
    refine AWp.cond_t rfl ?_
    refine AWp.skip ?_
    refine AWp.block ?_
    refine AWp.seq ?_
    refine AWp.region ?_
    refine AOps.cons rfl rfl (q_move) ?_
    refine AOps.cons rfl rfl (q_move) ?_
    refine AOps.cons rfl rfl (q_ixs) ?_
    refine AOps.cons rfl rfl (q_assign) ?_
    refine AOps.nil ?_
    refine AWp.block ?_
    refine AWp.seq ?_
    refine AWp.region ?_
    refine AOps.cons rfl rfl (q_move) ?_
    refine AOps.bool rfl rfl (q_call (0) (hc := c_ciceroneref01_plain _)) (fun h9_1 => ?_) (fun h9_1 => ?_)
    ·
     refine AOps.cons rfl rfl (q_assign) ?_
     refine AOps.nil ?_
     refine AWp.cond_t rfl ?_
     refine AWp.seq ?_
     refine AWp.region ?_
     have hc : plB (s.getD k default) = true := h9_1
     have hd : List.drop (k : Int).toNat (List.take ((k : Int) + 1).toNat s) = [s.getD k default] := by rw [show ((k : Int) + 1).toNat = k + 1 by omega]; exact take1 (by omega)
     refine AOps.cons rfl rfl (q_move) ?_
     refine AOps.cons rfl rfl (q_move) ?_
     refine AOps.cons rfl rfl (q_move) ?_
     refine AOps.cons rfl rfl (q_move) ?_
     refine AOps.cons rfl rfl (q_add) ?_
     refine AOps.cons rfl rfl (q_sls) ?_
     refine AOps.cons rfl rfl (q_sadd) ?_
     refine AOps.cons rfl rfl (q_assign) ?_
     refine AOps.nil ?_
     refine AWp.region ?_
     refine AOps.cons rfl rfl (q_move) ?_
     refine AOps.cons rfl rfl (q_add) ?_
     refine AOps.cons rfl rfl (q_assign) ?_
     refine AOps.nil ?_
     refine ⟨(k + 1, _, _, _), ?_, Back.mk' (HasT.cons (HasT.cons (HasT.cons HasT.nil))) (HasH.cons HasH.nil), ?_⟩
     ·
      try dsimp only
      refine ⟨by omega, ?_, ?_⟩
      · rw [← hE, prs_pl (by omega) hc, hd]
      · rw [hd]; simp; omega
     ·
      try dsimp only
      first | omega | (simp; omega)
    ·
     refine AOps.cons rfl rfl (q_assign) ?_
     refine AOps.nil ?_
     refine AWp.cond_f rfl ?_
     refine AWp.seq ?_
     refine AWp.region ?_
     have hc : plB (s.getD k default) = false := h9_1
     refine AOps.cons rfl rfl (q_move) ?_
     refine AOps.dec rfl rfl (q_eql) (fun h12_1 => ?_) (fun h12_1 => ?_)
     ·
      refine AOps.cons rfl rfl (q_assign) ?_
      refine AOps.nil ?_
      refine AWp.cond_t rfl ?_
      refine AWp.seq ?_
      refine AWp.seq ?_
      refine AWp.region ?_
      have h12 : (s.getD k default).toNat = 46 := by have e : ((s.getD k default).toNat : Int) = 46 := h12_1; omega
      refine AOps.cons rfl rfl (q_move) ?_
      refine AOps.cons rfl rfl (q_len_str) ?_
      refine AOps.dec rfl rfl (q_lss) (fun h13_2 => ?_) (fun h13_2 => ?_)
      ·
       refine AOps.cons rfl rfl (q_move) ?_
       refine AOps.gskip rfl rfl rfl rfl rfl rfl rfl rfl ?_
       refine AOps.gskip rfl rfl rfl rfl rfl rfl rfl rfl ?_
       refine AOps.gskip rfl rfl rfl rfl rfl rfl rfl rfl ?_
       refine AOps.cons rfl rfl (q_pick) ?_
       refine AOps.nil ?_
       refine AWp.cond_t rfl ?_
       refine AWp.seq ?_
       refine AWp.region ?_
       refine AOps.cons rfl rfl (q_assign) ?_
       refine AOps.cons rfl rfl (q_assign) ?_
       refine AOps.nil ?_
       refine AWp.ret ?_
       show Fin te Try.f28 _ _
       refine q_ret (0) [_, _] [_, _] ?_
       rw [prs_dotx (by omega) hc h12 (by omega)] at hE
       rw [par_none h1_1 hE.symm]; rfl
      ·
       refine AOps.cons rfl rfl (q_move) ?_
       refine AOps.gcons rfl rfl rfl rfl rfl (q_move) ?_
       refine AOps.gcons rfl rfl rfl rfl rfl (q_len_str) ?_
       refine AOps.gdec rfl rfl rfl rfl rfl (q_gtr) (fun h13_6 => ?_) (fun h13_6 => ?_)
       ·
        refine AOps.cons rfl rfl (q_pick) ?_
        refine AOps.nil ?_
        refine AWp.cond_t rfl ?_
        refine AWp.seq ?_
        refine AWp.region ?_
        refine AOps.cons rfl rfl (q_assign) ?_
        refine AOps.cons rfl rfl (q_assign) ?_
        refine AOps.nil ?_
        refine AWp.ret ?_
        show Fin te Try.f28 _ _
        refine q_ret (0) [_, _] [_, _] ?_
        rw [prs_dotx (by omega) hc h12 (by omega)] at hE
        rw [par_none h1_1 hE.symm]; rfl
       ·
        refine AOps.cons rfl rfl (q_pick) ?_
        refine AOps.nil ?_
        refine AWp.cond_f rfl ?_
        refine AWp.skip ?_
        refine AWp.seq ?_
        refine AWp.region ?_
        refine AOps.cons rfl rfl (q_move) ?_
        refine AOps.cons rfl rfl (q_move) ?_
        refine AOps.cons rfl rfl (q_bs 1602 sc [_] [(_, _)]) ?_
        refine AOps.cons rfl rfl (q_app) ?_
        refine AOps.cons rfl rfl (q_assign) ?_
        refine AOps.nil ?_
        refine AWp.seq ?_
        refine AWp.region ?_
        refine AOps.cons rfl rfl (q_assign) ?_
        refine AOps.nil ?_
        refine AWp.region ?_
        refine AOps.cons rfl rfl (q_move) ?_
        refine AOps.cons rfl rfl (q_add) ?_
        refine AOps.cons rfl rfl (q_assign) ?_
        refine AOps.nil ?_
        refine ⟨(k + 1, _, _, _), ?_, Back.mk' (HasT.cons (HasT.cons (HasT.cons HasT.nil))) (HasH.cons HasH.nil), ?_⟩
        ·
         try dsimp only
         exact ⟨by omega, by rw [← hE, prs_dot (by omega) hc h12 (by omega)], by simp; omega⟩
        ·
         try dsimp only
         first | omega | (simp; omega)
     ·
      refine AOps.cons rfl rfl (q_assign) ?_
      refine AOps.nil ?_
      refine AWp.cond_f rfl ?_
      refine AWp.seq ?_
      refine AWp.region ?_
      have h12 : ¬ (s.getD k default).toNat = 46 := fun e => h12_1 (by show ((s.getD k default).toNat : Int) = 46; omega)
      have e1 : ((k : Int) + 1).toNat = k + 1 := by omega
      have e2 : ((k : Int) + 2).toNat = k + 2 := by omega
      have e3 : ((k : Int) + 3).toNat = k + 3 := by omega
      refine AOps.cons rfl rfl (q_move) ?_
      refine AOps.dec rfl rfl (q_eql) (fun h18_1 => ?_) (fun h18_1 => ?_)
      ·
       refine AOps.cons rfl rfl (q_move) ?_
       refine AOps.gcons rfl rfl rfl rfl rfl (q_move) ?_
       refine AOps.gcons rfl rfl rfl rfl rfl (q_len_str) ?_
       refine AOps.gcons rfl rfl rfl rfl rfl (q_move) ?_
       refine AOps.gcons rfl rfl rfl rfl rfl (q_sub) ?_
       refine AOps.gdec rfl rfl rfl rfl rfl (q_geq) (fun h18_7 => ?_) (fun h18_7 => ?_)
       ·
        refine AOps.cons rfl rfl (q_pick) ?_
        refine AOps.cons rfl rfl (q_move) ?_
        refine AOps.gcons rfl rfl rfl rfl rfl (q_move) ?_
        refine AOps.gcons rfl rfl rfl rfl rfl (q_move) ?_
        refine AOps.gcons rfl rfl rfl rfl rfl (q_add) ?_
        refine AOps.gcons rfl rfl rfl rfl rfl (q_ixs) ?_
        refine AOps.gbool rfl rfl rfl rfl rfl (q_call (0) (hc := c_ciceroneref01_digit _)) (fun h18_14 => ?_) (fun h18_14 => ?_)
        ·
         refine AOps.cons rfl rfl (q_pick) ?_
         refine AOps.cons rfl rfl (q_move) ?_
         refine AOps.gcons rfl rfl rfl rfl rfl (q_move) ?_
         refine AOps.gcons rfl rfl rfl rfl rfl (q_move) ?_
         refine AOps.gcons rfl rfl rfl rfl rfl (q_add) ?_
         refine AOps.gcons rfl rfl rfl rfl rfl (q_ixs) ?_
         refine AOps.gbool rfl rfl rfl rfl rfl (q_call (0) (hc := c_ciceroneref01_digit _)) (fun h18_21 => ?_) (fun h18_21 => ?_)
         ·
          refine AOps.cons rfl rfl (q_pick) ?_
          refine AOps.cons rfl rfl (q_move) ?_
          refine AOps.gcons rfl rfl rfl rfl rfl (q_move) ?_
          refine AOps.gcons rfl rfl rfl rfl rfl (q_move) ?_
          refine AOps.gcons rfl rfl rfl rfl rfl (q_add) ?_
          refine AOps.gcons rfl rfl rfl rfl rfl (q_ixs) ?_
          refine AOps.gbool rfl rfl rfl rfl rfl (q_call (0) (hc := c_ciceroneref01_digit _)) (fun h18_28 => ?_) (fun h18_28 => ?_)
          ·
           refine AOps.cons rfl rfl (q_pick) ?_
           refine AOps.cons rfl rfl (q_assign) ?_
           refine AOps.nil ?_
           refine AWp.cond_t rfl ?_
           refine AWp.seq ?_
           rw [e1] at h18_14
           rw [e2] at h18_21
           rw [e3] at h18_28
           have h92 : (s.getD k default).toNat = 92 := by have e : ((s.getD k default).toNat : Int) = 92 := h18_1; omega
           have hall : (s.getD k default).toNat = 92 ∧ k + 4 ≤ s.length ∧ digB (s.getD (k + 1) default) = true ∧ digB (s.getD (k + 2) default) = true ∧ digB (s.getD (k + 3) default) = true := ⟨h92, by omega, h18_14, h18_21, h18_28⟩
           have n1 := dig_sub (c := s.getD (k + 1) default) h18_14
           have n2 := dig_sub (c := s.getD (k + 2) default) h18_21
           have n3 := dig_sub (c := s.getD (k + 3) default) h18_28
           have b1 := (s[k + 1]?.getD 0 - 48).toNat_lt
           have b2 := (s[k + 2]?.getD 0 - 48).toNat_lt
           have b3 := (s[k + 3]?.getD 0 - 48).toNat_lt
           have g1 := (s.getD ((k : Int) + 1).toNat 0 - 48).toNat_lt
           have g2 := (s.getD ((k : Int) + 2).toNat 0 - 48).toNat_lt
           have g3 := (s.getD ((k : Int) + 3).toNat 0 - 48).toNat_lt
           refine AWp.draws [⟨0, [0], [], some 79, _, []⟩,
               ⟨1, [6], [], some 80, _, []⟩,
               ⟨2, [80], [], some 81, _, []⟩,
               ⟨3, [79, 81], [], some 82, _, []⟩,
               ⟨4, [82], [], some 83, _, []⟩,
               ⟨5, [83], [], some 84, _, []⟩,
               ⟨6, [84], [], some 85, _, []⟩,
               ⟨7, [0], [], some 86, _, []⟩,
               ⟨8, [6], [], some 87, _, []⟩,
               ⟨9, [87], [], some 88, _, []⟩,
               ⟨10, [86, 88], [], some 89, _, []⟩,
               ⟨11, [89], [], some 90, _, []⟩,
               ⟨12, [90], [], some 91, _, []⟩,
               ⟨13, [91], [], some 92, _, []⟩,
               ⟨14, [85, 92], [], some 93, _, []⟩,
               ⟨15, [0], [], some 94, _, []⟩,
               ⟨16, [6], [], some 95, _, []⟩,
               ⟨17, [95], [], some 96, _, []⟩,
               ⟨18, [94, 96], [], some 97, _, []⟩,
               ⟨19, [97], [], some 98, _, []⟩,
               ⟨20, [98], [], some 99, _, []⟩,
               ⟨21, [93, 99], [], some 100, _, []⟩,
               ⟨22, [100], [], some 8, _, []⟩]
            [⟨0, [0], [], some 79, .any, []⟩,
                ⟨1, [6], [], some 80, .any, []⟩,
                ⟨2, [80], [], some 81, .any, []⟩,
                ⟨3, [79, 81], [], some 82, .any, []⟩,
                ⟨4, [82], [], some 83, .any, []⟩,
                ⟨5, [83], [], some 84, .any, []⟩,
                ⟨6, [84], [], some 85, .any, []⟩,
                ⟨7, [0], [], some 86, .any, []⟩,
                ⟨8, [6], [], some 87, .any, []⟩,
                ⟨9, [87], [], some 88, .any, []⟩,
                ⟨10, [86, 88], [], some 89, .any, []⟩,
                ⟨11, [89], [], some 90, .any, []⟩,
                ⟨12, [90], [], some 91, .any, []⟩,
                ⟨13, [91], [], some 92, .any, []⟩,
                ⟨14, [85, 92], [], some 93, .any, []⟩,
                ⟨15, [0], [], some 94, .any, []⟩,
                ⟨16, [6], [], some 95, .any, []⟩,
                ⟨17, [95], [], some 96, .any, []⟩,
                ⟨18, [94, 96], [], some 97, .any, []⟩,
                ⟨19, [97], [], some 98, .any, []⟩,
                ⟨20, [98], [], some 99, .any, []⟩,
                ⟨21, [93, 99], [], some 100, .any, []⟩,
                ⟨22, [100], [], some 8, .any, []⟩]
            mixed_ok rfl (by kernel_rfl) ⟨DS.ok_over fun s0 => OpAt.go rfl rfl (q_move),
                DS.ok_over fun s0 => OpAt.go rfl rfl (q_move),
                DS.ok_over fun s0 => OpAt.go rfl rfl (q_add),
                DS.ok_over fun s0 => OpAt.go rfl rfl (q_ixs),
                DS.ok_over fun s0 => OpAt.go rfl rfl (q_sub8 _ 48),
                DS.ok_over fun s0 => OpAt.go rfl rfl (q_conv_8i),
                DS.ok_over fun s0 => OpAt.go rfl rfl (q_mul),
                DS.ok_over fun s0 => OpAt.go rfl rfl (q_move),
                DS.ok_over fun s0 => OpAt.go rfl rfl (q_move),
                DS.ok_over fun s0 => OpAt.go rfl rfl (q_add),
                DS.ok_over fun s0 => OpAt.go rfl rfl (q_ixs),
                DS.ok_over fun s0 => OpAt.go rfl rfl (q_sub8 _ 48),
                DS.ok_over fun s0 => OpAt.go rfl rfl (q_conv_8i),
                DS.ok_over fun s0 => OpAt.go rfl rfl (q_mul),
                DS.ok_over fun s0 => OpAt.go rfl rfl (q_add),
                DS.ok_over fun s0 => OpAt.go rfl rfl (q_move),
                DS.ok_over fun s0 => OpAt.go rfl rfl (q_move),
                DS.ok_over fun s0 => OpAt.go rfl rfl (q_add),
                DS.ok_over fun s0 => OpAt.go rfl rfl (q_ixs),
                DS.ok_over fun s0 => OpAt.go rfl rfl (q_sub8 _ 48),
                DS.ok_over fun s0 => OpAt.go rfl rfl (q_conv_8i),
                DS.ok_over fun s0 => OpAt.go rfl rfl (q_add),
                DS.ok_over fun s0 => OpAt.go rfl rfl (q_assign), trivial⟩ ?_
           dsimp only [final, DS.upd, AS.seto]
           refine AWp.seq ?_
           refine AWp.seq ?_
           refine AWp.region ?_
           have hnum : ((s.getD ((k : Int) + 1).toNat 0 - 48).toNat : Int) * 100 + ((s.getD ((k : Int) + 2).toNat 0 - 48).toNat : Int) * 10 + ((s.getD ((k : Int) + 3).toNat 0 - 48).toNat : Int) = (numA s k : Int) := by
             rw [e1, e2, e3]
             show ((s.getD (k + 1) default - 48).toNat : Int) * 100 + ((s.getD (k + 2) default - 48).toNat : Int) * 10 + ((s.getD (k + 3) default - 48).toNat : Int) = _
             rw [n1.1, n2.1, n3.1, numA]
             push_cast
             omega
           refine AOps.cons rfl rfl (q_move) ?_
           refine AOps.dec rfl rfl (q_gtr) (fun h20_1 => ?_) (fun h20_1 => ?_)
           ·
            refine AOps.nil ?_
            refine AWp.cond_t rfl ?_
            refine AWp.seq ?_
            refine AWp.region ?_
            refine AOps.cons rfl rfl (q_assign) ?_
            refine AOps.cons rfl rfl (q_assign) ?_
            refine AOps.nil ?_
            refine AWp.ret ?_
            show Fin te Try.f28 _ _
            refine q_ret (0) [_, _] [_, _] ?_
            rw [prs_escx (by omega) hc h12 hall (by omega)] at hE
            rw [par_none h1_1 hE.symm]; rfl
           ·
            refine AOps.nil ?_
            refine AWp.cond_f rfl ?_
            refine AWp.skip ?_
            refine AWp.seq ?_
            refine AWp.region ?_
            refine AOps.cons rfl rfl (q_move) ?_
            refine AOps.cons rfl rfl (q_move) ?_
            refine AOps.cons rfl rfl (q_conv_u8) ?_
            refine AOps.cons rfl rfl (q_bs 2303 bc [_] [(_, _)]) ?_
            refine AOps.cons rfl rfl (q_conv_ls) ?_
            refine AOps.cons rfl rfl (q_sadd) ?_
            refine AOps.cons rfl rfl (q_assign) ?_
            refine AOps.nil ?_
            refine AWp.region ?_
            refine AOps.cons rfl rfl (q_move) ?_
            refine AOps.cons rfl rfl (q_add) ?_
            refine AOps.cons rfl rfl (q_assign) ?_
            refine AOps.nil ?_
            refine ⟨(k + 4, _, _, _), ?_, Back.mk' (HasT.cons (HasT.cons (HasT.cons HasT.nil))) (HasH.cons HasH.nil), ?_⟩
            ·
             try dsimp only
             rw [hnum]
             exact ⟨by omega, by rw [← hE, prs_esc (by omega) hc h12 hall (by omega)], by simp; omega⟩
            ·
             try dsimp only
             first | omega | (simp; omega)
          ·
           refine AOps.cons rfl rfl (q_pick) ?_
           refine AOps.cons rfl rfl (q_assign) ?_
           refine AOps.nil ?_
           refine AWp.cond_f rfl ?_
           refine AWp.seq ?_
           refine AWp.region ?_
           refine AOps.cons rfl rfl (q_assign) ?_
           refine AOps.cons rfl rfl (q_assign) ?_
           refine AOps.nil ?_
           refine AWp.ret ?_
           show Fin te Try.f28 _ _
           refine q_ret (0) [_, _] [_, _] ?_
           rw [prs_bad (by omega) hc h12 (fun h => by rw [e3] at h18_28; rw [show digB (s.getD (k + 3) default) = false from h18_28] at h; exact absurd h.2.2.2.2 Bool.false_ne_true)] at hE
           rw [par_none h1_1 hE.symm]; rfl
         ·
          refine AOps.cons rfl rfl (q_pick) ?_
          refine AOps.cons rfl rfl (q_move) ?_
          refine AOps.gskip rfl rfl rfl rfl rfl rfl rfl rfl ?_
          refine AOps.gskip rfl rfl rfl rfl rfl rfl rfl rfl ?_
          refine AOps.gskip rfl rfl rfl rfl rfl rfl rfl rfl ?_
          refine AOps.gskip rfl rfl rfl rfl rfl rfl rfl rfl ?_
          refine AOps.gskip rfl rfl rfl rfl rfl rfl rfl rfl ?_
          refine AOps.cons rfl rfl (q_pick) ?_
          refine AOps.cons rfl rfl (q_assign) ?_
          refine AOps.nil ?_
          refine AWp.cond_f rfl ?_
          refine AWp.seq ?_
          refine AWp.region ?_
          refine AOps.cons rfl rfl (q_assign) ?_
          refine AOps.cons rfl rfl (q_assign) ?_
          refine AOps.nil ?_
          refine AWp.ret ?_
          show Fin te Try.f28 _ _
          refine q_ret (0) [_, _] [_, _] ?_
          rw [prs_bad (by omega) hc h12 (fun h => by rw [e2] at h18_21; rw [show digB (s.getD (k + 2) default) = false from h18_21] at h; exact absurd h.2.2.2.1 Bool.false_ne_true)] at hE
          rw [par_none h1_1 hE.symm]; rfl
        ·
         refine AOps.cons rfl rfl (q_pick) ?_
         refine AOps.cons rfl rfl (q_move) ?_
         refine AOps.gskip rfl rfl rfl rfl rfl rfl rfl rfl ?_
         refine AOps.gskip rfl rfl rfl rfl rfl rfl rfl rfl ?_
         refine AOps.gskip rfl rfl rfl rfl rfl rfl rfl rfl ?_
         refine AOps.gskip rfl rfl rfl rfl rfl rfl rfl rfl ?_
         refine AOps.gskip rfl rfl rfl rfl rfl rfl rfl rfl ?_
         refine AOps.cons rfl rfl (q_pick) ?_
         refine AOps.cons rfl rfl (q_move) ?_
         refine AOps.gskip rfl rfl rfl rfl rfl rfl rfl rfl ?_
         refine AOps.gskip rfl rfl rfl rfl rfl rfl rfl rfl ?_
         refine AOps.gskip rfl rfl rfl rfl rfl rfl rfl rfl ?_
         refine AOps.gskip rfl rfl rfl rfl rfl rfl rfl rfl ?_
         refine AOps.gskip rfl rfl rfl rfl rfl rfl rfl rfl ?_
         refine AOps.cons rfl rfl (q_pick) ?_
         refine AOps.cons rfl rfl (q_assign) ?_
         refine AOps.nil ?_
         refine AWp.cond_f rfl ?_
         refine AWp.seq ?_
         refine AWp.region ?_
         refine AOps.cons rfl rfl (q_assign) ?_
         refine AOps.cons rfl rfl (q_assign) ?_
         refine AOps.nil ?_
         refine AWp.ret ?_
         show Fin te Try.f28 _ _
         refine q_ret (0) [_, _] [_, _] ?_
         rw [prs_bad (by omega) hc h12 (fun h => by rw [e1] at h18_14; rw [show digB (s.getD (k + 1) default) = false from h18_14] at h; exact absurd h.2.2.1 Bool.false_ne_true)] at hE
         rw [par_none h1_1 hE.symm]; rfl
       ·
        refine AOps.cons rfl rfl (q_pick) ?_
        refine AOps.cons rfl rfl (q_move) ?_
        refine AOps.gskip rfl rfl rfl rfl rfl rfl rfl rfl ?_
        refine AOps.gskip rfl rfl rfl rfl rfl rfl rfl rfl ?_
        refine AOps.gskip rfl rfl rfl rfl rfl rfl rfl rfl ?_
        refine AOps.gskip rfl rfl rfl rfl rfl rfl rfl rfl ?_
        refine AOps.gskip rfl rfl rfl rfl rfl rfl rfl rfl ?_
        refine AOps.cons rfl rfl (q_pick) ?_
        refine AOps.cons rfl rfl (q_move) ?_
        refine AOps.gskip rfl rfl rfl rfl rfl rfl rfl rfl ?_
        refine AOps.gskip rfl rfl rfl rfl rfl rfl rfl rfl ?_
        refine AOps.gskip rfl rfl rfl rfl rfl rfl rfl rfl ?_
        refine AOps.gskip rfl rfl rfl rfl rfl rfl rfl rfl ?_
        refine AOps.gskip rfl rfl rfl rfl rfl rfl rfl rfl ?_
        refine AOps.cons rfl rfl (q_pick) ?_
        refine AOps.cons rfl rfl (q_move) ?_
        refine AOps.gskip rfl rfl rfl rfl rfl rfl rfl rfl ?_
        refine AOps.gskip rfl rfl rfl rfl rfl rfl rfl rfl ?_
        refine AOps.gskip rfl rfl rfl rfl rfl rfl rfl rfl ?_
        refine AOps.gskip rfl rfl rfl rfl rfl rfl rfl rfl ?_
        refine AOps.gskip rfl rfl rfl rfl rfl rfl rfl rfl ?_
        refine AOps.cons rfl rfl (q_pick) ?_
        refine AOps.cons rfl rfl (q_assign) ?_
        refine AOps.nil ?_
        refine AWp.cond_f rfl ?_
        refine AWp.seq ?_
        refine AWp.region ?_
        refine AOps.cons rfl rfl (q_assign) ?_
        refine AOps.cons rfl rfl (q_assign) ?_
        refine AOps.nil ?_
        refine AWp.ret ?_
        show Fin te Try.f28 _ _
        refine q_ret (0) [_, _] [_, _] ?_
        rw [prs_bad (by omega) hc h12 (fun h => h18_7 (by omega))] at hE
        rw [par_none h1_1 hE.symm]; rfl
      ·
       refine AOps.cons rfl rfl (q_move) ?_
       refine AOps.gskip rfl rfl rfl rfl rfl rfl rfl rfl ?_
       refine AOps.gskip rfl rfl rfl rfl rfl rfl rfl rfl ?_
       refine AOps.gskip rfl rfl rfl rfl rfl rfl rfl rfl ?_
       refine AOps.gskip rfl rfl rfl rfl rfl rfl rfl rfl ?_
       refine AOps.gskip rfl rfl rfl rfl rfl rfl rfl rfl ?_
       refine AOps.cons rfl rfl (q_pick) ?_
       refine AOps.cons rfl rfl (q_move) ?_
       refine AOps.gskip rfl rfl rfl rfl rfl rfl rfl rfl ?_
       refine AOps.gskip rfl rfl rfl rfl rfl rfl rfl rfl ?_
       refine AOps.gskip rfl rfl rfl rfl rfl rfl rfl rfl ?_
       refine AOps.gskip rfl rfl rfl rfl rfl rfl rfl rfl ?_
       refine AOps.gskip rfl rfl rfl rfl rfl rfl rfl rfl ?_
       refine AOps.cons rfl rfl (q_pick) ?_
       refine AOps.cons rfl rfl (q_move) ?_
       refine AOps.gskip rfl rfl rfl rfl rfl rfl rfl rfl ?_
       refine AOps.gskip rfl rfl rfl rfl rfl rfl rfl rfl ?_
       refine AOps.gskip rfl rfl rfl rfl rfl rfl rfl rfl ?_
       refine AOps.gskip rfl rfl rfl rfl rfl rfl rfl rfl ?_
       refine AOps.gskip rfl rfl rfl rfl rfl rfl rfl rfl ?_
       refine AOps.cons rfl rfl (q_pick) ?_
       refine AOps.cons rfl rfl (q_move) ?_
       refine AOps.gskip rfl rfl rfl rfl rfl rfl rfl rfl ?_
       refine AOps.gskip rfl rfl rfl rfl rfl rfl rfl rfl ?_
       refine AOps.gskip rfl rfl rfl rfl rfl rfl rfl rfl ?_
       refine AOps.gskip rfl rfl rfl rfl rfl rfl rfl rfl ?_
       refine AOps.gskip rfl rfl rfl rfl rfl rfl rfl rfl ?_
       refine AOps.cons rfl rfl (q_pick) ?_
       refine AOps.cons rfl rfl (q_assign) ?_
       refine AOps.nil ?_
       refine AWp.cond_f rfl ?_
       refine AWp.seq ?_
       refine AWp.region ?_
       refine AOps.cons rfl rfl (q_assign) ?_
       refine AOps.cons rfl rfl (q_assign) ?_
       refine AOps.nil ?_
       refine AWp.ret ?_
       show Fin te Try.f28 _ _
       refine q_ret (0) [_, _] [_, _] ?_
       rw [prs_bad (by omega) hc h12 (fun h => h18_1 (by show ((s.getD k default).toNat : Int) = 92; omega))] at hE
       rw [par_none h1_1 hE.symm]; rfl
   ·
    refine AOps.nil ?_
    refine AWp.cond_f rfl ?_
    refine AWp.exit ?_
    refine AWp.seq ?_
    refine AWp.seq ?_
    refine AWp.region ?_
    refine AOps.cons rfl rfl (q_move) ?_
    refine AOps.dec rfl rfl (q_sneq) (fun h24_1 => ?_) (fun h24_1 => ?_)
    ·
     refine AOps.cons rfl rfl (q_move) ?_
     refine AOps.gskip rfl rfl rfl rfl rfl rfl rfl rfl ?_
     refine AOps.gskip rfl rfl rfl rfl rfl rfl rfl rfl ?_
     refine AOps.gskip rfl rfl rfl rfl rfl rfl rfl rfl ?_
     refine AOps.cons rfl rfl (q_pick) ?_
     refine AOps.nil ?_
     refine AWp.cond_t rfl ?_
     refine AWp.seq ?_
     refine AWp.region ?_
     refine AOps.cons rfl rfl (q_assign) ?_
     refine AOps.cons rfl rfl (q_assign) ?_
     refine AOps.nil ?_
     refine AWp.ret ?_
     show Fin te Try.f28 _ _
     refine q_ret (0) [_, _] [_, _] ?_
     rw [prs_end (by omega), if_neg (fun h => h24_1 h.1)] at hE
     rw [par_none h1_1 hE.symm]; rfl
    ·
     refine AOps.cons rfl rfl (q_move) ?_
     refine AOps.gcons rfl rfl rfl rfl rfl (q_move) ?_
     refine AOps.gcons rfl rfl rfl rfl rfl (q_len) ?_
     refine AOps.gdec rfl rfl rfl rfl rfl (q_eql) (fun h24_5 => ?_) (fun h24_5 => ?_)
     ·
      refine AOps.cons rfl rfl (q_pick) ?_
      refine AOps.nil ?_
      refine AWp.cond_t rfl ?_
      refine AWp.seq ?_
      refine AWp.region ?_
      refine AOps.cons rfl rfl (q_assign) ?_
      refine AOps.cons rfl rfl (q_assign) ?_
      refine AOps.nil ?_
      refine AWp.ret ?_
      show Fin te Try.f28 _ _
      refine q_ret (0) [_, _] [_, _] ?_
      rw [prs_end (by omega), if_neg (fun h => h.2 (List.eq_nil_of_length_eq_zero (by omega)))] at hE
      rw [par_none h1_1 hE.symm]; rfl
     ·
      refine AOps.cons rfl rfl (q_pick) ?_
      refine AOps.nil ?_
      refine AWp.cond_f rfl ?_
      refine AWp.skip ?_
      refine AWp.seq ?_
      refine AWp.region ?_
      have hjl := joinN_sum l
      refine AOps.cons rfl rfl (q_move) ?_
      refine AOps.cons rfl rfl (q_call (0) (hc := c_ciceroneref01_Join _ _ (by first | assumption | omega | decide | (simp; omega) | (simp [*]; done)))) ?_
      refine AOps.cons rfl rfl (q_assign) ?_
      refine AOps.nil ?_
      refine AWp.seq ?_
      refine AWp.seq ?_
      refine AWp.region ?_
      refine AOps.cons rfl rfl (q_move) ?_
      refine AOps.cons rfl rfl (q_len_str) ?_
      refine AOps.dec rfl rfl (q_gtr) (fun h27_2 => ?_) (fun h27_2 => ?_)
      ·
       refine AOps.nil ?_
       refine AWp.cond_t rfl ?_
       refine AWp.seq ?_
       refine AWp.region ?_
       refine AOps.cons rfl rfl (q_assign) ?_
       refine AOps.cons rfl rfl (q_assign) ?_
       refine AOps.nil ?_
       refine AWp.ret ?_
       show Fin te Try.f28 _ _
       refine q_ret (0) [_, _] [_, _] ?_
       rw [prs_end (by omega), if_pos ⟨Decidable.not_not.1 h24_1, fun e => h24_5 (by rw [e]; rfl)⟩] at hE
       rw [par_big h1_1 hE.symm (by omega)]; rfl
      ·
       refine AOps.nil ?_
       refine AWp.cond_f rfl ?_
       refine AWp.skip ?_
       refine AWp.seq ?_
       refine AWp.region ?_
       refine AOps.cons rfl rfl (q_move) ?_
       refine AOps.cons rfl rfl (q_assign) ?_
       refine AOps.cons rfl rfl (q_assign) ?_
       refine AOps.nil ?_
       refine AWp.ret ?_
       show Fin te Try.f28 _ _
       refine q_ret (0) [_, _] [_, _] ?_
       rw [prs_end (by omega), if_pos ⟨Decidable.not_not.1 h24_1, fun e => h24_5 (by rw [e]; rfl)⟩] at hE
       rw [par_some h1_1 hE.symm (by omega)]; rfl
end Go.Proofs.Ytfojdjlhpejbpaa.Fw


set_option linter.unusedVariables false
set_option linter.unusedSimpArgs false
namespace Go.Proofs.Ytfojdjlhpejbpaa.Fw
open Go.RowKit
section
variable {n : Nat} {s : AS} {o : Oper} {d : Option Tmp} {t u : TypeId} {x y : Operand} {k : IntKind} {a b : Int}
theorem q_andk (ho : o.op = .binOp .and t x y u := by exact rfl) (hx : s.ev x = .v (.int k a) := by exact rfl) (hy : s.ev y = .v (.int k b) := by exact rfl)
    (hdd : o.dst = d := by conv => lhs; whnf) (hd : d.all (Nat.blt · n) = true := by exact rfl) : OpOk Try.prog n o s (s.put d (.v (.int k (k.wrap (BitVec.ofInt k.bits a &&& BitVec.ofInt k.bits b).toNat)))) := ok_bin ho hx hy br_and hdd hd
end
def bitT : List Int := [287988483593601024, 576460745995190270, 0, 0]
def bitV (c : UInt8) : Bool := decide (IntKind.u64.wrap (BitVec.ofInt IntKind.u64.bits (bitT.getD ((c.toNat : Int) / 2 ^ 6).toNat default / 2 ^ (c &&& 63).toNat) &&& BitVec.ofInt IntKind.u64.bits 1).toNat = 1)
theorem bit_pl (c : UInt8) : bitV c = plB c := by
  have h : ∀ i : _root_.Fin 256, bitV (UInt8.ofNat i.val) = plB (UInt8.ofNat i.val) := by decide +kernel
  have := h ⟨c.toNat, c.toNat_lt⟩
  simpa using this
set_option maxRecDepth 20000 in
set_option maxHeartbeats 2000000 in
theorem c_name_plain (c : UInt8) : AC Try.prog 44 [u8 c.toNat] emp (Ret (tf (plB c))) := by
 have hc := c.toNat_lt
 have hm : (c &&& 63).toNat ≤ 63 := by rw [UInt8.toNat_and]; exact Nat.and_le_right
 refine AC.intro te_ok (fn := Try.f44) ⟨Try.func44, rfl, rfl⟩ (Nat.le_of_ble_eq_true rfl) ?_
 refine AWp.seq ?_
 refine AWp.region ?_
 refine AOps.cons rfl rfl (q_assign) ?_
 refine AOps.nil ?_
 refine AWp.seq ?_
 refine AWp.region ?_
 refine AOps.cons rfl rfl (q_buildA (kc .u64) [287988483593601024, 576460745995190270, 0, 0] [(_, _), (_, _)]) ?_
 refine AOps.cons rfl rfl (q_alloc 201) ?_
 refine AOps.cons rfl rfl (q_store) ?_
 refine AOps.nil ?_
 refine AWp.seq ?_
 refine AWp.region ?_
 refine AOps.cons rfl rfl (q_move) ?_
 refine AOps.cons rfl rfl (q_shr 6) ?_
 refine AOps.cons rfl rfl (q_ixa) ?_
 refine AOps.cons rfl rfl (q_load) ?_
 refine AOps.cons rfl rfl (q_move) ?_
 refine AOps.cons rfl rfl (q_and8 c 63) ?_
 refine AOps.cons rfl rfl (q_shr (c &&& 63).toNat (h := by show _ ≤ 64; omega)) ?_
 refine AOps.cons rfl rfl (q_andk) ?_
 refine AOps.cons rfl rfl (q_eql) ?_
 refine AOps.cons rfl rfl (q_assign) ?_
 refine AOps.nil ?_
 refine AWp.ret ?_
 show Fin te Try.f44 _ _
 refine q_ret (0) [_] [_] ?_
 exact congrArg tf (bit_pl c)
end Go.Proofs.Ytfojdjlhpejbpaa.Fw


set_option linter.unusedVariables false
set_option linter.unusedSimpArgs false
namespace Go.Proofs.Ytfojdjlhpejbpaa.Fw
open Go.RowKit
def oneV (s : List UInt8) : UInt8 × List UInt8 × Bool := if plB (s.getD 0 default) then (s.getD 0 default, s.drop 1, true)
  else if (s.getD 0 default).toNat = 92 ∧ 4 ≤ s.length ∧ digB (s.getD 1 default) = true ∧ digB (s.getD 2 default) = true ∧ digB (s.getD 3 default) = true then (byte (numA s 0 : Int), s.drop 4, decide (numA s 0 < 256)) else (0, s, false)
def nf (l : List UInt8) : Nat := l.foldl (fun a c => 10 * a + (c.toNat - 48)) 0
theorem nf_step {l : List UInt8} {i : Nat} (h : i < l.length) : nf (l.take (i + 1)) = 10 * nf (l.take i) + ((l.getD i default).toNat - 48) := by
  rw [List.take_succ_eq_append_getElem h, getD_at h, nf, List.foldl_append]; rfl
theorem one_pl {s : List UInt8} (h : plB (s.getD 0 default) = true) : oneV s = (s.getD 0 default, s.drop 1, true) := if_pos h
theorem one_no {s : List UInt8} (h : plB (s.getD 0 default) = false) (h2 : ¬ ((s.getD 0 default).toNat = 92 ∧ 4 ≤ s.length ∧ digB (s.getD 1 default) = true ∧ digB (s.getD 2 default) = true ∧ digB (s.getD 3 default) = true)) : oneV s = (0, s, false) := by
  rw [oneV, if_neg (by rw [h]; exact Bool.false_ne_true), if_neg h2]
theorem one_yes {s : List UInt8} (h : plB (s.getD 0 default) = false) (h2 : (s.getD 0 default).toNat = 92 ∧ 4 ≤ s.length ∧ digB (s.getD 1 default) = true ∧ digB (s.getD 2 default) = true ∧ digB (s.getD 3 default) = true) : oneV s = (byte (numA s 0 : Int), s.drop 4, decide (numA s 0 < 256)) := by
  rw [oneV, if_neg (by rw [h]; exact Bool.false_ne_true), if_pos h2]
theorem mid_get {s : List UInt8} (h : 4 ≤ s.length) {j : Nat} (hj : j < 3) : ((s.take 4).drop 1).getD j default = s.getD (j + 1) default := by
  rw [List.getD_eq_getElem?_getD, List.getD_eq_getElem?_getD, List.getElem?_drop, List.getElem?_take, if_pos (by omega), Nat.add_comm]
theorem mid_nf {s : List UInt8} (h : 4 ≤ s.length) : nf ((s.take 4).drop 1) = numA s 0 := by
  match s, h with
  | a :: b :: c :: d :: r, _ => simp [nf, numA]; omega
set_option maxRecDepth 20000 in
set_option maxHeartbeats 2000000 in
theorem c_name_one (s : List UInt8) (h : s.length ≤ 1073741824) (h0 : 0 < s.length) : AC Try.prog 40 [str s] emp (Ret (.tup [u8 (oneV s).1.toNat, str (oneV s).2.1, tf (oneV s).2.2])) := by
 refine AC.intro te_ok (fn := Try.f40) ⟨Try.func40, rfl, rfl⟩ (Nat.le_of_ble_eq_true rfl) ?_
 refine AWp.seq ?_
 refine AWp.region ?_
 refine AOps.cons rfl rfl (q_assign) ?_
 refine AOps.cons rfl rfl (q_assign) ?_
 refine AOps.cons rfl rfl (q_assign) ?_
 refine AOps.nil ?_
 refine AWp.seq ?_
 refine AWp.seq ?_
 refine AWp.region ?_
 refine AOps.cons rfl rfl (q_move) ?_
 refine AOps.cons rfl rfl (q_ixs) ?_
 refine AOps.bool rfl rfl (q_call (0) (hc := (c_name_plain (s.getD 0 default)))) (fun h1_2 => ?_) (fun h1_2 => ?_)
 ·
  refine AOps.nil ?_
  refine AWp.cond_t rfl ?_
  refine AWp.seq ?_
  refine AWp.draws [⟨0, [0], [], some 11, _, []⟩,
      ⟨1, [11], [], some 12, _, []⟩,
      ⟨2, [0], [], some 13, _, []⟩,
      ⟨3, [13], [], some 14, _, []⟩,
      ⟨4, [12], [], some 2, _, []⟩,
      ⟨5, [14], [], some 3, _, []⟩,
      ⟨6, [], [], some 4, _, []⟩]
   [⟨0, [0], [], some 11, .any, []⟩,
       ⟨1, [11], [], some 12, .any, []⟩,
       ⟨2, [0], [], some 13, .any, []⟩,
       ⟨3, [13], [], some 14, .any, []⟩,
       ⟨4, [12], [], some 2, .any, []⟩,
       ⟨5, [14], [], some 3, .any, []⟩,
       ⟨6, [], [], some 4, .any, []⟩]
   mixed_ok rfl (by kernel_rfl) ⟨DS.ok_over fun s0 => OpAt.go rfl rfl (q_move),
       DS.ok_over fun s0 => OpAt.go rfl rfl (q_ixs),
       DS.ok_over fun s0 => OpAt.go rfl rfl (q_move),
       DS.ok_over fun s0 => OpAt.go rfl rfl (q_sls_lo),
       DS.ok_over fun s0 => OpAt.go rfl rfl (q_assign),
       DS.ok_over fun s0 => OpAt.go rfl rfl (q_assign),
       DS.ok_over fun s0 => OpAt.go rfl rfl (q_assign), trivial⟩ ?_
  dsimp only [final, DS.upd, AS.seto]
  refine AWp.ret ?_
  show Fin te Try.f40 _ _
  refine q_ret (0) [_, _, _] [_, _, _] ?_
  rw [one_pl h1_2]; rfl
 ·
  refine AOps.nil ?_
  refine AWp.cond_f rfl ?_
  refine AWp.skip ?_
  refine AWp.seq ?_
  refine AWp.seq ?_
  refine AWp.region ?_
  refine AOps.cons rfl rfl (q_move) ?_
  refine AOps.cons rfl rfl (q_ixs) ?_
  refine AOps.dec rfl rfl (q_neq) (fun h3_2 => ?_) (fun h3_2 => ?_)
  ·
   refine AOps.cons rfl rfl (q_move) ?_
   refine AOps.gskip rfl rfl rfl rfl rfl rfl rfl rfl ?_
   refine AOps.gskip rfl rfl rfl rfl rfl rfl rfl rfl ?_
   refine AOps.gskip rfl rfl rfl rfl rfl rfl rfl rfl ?_
   refine AOps.cons rfl rfl (q_pick) ?_
   refine AOps.nil ?_
   refine AWp.cond_t rfl ?_
   refine AWp.seq ?_
   refine AWp.region ?_
   refine AOps.cons rfl rfl (q_move) ?_
   refine AOps.cons rfl rfl (q_assign) ?_
   refine AOps.cons rfl rfl (q_assign) ?_
   refine AOps.cons rfl rfl (q_assign) ?_
   refine AOps.nil ?_
   refine AWp.ret ?_
   show Fin te Try.f40 _ _
   refine q_ret (0) [_, _, _] [_, _, _] ?_
   rw [one_no h1_2 (fun k => h3_2 (by show ((s.getD 0 default).toNat : Int) = 92; omega))]; rfl
  ·
   refine AOps.cons rfl rfl (q_move) ?_
   refine AOps.gcons rfl rfl rfl rfl rfl (q_move) ?_
   refine AOps.gcons rfl rfl rfl rfl rfl (q_len_str) ?_
   refine AOps.gdec rfl rfl rfl rfl rfl (q_lss) (fun h3_6 => ?_) (fun h3_6 => ?_)
   ·
    refine AOps.cons rfl rfl (q_pick) ?_
    refine AOps.nil ?_
    refine AWp.cond_t rfl ?_
    refine AWp.seq ?_
    refine AWp.region ?_
    refine AOps.cons rfl rfl (q_move) ?_
    refine AOps.cons rfl rfl (q_assign) ?_
    refine AOps.cons rfl rfl (q_assign) ?_
    refine AOps.cons rfl rfl (q_assign) ?_
    refine AOps.nil ?_
    refine AWp.ret ?_
    show Fin te Try.f40 _ _
    refine q_ret (0) [_, _, _] [_, _, _] ?_
    rw [one_no h1_2 (fun k => by omega)]; rfl
   ·
    refine AOps.cons rfl rfl (q_pick) ?_
    refine AOps.nil ?_
    refine AWp.cond_f rfl ?_
    refine AWp.skip ?_
    refine AWp.seq ?_
    refine AWp.region ?_
    refine AOps.cons rfl rfl (q_assign) ?_
    refine AOps.nil ?_
    refine AWp.seq ?_
    refine AWp.seq ?_
    refine AWp.region ?_
    refine AOps.cons rfl rfl (q_move) ?_
    refine AOps.cons rfl rfl (q_sls) ?_
    refine AOps.cons rfl rfl (q_conv_sl 702) ?_
    refine AOps.cons rfl rfl (q_len) ?_
    refine AOps.cons rfl rfl (q_move) ?_
    refine AOps.nil ?_
    refine AWp.block ?_
    refine AWp.loopR (α := Nat) [2, 3, 4, 5, 7, 28, 29, 30, 31, 32, 33, 34, 35, 36, 37, 38, 39, 40, 41, 42, 43, 44, 45] (fun i => [(28, i64 i), (5, i64 (nf (((s.take 4).drop 1).take i) : Nat))]) (fun i => []) (fun i => i ≤ 3 ∧ (∀ j, j < i → digB (s.getD (j + 1) default) = true) ∧ nf (((s.take 4).drop 1).take i) ≤ 999 ∧ (i ≤ 2 → nf (((s.take 4).drop 1).take i) ≤ 99) ∧ (i ≤ 1 → nf (((s.take 4).drop 1).take i) ≤ 9) ∧ (i = 0 → nf (((s.take 4).drop 1).take i) = 0)) (fun i => 3 - i) 0 ?_ (Back.mk' (HasT.cons (HasT.cons HasT.nil)) HasH.nil) ?_
    ·
     exact ⟨Nat.zero_le _, fun j hj => absurd hj (Nat.not_lt_zero j), Nat.zero_le _, fun _ => Nat.zero_le _, fun _ => Nat.zero_le _, fun _ => rfl⟩
    ·
     rintro i ⟨hi, hj, n1, n2, n3, n4⟩
     have hsl : (List.drop (Int.toNat 1) (List.take (Int.toNat 4) s)).length = 3 := by rw [List.length_drop, List.length_take]; show min 4 s.length - 1 = 3; omega
     have hst : i < 3 → nf (((s.take 4).drop 1).take (i + 1)) = 10 * nf (((s.take 4).drop 1).take i) + ((s.getD (i + 1) default).toNat - 48) := fun h => by rw [nf_step (show i < ((s.take 4).drop 1).length by exact hsl ▸ h), mid_get (by omega) h]
     refine AWp.seq ?_
     refine AWp.region ?_
     refine AOps.dec rfl rfl (q_lss) (fun h7_0 => ?_) (fun h7_0 => ?_)
     ·
      refine AOps.nil ?_
      refine AWp.seq ?_
      refine AWp.cond_t rfl ?_
      refine AWp.skip ?_
      refine AWp.seq ?_
      refine AWp.block ?_
      refine AWp.seq ?_
      refine AWp.region ?_
      refine AOps.cons rfl rfl (q_ix) ?_
      refine AOps.cons rfl rfl (q_load) ?_
      refine AOps.cons rfl rfl (q_assign) ?_
      refine AOps.nil ?_
      refine AWp.seq ?_
      refine AWp.seq ?_
      refine AWp.region ?_
      have hgv : ((List.drop (Int.toNat 1) (List.take (Int.toNat 4) s)).getD (i : Int).toNat default) = s.getD (i + 1) default := mid_get (by omega) (by omega)
      rw [hgv]
      refine AOps.cons rfl rfl (q_move) ?_
      refine AOps.dec rfl rfl (q_lss) (fun h9_1 => ?_) (fun h9_1 => ?_)
      ·
       refine AOps.cons rfl rfl (q_move) ?_
       refine AOps.gskip rfl rfl rfl rfl rfl rfl rfl rfl ?_
       refine AOps.gskip rfl rfl rfl rfl rfl rfl rfl rfl ?_
       refine AOps.cons rfl rfl (q_pick) ?_
       refine AOps.nil ?_
       refine AWp.cond_t rfl ?_
       refine AWp.seq ?_
       refine AWp.region ?_
       refine AOps.cons rfl rfl (q_move) ?_
       refine AOps.cons rfl rfl (q_assign) ?_
       refine AOps.cons rfl rfl (q_assign) ?_
       refine AOps.cons rfl rfl (q_assign) ?_
       refine AOps.nil ?_
       refine AWp.ret ?_
       show Fin te Try.f40 _ _
       refine q_ret (0) [_, _, _] [_, _, _] ?_
       rw [one_no h1_2 (fun k => by
         have hx : digB (s.getD (i + 1) default) = true := by
           rcases (show i = 0 ∨ i = 1 ∨ i = 2 by omega) with rfl | rfl | rfl
           · exact k.2.2.1
           · exact k.2.2.2.1
           · exact k.2.2.2.2
         simp only [digB, decide_eq_true_eq] at hx
         omega)]; rfl
      ·
       refine AOps.cons rfl rfl (q_move) ?_
       refine AOps.gcons rfl rfl rfl rfl rfl (q_move) ?_
       refine AOps.gdec rfl rfl rfl rfl rfl (q_gtr) (fun h9_4 => ?_) (fun h9_4 => ?_)
       ·
        refine AOps.cons rfl rfl (q_pick) ?_
        refine AOps.nil ?_
        refine AWp.cond_t rfl ?_
        refine AWp.seq ?_
        refine AWp.region ?_
        refine AOps.cons rfl rfl (q_move) ?_
        refine AOps.cons rfl rfl (q_assign) ?_
        refine AOps.cons rfl rfl (q_assign) ?_
        refine AOps.cons rfl rfl (q_assign) ?_
        refine AOps.nil ?_
        refine AWp.ret ?_
        show Fin te Try.f40 _ _
        refine q_ret (0) [_, _, _] [_, _, _] ?_
        rw [one_no h1_2 (fun k => by
          have hx : digB (s.getD (i + 1) default) = true := by
            rcases (show i = 0 ∨ i = 1 ∨ i = 2 by omega) with rfl | rfl | rfl
            · exact k.2.2.1
            · exact k.2.2.2.1
            · exact k.2.2.2.2
          simp only [digB, decide_eq_true_eq] at hx
          omega)]; rfl
       ·
        refine AOps.cons rfl rfl (q_pick) ?_
        refine AOps.nil ?_
        refine AWp.cond_f rfl ?_
        refine AWp.skip ?_
        refine AWp.region ?_
        have hd9 : 48 ≤ (s.getD (i + 1) default).toNat ∧ (s.getD (i + 1) default).toNat ≤ 57 := by omega
        have hdg : digB (s.getD (i + 1) default) = true := decide_eq_true hd9
        have hsb := dig_sub hdg
        refine AOps.cons rfl rfl (q_move) ?_
        refine AOps.cons rfl rfl (q_mul) ?_
        refine AOps.cons rfl rfl (q_move) ?_
        refine AOps.cons rfl rfl (q_sub8 (s.getD (i + 1) default) 48) ?_
        refine AOps.cons rfl rfl (q_conv_8i) ?_
        refine AOps.cons rfl rfl (q_add) ?_
        refine AOps.cons rfl rfl (q_assign) ?_
        refine AOps.nil ?_
        refine AWp.region ?_
        refine AOps.cons rfl rfl (q_add) ?_
        refine AOps.cons rfl rfl (q_move) ?_
        refine AOps.nil ?_
        have hst2 := hst (by omega)
        refine ⟨i + 1, ?_, Back.mk' (HasT.cons (HasT.cons HasT.nil (h1 := by exact i64_eq (by rw [hst2]; have := hsb.1; omega)) )) HasH.nil, ?_⟩
        ·
         exact ⟨by omega, fun j h => by rcases Nat.lt_or_ge j i with h2 | h2; exact hj j h2; (obtain rfl : j = i := by omega); exact hdg, by omega, by omega, by omega, by omega⟩
        ·
         first | omega | (simp; omega)
     ·
      refine AOps.nil ?_
      refine AWp.seq ?_
      refine AWp.cond_f rfl ?_
      refine AWp.exit ?_
      refine AWp.seq ?_
      obtain rfl : i = 3 := by omega
      have ht : List.take 3 ((s.take 4).drop 1) = (s.take 4).drop 1 := List.take_of_length_le (Nat.le_of_eq hsl)
      rw [ht, mid_nf (by omega)]
      rw [ht, mid_nf (by omega)] at n1
      have hall : (s.getD 0 default).toNat = 92 ∧ 4 ≤ s.length ∧ digB (s.getD 1 default) = true ∧ digB (s.getD 2 default) = true ∧ digB (s.getD 3 default) = true := ⟨by have e : ((s.getD 0 default).toNat : Int) = 92 := Decidable.not_not.1 h3_2; omega, by omega, hj 0 (by omega), hj 1 (by omega), hj 2 (by omega)⟩
      refine AWp.draws [⟨0, [5], [], some 46, _, []⟩,
          ⟨1, [46], [], some 47, _, []⟩,
          ⟨2, [0], [], some 48, _, []⟩,
          ⟨3, [48], [], some 49, _, []⟩,
          ⟨4, [5], [], some 50, _, []⟩,
          ⟨5, [50], [], some 51, _, []⟩,
          ⟨6, [47], [], some 2, _, []⟩,
          ⟨7, [49], [], some 3, _, []⟩,
          ⟨8, [51], [], some 4, _, []⟩]
       [⟨0, [5], [], some 46, .any, []⟩,
           ⟨1, [46], [], some 47, .any, []⟩,
           ⟨2, [0], [], some 48, .any, []⟩,
           ⟨3, [48], [], some 49, .any, []⟩,
           ⟨4, [5], [], some 50, .any, []⟩,
           ⟨5, [50], [], some 51, .any, []⟩,
           ⟨6, [47], [], some 2, .any, []⟩,
           ⟨7, [49], [], some 3, .any, []⟩,
           ⟨8, [51], [], some 4, .any, []⟩]
       mixed_ok rfl (by kernel_rfl) ⟨DS.ok_over fun s0 => OpAt.go rfl rfl (q_move),
           DS.ok_over fun s0 => OpAt.go rfl rfl (q_conv_u8),
           DS.ok_over fun s0 => OpAt.go rfl rfl (q_move),
           DS.ok_over fun s0 => OpAt.go rfl rfl (q_sls_lo),
           DS.ok_over fun s0 => OpAt.go rfl rfl (q_move),
           DS.ok_over fun s0 => OpAt.go rfl rfl (q_lss),
           DS.ok_over fun s0 => OpAt.go rfl rfl (q_assign),
           DS.ok_over fun s0 => OpAt.go rfl rfl (q_assign),
           DS.ok_over fun s0 => OpAt.go rfl rfl (q_assign), trivial⟩ ?_
      dsimp only [final, DS.upd, AS.seto]
      refine AWp.ret ?_
      show Fin te Try.f40 _ _
      refine q_ret (0) [_, _, _] [_, _, _] ?_
      rw [one_yes h1_2 hall]; exact congrArg (fun b => AV.tup [_, _, tf b]) (decide_eq_decide.2 (by omega))
end Go.Proofs.Ytfojdjlhpejbpaa.Fw


set_option linter.unusedVariables false
set_option linter.unusedSimpArgs false
namespace Go.Proofs.Ytfojdjlhpejbpaa.Fw
open Go.RowKit
section
variable {s lab : List UInt8} {l : List (List UInt8)}
theorem prs_one_yes (h : 0 < s.length) (h2 : ¬ (s.getD 0 default).toNat = 46) (ho : (oneV s).2.2 = true) : prs s l lab = prs (oneV s).2.1 l (lab ++ [(oneV s).1]) := by
  have e0 : s.drop 0 = s := rfl
  cases hc : plB (s.getD 0 default) with
  | true => rw [one_pl hc]; exact prs_pl h hc
  | false =>
    by_cases h3 : (s.getD 0 default).toNat = 92 ∧ 4 ≤ s.length ∧ digB (s.getD 1 default) = true ∧ digB (s.getD 2 default) = true ∧ digB (s.getD 3 default) = true
    · rw [one_yes hc h3] at ho ⊢
      have h4 : ¬ 255 < numA s 0 := by have := of_decide_eq_true ho; omega
      exact prs_esc (k := 0) h hc h2 ⟨h3.1, by omega, h3.2.2⟩ h4
    · rw [one_no hc h3] at ho; cases ho
theorem prs_one_no (h : 0 < s.length) (h2 : ¬ (s.getD 0 default).toNat = 46) (ho : (oneV s).2.2 = false) : prs s l lab = none := by
  cases hc : plB (s.getD 0 default) with
  | true => rw [one_pl hc] at ho; cases ho
  | false =>
    by_cases h3 : (s.getD 0 default).toNat = 92 ∧ 4 ≤ s.length ∧ digB (s.getD 1 default) = true ∧ digB (s.getD 2 default) = true ∧ digB (s.getD 3 default) = true
    · rw [one_yes hc h3] at ho
      have h4 : 255 < numA s 0 := by have := of_decide_eq_false ho; omega
      exact prs_escx (k := 0) h hc h2 ⟨h3.1, by omega, h3.2.2⟩ h4
    · exact prs_bad (k := 0) h hc h2 (fun k => h3 ⟨k.1, by omega, k.2.2⟩)
end
end Go.Proofs.Ytfojdjlhpejbpaa.Fw


set_option linter.unusedVariables false
set_option linter.unusedSimpArgs false
namespace Go.Proofs.Ytfojdjlhpejbpaa.Fw
open Go.RowKit
end Go.Proofs.Ytfojdjlhpejbpaa.Fw


set_option linter.unusedVariables false
set_option linter.unusedSimpArgs false
namespace Go.Proofs.Ytfojdjlhpejbpaa.Fw
open Go.RowKit
section
variable {n : Nat} {s : AS} {o : Oper} {d : Option Tmp}
end
end Go.Proofs.Ytfojdjlhpejbpaa.Fw


set_option linter.unusedVariables false
set_option linter.unusedSimpArgs false
namespace Go.Proofs.Ytfojdjlhpejbpaa.Fw
open Go.RowKit
section
variable {n : Nat} {s : AS} {o : Oper} {d : Option Tmp}
end
end Go.Proofs.Ytfojdjlhpejbpaa.Fw


set_option linter.unusedVariables false
set_option linter.unusedSimpArgs false
namespace Go.Proofs.Ytfojdjlhpejbpaa.Fw
open Go.RowKit
section
variable {n : Nat} {s : AS} {o : Oper} {d : Option Tmp}
theorem OpOk.weak {P : Program} {s1 s2 : AS} (h : OpOk P n o s s1) (hw : Weak s1 s2) : OpOk P n o s s2 := by
  intro Λ w φ a hs next QQ hn
  refine h Λ w φ a hs next QQ fun w' φ' a' hs' g => ?_
  obtain ⟨φ2, hs2, g2⟩ := hw n Λ w' φ' a' hs'
  exact hn w' φ2 a' hs2 (g.trans g2)
end
end Go.Proofs.Ytfojdjlhpejbpaa.Fw


set_option linter.unusedVariables false
set_option linter.unusedSimpArgs false
set_option linter.unusedSectionVars false
namespace Go.Proofs.Ytfojdjlhpejbpaa.Fw
open Go.RowKit
section pure
variable {κ β : Type} [DecidableEq κ]
def mput : List (κ × β) → κ → β → List (κ × β)
  | [], k, v => [(k, v)]
  | (a, b) :: m, k, v => if a = k then (k, v) :: m else (a, b) :: mput m k v
def MNd (m : List (κ × β)) : Prop := (m.map (·.1)).Nodup
theorem mput_mem {m : List (κ × β)} {k x : κ} {v : β} (h : x ∈ (mput m k v).map (·.1)) : x = k ∨ x ∈ m.map (·.1) := by
  induction m with
  | nil => simp [mput] at h; exact .inl h
  | cons p m ih =>
    obtain ⟨a, b⟩ := p
    simp only [mput] at h
    split at h
    · rename_i e; subst e; exact .inr (by simpa using h)
    · simp only [List.map_cons, List.mem_cons] at h ⊢
      rcases h with h | h
      · exact .inr (.inl h)
      · rcases ih h with h | h
        · exact .inl h
        · exact .inr (.inr h)
theorem MNd.put {m : List (κ × β)} (hn : MNd m) (k : κ) (v : β) : MNd (mput m k v) := by
  induction m with
  | nil => simp [mput, MNd]
  | cons p m ih =>
    obtain ⟨a, b⟩ := p
    have hn' : a ∉ m.map (·.1) ∧ MNd m := by simpa [MNd] using hn
    simp only [mput]
    split
    · rename_i e; subst e; exact hn
    · rename_i e
      show ((a, b) :: mput m k v |>.map (·.1)).Nodup
      rw [List.map_cons, List.nodup_cons]
      refine ⟨fun h => ?_, ih hn'.2⟩
      rcases mput_mem h with h | h
      · exact e h
      · exact hn'.1 h
theorem MNd.nil : MNd ([] : List (κ × β)) := by simp [MNd]
end pure
structure MKey (κ : Type) where
  kv : κ → Value
  d : TypeDesc
  isKey : ∀ k, MapKept.IsKey d (kv k)
  inj : ∀ a b, kv a = kv b → a = b
  same : ∀ k, Instr.sameBits 10000 (kv k) (kv k) = true
theorem findNow_none {d : TypeDesc} {kk : Value} (hk : MapKept.IsKey d kk) : ∀ (l : List MapEntry) (i : Nat), (∀ e ∈ l, MapKept.IsKey d e.key ∧ e.key ≠ kk) → Instr.findNow d kk l i = some none
  | [], _, _ => rfl
  | e :: l, i, h => by
    obtain ⟨r, hr, hiff⟩ := MapKept.sameNow_of_keys hk (h e (by simp)).1
    cases r with
    | true => exact absurd (hiff.1 rfl).symm (h e (by simp)).2
    | false =>
      simp only [Instr.findNow, hr]
      exact findNow_none hk l (i + 1) fun e he => h e (by simp [he])
theorem findNow_some {d : TypeDesc} {kk : Value} (hk : MapKept.IsKey d kk) : ∀ (l : List MapEntry) (i j : Nat) (e : MapEntry), l[j]? = some e → e.key = kk → (∀ i' e', i' < j → l[i']? = some e' → MapKept.IsKey d e'.key ∧ e'.key ≠ kk) →
    Instr.findNow d kk l i = some (some (i + j, e.val))
  | [], _, _, _, h, _, _ => by simp at h
  | x :: l, i, 0, e, h, he, _ => by
    simp at h; subst h
    obtain ⟨r, hr, hiff⟩ := MapKept.sameNow_of_keys hk (he ▸ hk : MapKept.IsKey d x.key)
    have : r = true := hiff.2 he.symm
    subst this
    simp [Instr.findNow, hr]
  | x :: l, i, j + 1, e, h, he, hb => by
    have h0 := hb 0 x (by omega) rfl
    obtain ⟨r, hr, hiff⟩ := MapKept.sameNow_of_keys hk h0.1
    cases r with
    | true => exact absurd (hiff.1 rfl).symm h0.2
    | false =>
      simp only [Instr.findNow, hr]
      have := findNow_some hk l (i + 1) j e (by simpa using h) he fun i' e' hi he' => hb (i' + 1) e' (by omega) (by simpa using he')
      rw [this]
      congr 3; omega
section rules
variable {n : Nat} {s : AS} {o : Oper} {d : Option Tmp} {κ β : Type} [DecidableEq κ]
def me (K : MKey κ) (f : β → AV) (m : List (κ × β)) : List (Value × AV) := m.map fun p => (K.kv p.1, f p.2)
structure MEnts (w : World) (φ : PMap) (Λ : Lent) (K : MKey κ) (f : β → AV) (m : List (κ × β)) (ents : Array MapEntry) : Prop where
  size : ents.size = m.length
  at' : ∀ (j : Nat) p, m[j]? = some p → ∃ e, ents[j]? = some e ∧ e.key = K.kv p.1 ∧ Rep w φ Λ (f p.2) e.val
theorem MEnts.key {w : World} {φ : PMap} {Λ : Lent} {K : MKey κ} {f : β → AV} {m : List (κ × β)} {ents : Array MapEntry} (h : MEnts w φ Λ K f m ents) {i : Nat} {e : MapEntry} (he : ents[i]? = some e) : ∃ p, m[i]? = some p ∧ e.key = K.kv p.1 := by
  have hlt : i < m.length := by
    have := (Array.getElem?_eq_some_iff.1 he).1
    rw [← h.size]; exact this
  obtain ⟨e', h1, h2, _⟩ := h.at' i m[i] (List.getElem?_eq_getElem hlt)
  rw [he] at h1; cases h1
  exact ⟨_, List.getElem?_eq_getElem hlt, h2⟩
theorem MEnts.none {w : World} {φ : PMap} {Λ : Lent} {K : MKey κ} {f : β → AV} {m : List (κ × β)} {ents : Array MapEntry} (h : MEnts w φ Λ K f m ents) {k : κ} (hk : ∀ (i : Nat) (q : κ × β), m[i]? = some q → q.1 ≠ k) :
    Instr.findNow K.d (K.kv k) ents.toList 0 = some none := by
  refine findNow_none (K.isKey k) _ 0 fun e he => ?_
  obtain ⟨i, hi, rfl⟩ := List.getElem_of_mem he
  obtain ⟨p, h1, h2⟩ := h.key (i := i) (e := ents.toList[i]) (by rw [← Array.getElem?_toList, List.getElem?_eq_getElem hi])
  rw [h2]
  exact ⟨K.isKey _, fun e => hk i p h1 (K.inj _ _ e)⟩
theorem MEnts.some {w : World} {φ : PMap} {Λ : Lent} {K : MKey κ} {f : β → AV} {m : List (κ × β)} {ents : Array MapEntry} (h : MEnts w φ Λ K f m ents) {k : κ} {j : Nat} {p : κ × β} (h1 : m[j]? = some p) (h2 : p.1 = k) (hk : ∀ (i : Nat) (q : κ × β), i < j → m[i]? = some q → q.1 ≠ k) :
    ∃ e, ents[j]? = some e ∧ e.key = K.kv k ∧ Rep w φ Λ (f p.2) e.val ∧ Instr.findNow K.d (K.kv k) ents.toList 0 = some (some (j, e.val)) := by
  obtain ⟨e, q1, q2, q3⟩ := h.at' j p h1
  refine ⟨e, q1, by rw [q2, h2], q3, ?_⟩
  have := findNow_some (K.isKey k) ents.toList 0 j e (by rw [Array.getElem?_toList, q1]) (by rw [q2, h2]) fun i' e' hi he' => ?_
  · rwa [Nat.zero_add] at this
  · rw [Array.getElem?_toList] at he'
    obtain ⟨p', g1, g2⟩ := h.key he'
    rw [g2]
    exact ⟨K.isKey _, fun e => hk i' p' hi g1 (K.inj _ _ e)⟩
theorem me_vals {K : MKey κ} {f : β → AV} {m : List (κ × β)} : (me K f m).map (·.2) = m.map fun p => f p.2 := by simp [me]
theorem me_oks {K : MKey κ} {f : β → AV} {m : List (κ × β)} {lv : Nat} (h : ∀ b, (f b).ok lv = true) : AV.oks lv ((me K f m).map (·.2)) = true := by
  rw [me_vals]
  refine AV.oks_of fun c hc => ?_
  rw [List.mem_map] at hc
  obtain ⟨q, _, rfl⟩ := hc
  exact h q.2
theorem lobj_me {ρ : Nat → Bool} {σ : IdMap} {h : Heap} {lo hi : Nat} {rn : Bool} {K : MKey κ} {f : β → AV} {m : List (κ × β)} (h3 : ∀ b, (f b).ok lo = true) : LObj ρ σ h lo hi rn (.map (me K f m)) (.map (me K f m)) := ⟨rfl, lvs_ok (me_oks h3)⟩
theorem Chg.map {w : World} {φ : PMap} {Λ : Lent} {h : Heap} (hs : HSim w φ Λ h) {id b : Nat} {l : Loc} {ents : Array MapEntry} {clock : Nat} (hl : φ id = some l) (hbo : l.bo = some (b, 0)) (hb : w.heap[b]? = some (.map ents clock)) (ob : Obj) :
    Chg w φ Λ h id l { w with heap := w.heap.setIfInBounds b ob } where
  hs := hs
  size := by simp
  os := rfl
  tape := rfl
  output := rfl
  other k hk hne := (MapKept.heap_set hb).2 k (hne l b 0 hl hbo)
  loc b' o' h' := by
    rw [hbo] at h'; cases h'
    exact ⟨by have := (Array.getElem?_eq_some_iff.1 hb).1; simpa using this, .inr ⟨l, 0, hl, hbo⟩⟩
  ver l0 h0 := by rw [hl] at h0; cases h0; exact .inl rfl
  sizes l0 h0 _ b0 o0 arr T mm hb0 hh := by
    rw [hl] at h0; cases h0
    rw [hbo] at hb0; cases hb0
    rw [hb] at hh; cases hh
end rules
end Go.Proofs.Ytfojdjlhpejbpaa.Fw


set_option linter.unusedVariables false
set_option linter.unusedSimpArgs false
set_option linter.unusedSectionVars false
namespace Go.Proofs.Ytfojdjlhpejbpaa.Fw
open Go.RowKit
section
variable {P : Program} {n : Nat} {ops : Array Oper} {Q : APost} {QP : Value → AS → Prop}
def OpAtX (P : Program) (n : Nat) (ops : Array Oper) (QP : Value → AS → Prop) (i : Nat) (s s' : AS) : Prop :=
  ∀ Λ w φ a, Sim n w φ Λ s a → ∀ (K : Act → World → Prop) (QQ : Exit → Act → World → Prop), (∀ w' φ' a', Sim n w' φ' Λ s' a' → Goes w φ w' φ' → K a' w') →
    (∀ x s2 w' φ' a', QP x s2 → Sim n w' φ' Λ s2 a' → Goes w φ w' φ' → QQ (.panic [{ v := x, recovered := false }]) a' w') → wpOp P ops QQ i K a w
theorem OpAt.x {i : Nat} {s s' : AS} (h : OpAt P n ops i s s') : OpAtX P n ops QP i s s' := fun Λ w φ a hs K QQ hK _ => h Λ w φ a hs K QQ hK
theorem OpAtX.go {i : Nat} {o : Oper} {s s' : AS} (ho : ops[i]? = some o) (hg : o.guard = none) (h : OpX P n o (fun e s2 => match e with | .panic x => QP x s2 | _ => False) s (fun s2 => s2 = s')) : OpAtX P n ops QP i s s' := by
  intro Λ w φ a hs K QQ hK hP
  simp only [wpOp, ho, Region.wanted, hg, if_true]
  exact .inl (h Λ w φ a hs _ _ (fun s2 w' φ' a' e hs' g => hK w' φ' a' (e ▸ hs') g) (fun x s2 w' φ' a' q hs' g => hP x s2 w' φ' a' q hs' g))
def DS.OkX (P : Program) (n : Nat) (ops : Array Oper) (QP : Value → AS → Prop) (e : DS) (s : AS) : Prop :=
  ∀ s', (∀ t ∈ e.rt, s'.t t = s.t t) → (∀ k ∈ e.rh, s'.h k = s.h k) → OpAtX P n ops QP e.i s' (e.upd s')
theorem DS.OkX.congr {e : DS} {s s2 : AS} (h : e.OkX P n ops QP s) (ht : ∀ t ∈ e.rt, s2.t t = s.t t) (hh : ∀ k ∈ e.rh, s2.h k = s.h k) : e.OkX P n ops QP s2 :=
  fun s' h1 h2 => h s' (fun t k => (h1 t k).trans (ht t k)) (fun t k => (h2 t k).trans (hh t k))
theorem DS.OkX.over {a b : DS} {s : AS} (hi : indep a b = true) (h : b.OkX P n ops QP s) : b.OkX P n ops QP (a.upd s) := by
  obtain ⟨h1, h2, h3, h4⟩ := indep_spec hi
  refine h.congr (fun t ht => ?_) (fun k hk => ?_)
  · rw [DS.upd_t, if_neg]
    intro e
    exact (h1 t e).1 ht
  · rw [DS.upd_h, indep_none hi hk]
theorem DS.OkX.under {a b : DS} {s : AS} (hi : indep a b = true) (h : b.OkX P n ops QP (a.upd s)) : b.OkX P n ops QP s := by
  obtain ⟨h1, h2, h3, h4⟩ := indep_spec hi
  refine h.congr (fun t ht => ?_) (fun k hk => ?_)
  · rw [DS.upd_t, if_neg]
    intro e
    exact (h1 t e).1 ht
  · rw [DS.upd_h, indep_none hi hk]
def GoodX (P : Program) (n : Nat) (ops : Array Oper) (QP : Value → AS → Prop) : List DS → AS → Prop
  | [], _ => True
  | e :: r, s => e.OkX P n ops QP s ∧ GoodX P n ops QP r (e.upd s)
theorem GoodX.front {x : DS} {post : List DS} : ∀ {pre : List DS} {s : AS}, GoodX P n ops QP (pre ++ x :: post) s → (∀ y ∈ pre, indep y x = true ∧ y.wf = true) → x.wf = true →
    GoodX P n ops QP (x :: (pre ++ post)) s ∧ final (pre ++ x :: post) s = final (x :: (pre ++ post)) s
  | [], s, h, _, _ => ⟨h, rfl⟩
  | y :: pre, s, h, hi, hx => by
    obtain ⟨h1, h2⟩ := h
    obtain ⟨h3, h4⟩ := GoodX.front (pre := pre) (s := y.upd s) h2 (fun z hz => hi z (List.mem_cons_of_mem _ hz)) hx
    obtain ⟨h5, h6⟩ := h3
    obtain ⟨hy, hyw⟩ := hi y List.mem_cons_self
    have hc := upd_comm (indep_symm hy) hyw s
    refine ⟨⟨h5.under hy, ?_⟩, ?_⟩
    · show y.OkX P n ops QP (x.upd s) ∧ GoodX P n ops QP (pre ++ post) (y.upd (x.upd s))
      rw [← hc]
      exact ⟨h1.over (indep_symm hy), h6⟩
    · show final (pre ++ x :: post) (y.upd s) = final (pre ++ post) (y.upd (x.upd s))
      rw [h4, ← hc]
      rfl
end
end Go.Proofs.Ytfojdjlhpejbpaa.Fw


set_option linter.unusedVariables false
set_option linter.unusedSimpArgs false
set_option linter.unusedSectionVars false
namespace Go.Proofs.Ytfojdjlhpejbpaa.Fw
open Go.RowKit
section rules
variable {n : Nat} {s : AS} {o : Oper} {d : Option Tmp} {Q : APost}
theorem AOps.panic {ops : Array Oper} {i : Nat} {rest : List Nat} {x : Operand} {t : TypeId} {v : Value} (hQ : Q (.panic (.iface t v)) s) (hi : ops[i]? = some o := by exact rfl) (hg : o.guard = none := by exact rfl) (ho : o.op = .panic x := by exact rfl) (hx : s.ev x = .v (.iface t v) := by exact rfl) :
    AOps Try.prog n ops Q (i :: rest) s :=
  AOps.consx hi hg fun Λ w φ a hs next QQ hN hP => by
    have e := ev_v hs hx
    have hrun : (execOp a.eval o).run Try.prog w = .halt (.panic (.iface t v)) w := by simp [execOp, ho, e, Instr.panic, goPanic]
    unfold Oper.wp
    rw [hrun]
    exact hP (.iface t v) s w φ a hQ hs (Goes.refl _ _)
end rules
section jumps
variable {P : Program} {n : Nat} {Q : APost} {s : AS}
end jumps
end Go.Proofs.Ytfojdjlhpejbpaa.Fw


set_option linter.unusedVariables false
set_option linter.unusedSimpArgs false
set_option linter.unusedSectionVars false
namespace Go.Proofs.Ytfojdjlhpejbpaa.Fw
open Go.RowKit
section rules
variable {n : Nat} {s : AS} {o : Oper} {d : Option Tmp} {Q : APost}
end rules
end Go.Proofs.Ytfojdjlhpejbpaa.Fw


set_option linter.unusedVariables false
set_option linter.unusedSimpArgs false
namespace Go.Proofs.Ytfojdjlhpejbpaa.Fw
open Go.RowKit
def bp (id n : Nat) : AV := bif Nat.beq n 0 then .v (.pointer none) else .ptr id 0 0
theorem bp_cases (id n : Nat) : (n = 0 ∧ bp id n = .v (.pointer none)) ∨ (0 < n ∧ bp id n = .ptr id 0 0) := by
  cases n with
  | zero => exact .inl ⟨rfl, rfl⟩
  | succ n => exact .inr ⟨Nat.succ_pos n, rfl⟩
theorem bp_pos {id n : Nat} (h : 0 < n) : bp id n = .ptr id 0 0 := by
  cases n with
  | zero => cases h
  | succ n => rfl
theorem bp_refs {id n : Nat} {S : Nat → Bool} (h : S id = true) : (bp id n).refs S = true := by
  rcases bp_cases id n with ⟨_, e⟩ | ⟨_, e⟩ <;> rw [e]
  · rfl
  · exact h
theorem ob_bp {x : Option AObj} {ty : Option TypeId} {id n : Nat} {a : AV} (h : x = some (.gbox ty [.ptr id 0 0, a])) (hn : 0 < n) : x = some (.gbox ty [bp id n, a]) := by rw [bp_pos hn]; exact h
section
variable {ρ : Nat → Bool} {σ : IdMap} {h : Heap} {lo hi : Nat}
theorem lv_any {a : AV} : LVal ρ σ h lo hi a .any := fun _ _ _ _ _ _ _ _ _ _ _ _ => .any
theorem lv_bp {k c n : Nat} (e : σ.get c = some k) (hr : ρ c = false) : LVal ρ σ h lo hi (bp k n) (bp c n) := by
  cases n with
  | zero => exact lv_ok rfl
  | succ n => exact lv_ptr e hr
theorem lv_bpp {k c n : Nat} (e : σ.get c = some k) (hr : ρ c = false) (hn : 0 < n) : LVal ρ σ h lo hi (.ptr k 0 0) (bp c n) := by
  rw [bp_pos hn]; exact lv_ptr e hr
theorem lv_bpq {k c n : Nat} (e : σ.get c = some k) (hr : ρ c = false) (hn : 0 < n) : LVal ρ σ h lo hi (bp k n) (.ptr c 0 0) := by
  rw [bp_pos hn]; exact lv_ptr e hr
theorem objIn_b {S : Nat → Bool} {ty : Option TypeId} {id r v m n : Nat} (h1 : S id = true) (h2 : S r = true) : ObjIn S (.gbox ty [bp id n, .sl r v 0 m 1]) := by
  show AV.refss S _ = true
  simp only [AV.refss, AV.refs, bp_refs h1, h2, Bool.and_self]
end
section
variable {n : Nat} {s : AS} {o : Oper} {d : Option Tmp} {Q : APost}
theorem q_allocT (id : Nat) {t : TypeId} {ti : TI} {zs : List AV} (ho : o.op = .alloc t := by exact rfl) (ht : te.get t = some ti := by exact rfl) (hid : s.h id = none := by exact rfl)
    (hz : ti.zero.map (fun z => AV.v z.val) = zs := by first | (simp only [List.map_cons, List.map_nil, ZC.val]; rfl) | exact rfl) (hdd : o.dst = d := by conv => lhs; whnf) (hd : d.all (Nat.blt · n) = true := by exact rfl) :
    OpOk Try.prog n o s ((s.seth id (some (.gbox (some t) zs))).put d (.ptr id 0 0)) :=
  .chg hdd hd fun Λ w φ a hs => by
    obtain ⟨z, h1, h2, _⟩ := (te_ok.tells ht).run_zero w
    have hc := Chg.alloc hs.hs hid (.cells z.cells t) 0 0
    refine ⟨_, _, _, ?_, hc, ?_, .pointer (some ⟨w.heap.size, 0, none⟩), .inl rfl, ?_⟩
    · simp [execOp, ho, Instr.alloc, h1, newVar, newRow]
    · refine ⟨w.heap.size, z.cells, t, rfl, rfl, heap_alloc_new w _, by rw [h2, ← hz]; simp, fun j c hj => ?_⟩
      rw [← hz, List.getElem?_map, Option.map_eq_some_iff] at hj
      obtain ⟨q, q1, rfl⟩ := hj
      exact ⟨q.val, by rw [h2]; simp [q1], .v⟩
    · exact .ptr (upd_same _ _ _) rfl rfl
theorem Sim.boxT {w : World} {φ : PMap} {Λ : Lent} {a : Act} (hs : Sim n w φ Λ s a) {x : Operand} {id T : Nat} {cells : List AV} (hx : s.ev x = .ptr id 0 0) (hob : s.h id = some (.gbox (some T) cells)) :
    ∃ l b, φ id = some l ∧ l.ver = 0 ∧ l.bo = some (b, 0) ∧ a.eval x = .pointer (some ⟨b, 0, none⟩) ∧ w.shape? b = some (T, cells.length) := by
  obtain ⟨l, hl, b, arr, T', g1, g2, g3, g4, g5⟩ := hs.hs.heap id _ hob
  have hr := hs.ev x
  rw [hx] at hr
  generalize a.eval x = v at hr
  cases hr with
  | ptrx e1 e2 => rw [hl] at e1; cases e1; omega
  | ptr e1 e2 e3 =>
    rw [hl] at e1
    cases e1
    rw [g1] at e3
    cases e3
    exact ⟨l, b, hl, g2, g1, rfl, by simp [World.shape?, g3, g4]⟩
theorem q_to_unsafe {src dst T : TypeId} {x : Operand} {id : Nat} {cells : List AV} {ti : TI} (ho : o.op = .convert src dst x := by exact rfl)
    (hx : s.ev x = .ptr id 0 0 := by exact rfl) (hob : s.h id = some (.gbox (some T) cells) := by exact rfl) (hs1 : Try.prog.underlying src = some (.pointer T) := by kernel_rfl) (hd1 : Try.prog.underlying dst = some .unsafePointer := by kernel_rfl) (ht : te.get T = some ti := by exact rfl) (hp : 0 < ti.size := by exact Nat.le_of_ble_eq_true rfl) (h0 : 0 < cells.length := by exact Nat.le_of_ble_eq_true rfl)
    (hdd : o.dst = d := by conv => lhs; whnf) (hd : d.all (Nat.blt · n) = true := by exact rfl) : OpOk Try.prog n o s (s.put d (.ptr id 0 0)) :=
  .val hdd hd fun Λ w φ a hs => by
    obtain ⟨l, b, g1, g2, g3, g4, g5⟩ := hs.boxT hx hob
    obtain ⟨f, z, f1, f2, _⟩ := te_elem te_ok ht
    refine ⟨.pointer (some ⟨b, 0, none⟩), ?_, .ptr g1 g2 g3⟩
    have := Lib.run_to_unsafe (P := Try.prog) w ⟨b, 0, none⟩ hs1 hd1 f1 (by rw [f2]; omega) g5 h0
    simp [execOp, ho, g4, this]
theorem q_from_unsafe {src dst T m : Nat} {x : Operand} {id : Nat} {cells : List AV} {ti : TI} (ho : o.op = .convert src dst x := by exact rfl)
    (hx : s.ev x = .ptr id 0 0 := by exact rfl) (hob : s.h id = some (.gbox (some T) cells) := by exact rfl) (hs1 : Try.prog.underlying src = some .unsafePointer := by kernel_rfl) (hd1 : Try.prog.underlying dst = some (.pointer T) := by kernel_rfl)
    (hm : cells.length = m := by simp only [List.length_cons, List.length_nil]; rfl) (hlies : liesAt Try.prog Try.prog.depth T (m / Try.prog.cellsOf T) 0 T 1 = true := by kernel_rfl) (ht : te.get T = some ti := by exact rfl)
    (hdd : o.dst = d := by conv => lhs; whnf) (hd : d.all (Nat.blt · n) = true := by exact rfl) : OpOk Try.prog n o s (s.put d (.ptr id 0 0)) :=
  .val hdd hd fun Λ w φ a hs => by
    obtain ⟨l, b, g1, g2, g3, g4, g5⟩ := hs.boxT hx hob
    obtain ⟨f, z, f1, f2, _⟩ := te_elem te_ok ht
    refine ⟨.pointer (some ⟨b, 0, none⟩), ?_, .ptr g1 g2 g3⟩
    subst hm
    have := Lib.run_from_unsafe (P := Try.prog) w ⟨b, 0, none⟩ hs1 hd1 f1 g5 hlies
    simp [execOp, ho, g4, this]
theorem q_neq_same {t u e : TypeId} {x y : Operand} {id T : Nat} {cells : List AV} {ti tj : TI} (ho : o.op = .binOp .neq t x y u := by exact rfl) (hx : s.ev x = .ptr id 0 0 := by exact rfl) (hy : s.ev y = .ptr id 0 0 := by exact rfl)
    (hob : s.h id = some (.gbox (some T) cells) := by exact rfl) (ht : te.get t = some ti := by exact rfl) (hk : ti.k = .ptr e := by exact rfl) (he : te.get e = some tj := by exact rfl)
    (hdd : o.dst = d := by conv => lhs; whnf) (hd : d.all (Nat.blt · n) = true := by exact rfl) : OpOk Try.prog n o s (s.put d (tf false)) :=
  .val hdd hd fun Λ w φ a hs => by
    obtain ⟨l, b, g1, g2, g3, g4, g5⟩ := hs.boxT hx hob
    obtain ⟨l', b', k1, k2, k3, k4, k5⟩ := hs.boxT hy hob
    rw [g1] at k1
    cases k1
    rw [g3] at k3
    cases k3
    obtain ⟨f, z, f1, f2, _⟩ := te_elem te_ok he
    have := Lib.run_neq_ptr_same (P := Try.prog) w ⟨b, 0, none⟩ ((te_ok.tells ht).ptr hk) f1
    exact ⟨.bool false, by simp [execOp, ho, g4, k4, eqGuard, this], .v⟩
theorem q_noEscape {fop y : Operand} {tys : Array TypeId} {f : FuncId} (fn : Func) {v : AV} (ho : o.op = .call { callee := .value fop, args := #[y], argTypes := tys } := by exact rfl) (hf : s.ev fop = .fn (.func f) [] [] := by exact rfl) (hy : s.ev y = v := by conv => lhs; whnf)
    (hfn : Try.prog.funcs[f]? = some fn := by exact rfl) (hname : (fn.name == "runtime.NumGoroutine") = false := by kernel_rfl) (hb : fn.body.isNone = true := by kernel_rfl) (hn : Extern.findNext fn = none := by kernel_rfl)
    (he : Extern.find fn = some Extern.AbiNoEscape.same := by kernel_rfl)
    (hdd : o.dst = d := by conv => lhs; whnf) (hd : d.all (Nat.blt · n) = true := by exact rfl) : OpOk Try.prog n o s (s.put d v) :=
  .val hdd hd fun Λ w φ a hs => by
    have hr := hs.ev fop
    rw [hf] at hr
    generalize hv : a.eval fop = fv at hr
    cases hr with
    | @fn _ _ _ a1 b1 vf wf h1 h2 h3 h4 h5 h6 =>
      have ea : a1 = #[] := Array.eq_empty_of_size_eq_zero h1
      have eb : b1 = #[] := Array.eq_empty_of_size_eq_zero h4
      subst ea
      subst eb
      have h := run_callFunc_extern hfn hname hb hn he #[a.eval y] w
      have h7 : (Extern.AbiNoEscape.same #[a.eval y]).run Try.prog w = .ok (a.eval y) w := rfl
      refine ⟨a.eval y, ?_, hy ▸ hs.ev y⟩
      simp [execOp, ho, resolve, hv, Deferred.ofValue, invoke, h, h7]
theorem Weak.renil (k id : Nat) {α : Type} (f : α → List AV) {ty : Option TypeId} {cells : List AV} {esz v : Nat} (hk : s.t k = .v (.slice none 0 0)) (hob : s.h id = some (.grow ty cells esz v)) :
    Weak s ((s.seth id (some (.grow ty (cl f []) esz (v + 1)))).put (some k) (.sl id (v + 1) 0 ([] : List α).length esz)) := by
  intro n Λ w φ a hs
  obtain ⟨l0, hl0, hv, _⟩ := hs.hs.heap id _ hob
  have hc : Chg w φ Λ s.h id ⟨none, v + 1⟩ w := by
    refine ⟨hs.hs, Nat.le_refl _, rfl, rfl, rfl, fun _ _ _ => rfl, (fun b' o' h => by cases h), fun l hl => ?_, fun l hl he => ?_⟩
    · rw [hl0] at hl; cases hl; exact .inr (by show l0.ver < v + 1; omega)
    · rw [hl0] at hl; cases hl; rw [← he] at hv; simp at hv
  have h1 : HSim w (upd φ id (some ⟨none, v + 1⟩)) Λ (upd s.h id (some (.grow ty (cl f []) esz (v + 1)))) := hc.hsim ⟨rfl, .inl ⟨rfl, rfl⟩⟩
  refine ⟨upd φ id (some ⟨none, v + 1⟩), ⟨hs.defs, hs.size, fun i => ?_, h1⟩, hc.goes⟩
  show Rep w _ Λ (upd s.t k (.sl id (v + 1) 0 0 esz) i) _
  by_cases he : i = k
  · subst he
    rw [upd_same]
    have := hs.tmps i
    rw [hk] at this
    generalize a.tmps.getD i undef = x at this
    cases this
    exact .sl0 (upd_same _ _ _) rfl
  · rw [upd_other _ _ _ _ he]
    exact hc.rep (hs.tmps i)
theorem liesAt_from {e : TypeId} (hc : Try.prog.cellsOf e = 1) (count off m : Nat) (hm : off + m ≤ count) : liesAt Try.prog Try.prog.depth e count off e m = true := by
  have hd : Try.prog.depth = (2 * (Try.prog.types.size + Made.depth) + 1) + 1 := rfl
  rw [hd]
  simp only [liesAt, Bool.or_eq_true]
  left
  rw [hd]
  simp [rowAt, hc, hm, sameLayout, Nat.mod_one]
theorem run_unsafeString_at {w : World} (pt it ty e : TypeId) (hp : Try.prog.underlying pt = some (.pointer e)) (hc : Try.prog.cellsOf e = 1) (g off cells : Nat) (hsh : w.shape? g = some (e, cells)) (l : List UInt8) (h0 : l ≠ []) (hn : off + l.length ≤ cells) (h63 : l.length ≤ 9223372036854775807)
    (hcell : ∀ j x, l[j]? = some x → w.cell? ((⟨g, off, none⟩ : Addr).add j) = some (.int .u8 x.toNat)) :
    (Builtin.unsafeString_ #[pt, it] ty #[.pointer (some ⟨g, off, none⟩), .int .i64 l.length]).run Try.prog w = .ok (.string ⟨l.toArray⟩) (w.freeze ⟨g, off, none⟩ l.length) := by
  have hl : l.length ≠ 0 := by simpa using h0
  have hlb := Lib.run_loadBytes (P := Try.prog) w l ⟨g, off, none⟩ .empty hcell
  have hlies := liesAt_from hc (cells / Try.prog.cellsOf e) off l.length (by rw [hc]; simpa using hn)
  have hmax : IntKind.i64.max = 9223372036854775807 := rfl
  have h63' : ¬ (9223372036854775807 : Int) < (l.length : Int) := by omega
  have hneg : ¬ (l.length : Int) < 0 := by omega
  obtain ⟨m, hdef⟩ : ∃ m, Builtin.unsafeString_ #[pt, it] ty #[.pointer (some ⟨g, off, none⟩), .int .i64 l.length] = (do
      let k ← asInt (.int .i64 l.length)
      if k < 0 then runtimePanic (.error m)
      if k > IntKind.i64.max then unsupported (.unsafePointer "String: a length above the largest int")
      if k = 0 then pure (.string .empty)
      else if ← variablesAt ⟨g, off, none⟩ (← elemOf pt) k.toNat then do
        let r ← loadBytes ⟨g, off, none⟩ .empty k.toNat
        freeze ⟨g, off, none⟩ k.toNat
        pure (.string r)
      else unsupported (.unsafePointer "String: not so many bytes at ptr")) := ⟨_, rfl⟩
  rw [hdef]
  simp [asInt, asIntOf, hmax, h63', hneg, hl, variablesAt, hsh, elemOf, run_underlying hp, hlies, hlb]
theorem freeze_other {w : World} {g off k b : Nat} (h : b ≠ g) : (w.freeze ⟨g, off, none⟩ k).heap[b]? = w.heap[b]? := by
  unfold World.freeze
  split
  · rfl
  · simp only [Array.getElem?_modify]
    rw [if_neg (fun e => h e.symm)]
theorem freeze_size {w : World} {g off k : Nat} : (w.freeze ⟨g, off, none⟩ k).heap.size = w.heap.size := by
  unfold World.freeze
  split
  · rfl
  · simp
theorem Sim.rowT {w : World} {φ : PMap} {Λ : Lent} {a : Act} (hs : Sim n w φ Λ s a) {id T e v : Nat} {cells : List AV} (hob : s.h id = some (.grow (some T) cells e v)) (hp : 0 < cells.length) :
    ∃ l b oo arr lo hi, φ id = some l ∧ l.ver = v ∧ l.bo = some (b, oo) ∧ w.heap[b]? = some (.cells arr T (lo, hi)) ∧ oo + cells.length ≤ arr.size ∧ CellsRep w φ Λ arr oo cells := by
  obtain ⟨l, hl, h0, hor⟩ := hs.hs.heap id _ hob
  rcases hor with ⟨_, h⟩ | ⟨b, o, arr, T', lo, hi, g1, g2, g3, g4, g5⟩
  · rw [h] at hp; cases hp
  · exact ⟨l, b, o, arr, lo, hi, hl, h0, g1, g2, g4, g5⟩
theorem q_sliceData {x : Operand} {tys : Array TypeId} {id T v : Nat} {l : List UInt8} (ho : o.op = .call { callee := .builtin .unsafeSliceData, args := #[x], argTypes := tys } := by exact rfl)
    (hx : s.ev x = .sl id v 0 l.length 1 := by exact rfl) (hob : s.h id = some (.grow (some T) (cl bc l) 1 v) := by exact rfl) (hl : 0 < l.length := by assumption)
    (hdd : o.dst = d := by conv => lhs; whnf) (hd : d.all (Nat.blt · n) = true := by exact rfl) : OpOk Try.prog n o s (s.put d (.ptr id v 0)) :=
  .val hdd hd fun Λ w φ a hs => by
    obtain ⟨l1, b, oo, arr, lo, hi, g1, g2, g3, g4, g5, g6⟩ := hs.rowT hob (by rw [bs_length]; exact hl)
    have hr := hs.ev x
    rw [hx] at hr
    generalize hv : a.eval x = xv at hr
    generalize hm : l.length = m at hr hl
    cases hr with
    | slx e1 e2 => rw [g1] at e1; cases e1; omega
    | sl0 e1 e2 => omega
    | @sl _ _ _ _ _ _ b' o' cap arr' T' mk e1 e2 e3 e4 e5 e6 =>
      rw [g1] at e1
      cases e1
      refine ⟨.pointer (some ⟨b', o' + 0, none⟩), ?_, .ptr g1 g2 e3⟩
      have h := Lib.run_unsafeSliceData_row (P := Try.prog) w tys o.type ⟨b', o' + 0, none⟩ m cap (by omega)
      simp only [Nat.add_zero] at h
      simp [execOp, ho, resolve, invoke, builtin, hv, h]
theorem q_unsafeStr {x y : Operand} {pt it : TypeId} {id T v : Nat} {l : List UInt8} (ho : o.op = .call { callee := .builtin .unsafeString, args := #[x, y], argTypes := #[pt, it] } := by exact rfl) (hx : s.ev x = .ptr id v 0 := by exact rfl) (hy : s.ev y = i64 l.length := by exact rfl)
    (hob : s.h id = some (.grow (some T) (cl bc l) 1 v) := by exact rfl) (hl : 0 < l.length := by assumption) (hp : Try.prog.underlying pt = some (.pointer T) := by kernel_rfl) (hc : Try.prog.cellsOf T = 1 := by kernel_rfl) (h63 : l.length ≤ 9223372036854775807 := by omega)
    (hdd : o.dst = d := by conv => lhs; whnf) (hd : d.all (Nat.blt · n) = true := by exact rfl) :
    OpOk Try.prog n o s ((s.seth id (some (.grow (some T) (cl bc []) 1 (v + 1)))).put d (str l)) :=
  .chg hdd hd fun Λ w φ a hs => by
    obtain ⟨l1, b, oo, arr, lo, hi, g1, g2, g3, g4, g5, g6⟩ := hs.rowT hob (by rw [bs_length]; exact hl)
    rw [bs_length] at g5
    have hr := hs.ev x
    rw [hx] at hr
    generalize hv : a.eval x = xv at hr
    cases hr with
    | ptrx e1 e2 => rw [g1] at e1; cases e1; omega
    | ptr e1 e2 e3 =>
      rw [g1] at e1
      cases e1
      rw [g3] at e3
      cases e3
      have hcell : ∀ j x, l[j]? = some x → w.cell? ((⟨b, oo, none⟩ : Addr).add j) = some (.int .u8 x.toNat) := by
        intro j x hj
        obtain ⟨q, q1, q2⟩ := g6 j (u8 x.toNat) (by rw [bs_map, List.getElem?_map, hj]; rfl)
        cases q2
        rw [Addr.add_lit]
        simp [World.cell?, g4, q1]
      have hrun := run_unsafeString_at (w := w) pt it o.type T hp hc b oo arr.size (by simp [World.shape?, g4]) l (fun e => by rw [e] at hl; cases hl) g5 h63 hcell
      refine ⟨.value (.string ⟨l.toArray⟩), w.freeze ⟨b, oo, none⟩ l.length, ⟨none, v + 1⟩, ?_, ?_, ⟨rfl, .inl ⟨rfl, rfl⟩⟩, .string ⟨l.toArray⟩, .inl rfl, .v⟩
      · simp [execOp, ho, resolve, invoke, builtin, hv, ev_v hs hy, hrun]
      · refine ⟨hs.hs, by rw [freeze_size]; exact Nat.le_refl _, ?_, ?_, ?_, fun k hk hne => freeze_other (hne l1 b oo g1 g3), (fun b' o' hb' => by cases hb'), fun l2 hl2 => ?_, fun l2 hl2 he => ?_⟩
        · unfold World.freeze; split <;> rfl
        · unfold World.freeze; split <;> rfl
        · unfold World.freeze; split <;> rfl
        · rw [g1] at hl2; cases hl2; exact .inr (by show l1.ver < v + 1; omega)
        · rw [g1] at hl2; cases hl2; rw [← he] at g2; simp at g2
end
end Go.Proofs.Ytfojdjlhpejbpaa.Fw


