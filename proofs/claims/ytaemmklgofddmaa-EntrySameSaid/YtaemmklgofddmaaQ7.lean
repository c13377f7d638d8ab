/- Q7: operations whose guard was passed by. -/
import Derived.Test.YtaemmklgofddmaaQ6
set_option linter.unusedVariables false
set_option linter.unusedSimpArgs false
namespace Go.Proofs.Ytaemmklgofddmaa.Fw
open Go.RowKit
theorem Sim.yielded_no {n : Nat} {ops : Array Oper} {s : AS} {w : World} {φ : PMap} {Λ : Lent} {a : Act} (hs : Sim n w φ Λ s a) {j : Nat} {oj : Oper} {d : Nat} (hj : ops[j]? = some oj) (hd : oj.dst = some d)
    (hb : s.t d = .v undef) : Go.yielded ops a.tmps j = none := by
  have h := hs.tmps d
  rw [hb] at h
  generalize hv : a.tmps.getD d undef = v at h
  cases h
  simp only [Go.yielded, hj, Option.bind_some, hd]
  cases hx : a.tmps[d]? with
  | none => rfl
  | some y =>
    rw [Array.getD_eq_getD_getElem?, hx] at hv
    simp only [Option.getD_some] at hv
    rw [hv]
    rfl
/-- The operation is passed by, as its guard was. -/
theorem AOps.gskipu {P : Program} {n : Nat} {ops : Array Oper} {Q : APost} {s : AS} {i : Nat} {rest : List Nat} {o : Oper} {j : Nat} {want : Bool} {oj : Oper} {d : Nat} {dd : Option Tmp} (ho : ops[i]? = some o) (hg : o.guard = some (j, want)) (hj : ops[j]? = some oj)
    (hd : oj.dst = some d) (hb : s.t d = .v undef) (hdd : o.dst = dd) (hn : dd.all (Nat.blt · n) = true) (hr : AOps P n ops Q rest (s.put dd (.v undef))) :
    AOps P n ops Q (i :: rest) s := by
  intro Λ w φ a hs QQ hQ
  have hy := hs.yielded_no hj hd hb
  have hw : ((none : Option Bool) == some want) = false := rfl
  simp only [wpOps, ho, Region.wanted, hg, hy, hw, Bool.false_eq_true, if_false]
  subst hdd
  exact hr Λ w φ _ (hs.put o.dst hn .v) QQ hQ
theorem OpAt.gskipu {P : Program} {n : Nat} {ops : Array Oper} {i : Nat} {o : Oper} {s : AS} {j : Nat} {want : Bool} {oj : Oper} {d : Nat} {dd : Option Tmp} (ho : ops[i]? = some o) (hg : o.guard = some (j, want)) (hj : ops[j]? = some oj)
    (hd : oj.dst = some d) (hb : s.t d = .v undef) (hdd : o.dst = dd) (hn : dd.all (Nat.blt · n) = true) : OpAt P n ops i s (s.put dd (.v undef)) := by
  intro Λ w φ a hs K QQ hK
  have hy := hs.yielded_no hj hd hb
  have hw : ((none : Option Bool) == some want) = false := rfl
  simp only [wpOp, ho, Region.wanted, hg, hy, hw, Bool.false_eq_true, if_false]
  subst hdd
  exact hK w φ _ (hs.put o.dst hn .v) (Goes.refl _ _)
theorem or256 {a b : Int} (ha : 0 ≤ a) (hb : 0 ≤ b ∧ b < 256) : (((a * 2 ^ 8).toNat ||| b.toNat : Nat) : Int) = a * 256 + b := by
  have e : (a * 2 ^ 8).toNat = 2 ^ 8 * a.toNat := by omega
  rw [e, ← Nat.two_pow_add_eq_or_of_lt (by omega : b.toNat < 2 ^ 8) a.toNat]
  omega
/-- A number with a byte behind. -/
theorem q_orb {n : Nat} {s : AS} {o : Oper} {d : Option Tmp} {t u : TypeId} {x y : Operand} {a b : Int} (ho : o.op = .binOp .or t x y u := by exact rfl) (hx : s.ev x = i64 (a * 2 ^ 8) := by exact rfl) (hy : s.ev y = i64 b := by exact rfl)
    (ha : 0 ≤ a ∧ a ≤ 36028797018963967 := by first | omega | decide | (simp; omega)) (hb : 0 ≤ b ∧ b < 256 := by first | omega | decide | (simp; omega))
    (hdd : o.dst = d := by conv => lhs; whnf) (hd : d.all (Nat.blt · n) = true := by exact rfl) : OpOk Try.prog n o s (s.put d (i64 (a * 256 + b))) := by
  rw [← or256 ha.1 hb]
  exact q_or ho hx hy (by omega) (by omega) hdd hd
end Go.Proofs.Ytaemmklgofddmaa.Fw
