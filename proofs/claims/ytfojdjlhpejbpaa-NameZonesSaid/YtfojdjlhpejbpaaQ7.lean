/- Q7: operations whose guard was passed by. -/
import Derived.Test.YtfojdjlhpejbpaaQ6
set_option linter.unusedVariables false
set_option linter.unusedSimpArgs false
namespace Go.Proofs.Ytfojdjlhpejbpaa.Fw
open Go.RowKit
theorem Sim.yielded_no {n : Nat} {ops : Array Oper} {s : AS} {w : World} {φ : PMap} {Λ : Lent} {a : Act} (hs : Sim n w φ Λ s a) {j : Nat} {oj : Oper} {d : Nat} (hj : ops[j]? = some oj) (hd : oj.dst = some d)
    (hb : s.t d = .v undef) : Go.yielded ops a.tmps j = none := by
  have h := hs.tmps d
  rw [hb] at h
  generalize hv : a.tmps.getD d undef = v at h
  cases h
  simp only [Go.yielded, hj, Option.bind_some, hd]
  cases hx : a.tmps[d]? with
  | none => rfl
  | some y =>
    rw [Array.getD_eq_getD_getElem?, hx] at hv
    simp only [Option.getD_some] at hv
    rw [hv]
    rfl
/-- The operation is passed by, as its guard was. -/
theorem AOps.gskipu {P : Program} {n : Nat} {ops : Array Oper} {Q : APost} {s : AS} {i : Nat} {rest : List Nat} {o : Oper} {j : Nat} {want : Bool} {oj : Oper} {d : Nat} {dd : Option Tmp} (ho : ops[i]? = some o) (hg : o.guard = some (j, want)) (hj : ops[j]? = some oj)
    (hd : oj.dst = some d) (hb : s.t d = .v undef) (hdd : o.dst = dd) (hn : dd.all (Nat.blt · n) = true) (hr : AOps P n ops Q rest (s.put dd (.v undef))) :
    AOps P n ops Q (i :: rest) s := by
  intro Λ w φ a hs QQ hQ
  have hy := hs.yielded_no hj hd hb
  have hw : ((none : Option Bool) == some want) = false := rfl
  simp only [wpOps, ho, Region.wanted, hg, hy, hw, Bool.false_eq_true, if_false]
  subst hdd
  exact hr Λ w φ _ (hs.put o.dst hn .v) QQ hQ
theorem OpAt.gskipu {P : Program} {n : Nat} {ops : Array Oper} {i : Nat} {o : Oper} {s : AS} {j : Nat} {want : Bool} {oj : Oper} {d : Nat} {dd : Option Tmp} (ho : ops[i]? = some o) (hg : o.guard = some (j, want)) (hj : ops[j]? = some oj)
    (hd : oj.dst = some d) (hb : s.t d = .v undef) (hdd : o.dst = dd) (hn : dd.all (Nat.blt · n) = true) : OpAt P n ops i s (s.put dd (.v undef)) := by
  intro Λ w φ a hs K QQ hK
  have hy := hs.yielded_no hj hd hb
  have hw : ((none : Option Bool) == some want) = false := rfl
  simp only [wpOp, ho, Region.wanted, hg, hy, hw, Bool.false_eq_true, if_false]
  subst hdd
  exact hK w φ _ (hs.put o.dst hn .v) (Goes.refl _ _)
end Go.Proofs.Ytfojdjlhpejbpaa.Fw
