/- Fw5: regions in their own order, and operations that compute values; no condition. -/
import Derived.Test.YtaemmklgofddmaaFwD
set_option linter.unusedVariables false
set_option linter.unusedSimpArgs false
namespace Go.Proofs.Ytaemmklgofddmaa.Fw
open Go.RowKit

/-- A string of bytes. -/
abbrev str (l : List UInt8) : AV := .v (.string ⟨⟨l⟩⟩)
abbrev i64 (x : Int) : AV := .v (.int .i64 x)
abbrev u8 (x : Int) : AV := .v (.int .u8 x)
abbrev tf (b : Bool) : AV := .v (.bool b)

section rules
variable {P : Program} {n : Nat} {Q : APost} {s : AS} {ops : Array Oper}

theorem AOps.nil (h : Q .normal s) : AOps P n ops Q [] s := fun _ w φ a hs _ hQ => hQ .normal s w φ a h hs (Goes.refl _ _)

theorem AOps.cons {i : Nat} {rest : List Nat} {o : Oper} {s' : AS} (ho : ops[i]? = some o) (hg : o.guard = none) (h : OpOk P n o s s') (hr : AOps P n ops Q rest s') :
    AOps P n ops Q (i :: rest) s := by
  intro Λ w φ a hs QQ hQ
  simp only [wpOps, ho, Region.wanted, hg, if_true]
  exact .inl (h Λ w φ a hs _ _ fun w' φ' a' hs' g => hr Λ w' φ' a' hs' QQ fun ae s2 w2 φ2 a2 q2 hs2 g2 => hQ ae s2 w2 φ2 a2 q2 hs2 (g.trans g2))

theorem Sim.yielded {w : World} {φ : PMap} {Λ : Lent} {a : Act} (hs : Sim n w φ Λ s a) {j : Nat} {oj : Oper} {d : Nat} {b : Bool} (hj : ops[j]? = some oj) (hd : oj.dst = some d)
    (hb : s.t d = tf b) : Go.yielded ops a.tmps j = some b := by
  have h := hs.tmps d
  rw [hb] at h
  generalize hv : a.tmps.getD d undef = v at h
  cases h
  simp only [Go.yielded, hj, Option.bind_some, hd]
  cases hx : a.tmps[d]? with
  | none =>
    rw [Array.getD_eq_getD_getElem?, hx] at hv
    simp [undef] at hv
  | some y =>
    rw [Array.getD_eq_getD_getElem?, hx] at hv
    simp only [Option.getD_some] at hv
    rw [hv]

theorem AOps.gcons {i : Nat} {rest : List Nat} {o : Oper} {s' : AS} {j : Nat} {want : Bool} {oj : Oper} {d : Nat} (ho : ops[i]? = some o) (hg : o.guard = some (j, want)) (hj : ops[j]? = some oj)
    (hd : oj.dst = some d) (hb : s.t d = tf want) (h : OpOk P n o s s') (hr : AOps P n ops Q rest s') : AOps P n ops Q (i :: rest) s := by
  intro Λ w φ a hs QQ hQ
  have hy := hs.yielded hj hd hb
  simp only [wpOps, ho, Region.wanted, hg, hy, beq_self_eq_true, if_true]
  exact .inl (h Λ w φ a hs _ _ fun w' φ' a' hs' g => hr Λ w' φ' a' hs' QQ fun ae s2 w2 φ2 a2 q2 hs2 g2 => hQ ae s2 w2 φ2 a2 q2 hs2 (g.trans g2))

/-- The operation is passed by. -/
theorem AOps.gskip {i : Nat} {rest : List Nat} {o : Oper} {j : Nat} {want b : Bool} {oj : Oper} {d : Nat} {dd : Option Tmp} (ho : ops[i]? = some o) (hg : o.guard = some (j, want)) (hj : ops[j]? = some oj)
    (hd : oj.dst = some d) (hb : s.t d = tf b) (hne : (b == want) = false) (hdd : o.dst = dd) (hn : dd.all (Nat.blt · n) = true) (hr : AOps P n ops Q rest (s.put dd (.v undef))) :
    AOps P n ops Q (i :: rest) s := by
  intro Λ w φ a hs QQ hQ
  have hy := hs.yielded hj hd hb
  have hw : (some b == some want) = false := by simpa using hne
  simp only [wpOps, ho, Region.wanted, hg, hy, hw, Bool.false_eq_true, if_false]
  subst hdd
  exact hr Λ w φ _ (hs.put o.dst hn .v) QQ hQ

theorem AWp.region {id : Nat} (h : AOps P n ops Q (List.range ops.size) s) : AWp P n (.region id ops false) Q s :=
  fun Λ w φ a hs QQ hQ => wp_region (h Λ w φ a hs QQ hQ)

/-- A value is computed. -/
theorem OpOk.val {o : Oper} {d : Option Tmp} {x : AV} (hdd : o.dst = d) (hd : d.all (Nat.blt · n) = true)
    (h : ∀ Λ w φ a, Sim n w φ Λ s a → ∃ y, (execOp a.eval o).run P w = .ok (.value y) w ∧ Rep w φ Λ x y) : OpOk P n o s (s.put d x) := by
  intro Λ w φ a hs next QQ hn
  obtain ⟨y, h1, h2⟩ := h Λ w φ a hs
  subst hdd
  unfold Oper.wp
  rw [h1]
  exact hn w φ _ (hs.put o.dst hd h2) (Goes.refl _ _)

theorem ok_move {o : Oper} {d : Option Tmp} {x : Operand} {y : AV} (ho : o.op = .move x) (hy : s.ev x = y) (hdd : o.dst = d) (hd : d.all (Nat.blt · n) = true) : OpOk P n o s (s.put d y) :=
  .val hdd hd fun Λ w φ a hs => ⟨a.eval x, by simp [execOp, ho], hy ▸ hs.ev x⟩
theorem ok_assign {o : Oper} {d : Option Tmp} {x : Operand} {y : AV} (ho : o.op = .assign x) (hy : s.ev x = y) (hdd : o.dst = d) (hd : d.all (Nat.blt · n) = true) : OpOk P n o s (s.put d y) :=
  .val hdd hd fun Λ w φ a hs => ⟨a.eval x, by simp [execOp, ho], hy ▸ hs.ev x⟩

theorem ev_v {w : World} {φ : PMap} {Λ : Lent} {a : Act} (hs : Sim n w φ Λ s a) {x : Operand} {v : Value} (h : s.ev x = .v v) : a.eval x = v := by
  have := hs.ev x
  rw [h] at this
  generalize a.eval x = y at this
  cases this
  rfl

theorem ok_pick {o : Oper} {d : Option Tmp} {c x y : Operand} {b : Bool} {z : AV} (ho : o.op = .pick c x y) (hc : s.ev c = tf b) (hz : (bif b then s.ev x else s.ev y) = z)
    (hdd : o.dst = d) (hd : d.all (Nat.blt · n) = true) : OpOk P n o s (s.put d z) :=
  .val hdd hd fun Λ w φ a hs => by
    have e := ev_v hs hc
    cases b with
    | true => exact ⟨a.eval x, by simp [execOp, ho, e, asBool], hz ▸ hs.ev x⟩
    | false => exact ⟨a.eval y, by simp [execOp, ho, e, asBool], hz ▸ hs.ev y⟩

/-- What an operator comes to, in every world. -/
def BinRes (P : Program) (op : BinOp) (t : TypeId) (x y : Operand) (a b r : Value) : Prop :=
  ∀ w, (do eqGuard op t x y a b; binOp op t a b : Sem Value).run P w = .ok r w

theorem ok_bin {o : Oper} {d : Option Tmp} {op : BinOp} {t u : TypeId} {x y : Operand} {a b r : Value} (ho : o.op = .binOp op t x y u) (hx : s.ev x = .v a) (hy : s.ev y = .v b)
    (hr : BinRes P op t x y a b r) (hdd : o.dst = d) (hd : d.all (Nat.blt · n) = true) : OpOk P n o s (s.put d (.v r)) :=
  .val hdd hd fun Λ w φ ac hs => ⟨r, by
    have h := hr w
    simp only [Sem.run_bind] at h
    simp only [execOp, ho, ev_v hs hx, ev_v hs hy, Sem.run_bind, h, Result.andThen_ok, Sem.run_pure], .v⟩

section bin
variable {t : TypeId} {x y : Operand} {k : IntKind} {a b : Int}
theorem br_add : BinRes P .add t x y (.int k a) (.int k b) (.int k (k.wrap (a + b))) := fun w => by simp [eqGuard, binOp, Op.intArith]
theorem br_sub : BinRes P .sub t x y (.int k a) (.int k b) (.int k (k.wrap (a - b))) := fun w => by simp [eqGuard, binOp, Op.intArith]
theorem br_mul : BinRes P .mul t x y (.int k a) (.int k b) (.int k (k.wrap (a * b))) := fun w => by simp [eqGuard, binOp, Op.intArith]
theorem br_quo (h : b ≠ 0) : BinRes P .quo t x y (.int k a) (.int k b) (.int k (k.wrap (a.tdiv b))) := fun w => by simp [eqGuard, binOp, Op.intDiv, h]
theorem br_rem (h : b ≠ 0) : BinRes P .rem t x y (.int k a) (.int k b) (.int k (a.tmod b)) := fun w => by simp [eqGuard, binOp, Op.intDiv, h]
theorem br_and : BinRes P .and t x y (.int k a) (.int k b) (.int k (k.wrap (BitVec.ofInt k.bits a &&& BitVec.ofInt k.bits b).toNat)) := fun w => by simp [eqGuard, binOp, Op.intBits]
theorem br_or : BinRes P .or t x y (.int k a) (.int k b) (.int k (k.wrap (BitVec.ofInt k.bits a ||| BitVec.ofInt k.bits b).toNat)) := fun w => by simp [eqGuard, binOp, Op.intBits]
theorem br_xor : BinRes P .xor t x y (.int k a) (.int k b) (.int k (k.wrap (BitVec.ofInt k.bits a ^^^ BitVec.ofInt k.bits b).toNat)) := fun w => by simp [eqGuard, binOp, Op.intBits]
theorem br_shl {k' : IntKind} (h : 0 ≤ b) : BinRes P .shl t x y (.int k a) (.int k' b) (.int k (k.wrap (a * 2 ^ min b.toNat k.bits))) := fun w => by
  have : ¬ b < 0 := by omega
  simp [eqGuard, binOp, Op.shift, this]
theorem br_shr {k' : IntKind} (h : 0 ≤ b) : BinRes P .shr t x y (.int k a) (.int k' b) (.int k (a.fdiv (2 ^ min b.toNat k.bits))) := fun w => by
  have : ¬ b < 0 := by omega
  simp [eqGuard, binOp, Op.shift, this]
theorem br_eql : BinRes P .eql t x y (.int k a) (.int k b) (.bool (a == b)) := fun w => by simp [eqGuard, binOp, Op.intCmp]
theorem br_neq : BinRes P .neq t x y (.int k a) (.int k b) (.bool (a != b)) := fun w => by simp [eqGuard, binOp, Op.intCmp]
theorem br_lss : BinRes P .lss t x y (.int k a) (.int k b) (.bool (decide (a < b))) := fun w => by simp [eqGuard, binOp, Op.intCmp]
theorem br_leq : BinRes P .leq t x y (.int k a) (.int k b) (.bool (decide (a ≤ b))) := fun w => by simp [eqGuard, binOp, Op.intCmp]
theorem br_gtr : BinRes P .gtr t x y (.int k a) (.int k b) (.bool (decide (b < a))) := fun w => by simp [eqGuard, binOp, Op.intCmp]
theorem br_geq : BinRes P .geq t x y (.int k a) (.int k b) (.bool (decide (b ≤ a))) := fun w => by simp [eqGuard, binOp, Op.intCmp]
variable {l m : List UInt8}
theorem toList_mk (l : List UInt8) : (⟨⟨l⟩⟩ : ByteArray).toList = l := by
  rw [ByteArray.toList_eq]
theorem br_seql : BinRes P .eql t x y (.string ⟨⟨l⟩⟩) (.string ⟨⟨m⟩⟩) (.bool (l == m)) := fun w => by simp [eqGuard, binOp, Op.stringOp, toList_mk]
theorem br_sneq : BinRes P .neq t x y (.string ⟨⟨l⟩⟩) (.string ⟨⟨m⟩⟩) (.bool (!(l == m))) := fun w => by simp [eqGuard, binOp, Op.stringOp, toList_mk]
theorem br_slss : BinRes P .lss t x y (.string ⟨⟨l⟩⟩) (.string ⟨⟨m⟩⟩) (.bool (Op.bytesLess l m)) := fun w => by simp [eqGuard, binOp, Op.stringOp, toList_mk]
theorem br_sgtr : BinRes P .gtr t x y (.string ⟨⟨l⟩⟩) (.string ⟨⟨m⟩⟩) (.bool (!(Op.bytesLess l m || l == m))) := fun w => by simp [eqGuard, binOp, Op.stringOp, toList_mk]
theorem br_sadd (h : ((l.length + m.length : Nat) : Int) ≤ 9223372036854775807) : BinRes P .add t x y (.string ⟨⟨l⟩⟩) (.string ⟨⟨m⟩⟩) (.string ⟨⟨l ++ m⟩⟩) := fun w => by
  have h1 : (⟨⟨l⟩⟩ : ByteArray).size = l.length := rfl
  have h2 : (⟨⟨m⟩⟩ : ByteArray).size = m.length := rfl
  have h3 : ¬ ((((⟨⟨l⟩⟩ : ByteArray).size + (⟨⟨m⟩⟩ : ByteArray).size : Nat) : Int) > IntKind.i64.max) := by
    rw [h1, h2]
    have : IntKind.i64.max = 9223372036854775807 := by decide
    omega
  have h4 : (⟨⟨l⟩⟩ : ByteArray) ++ (⟨⟨m⟩⟩ : ByteArray) = ⟨⟨l ++ m⟩⟩ := by
    apply ByteArray.ext
    simp
  have h5 : (eqGuard .add t x y (.string ⟨⟨l⟩⟩) (.string ⟨⟨m⟩⟩)).run P w = .ok () w := by simp [eqGuard]
  simp only [Sem.run_bind, h5, Result.andThen_ok, binOp, Op.stringOp, h3, if_false, h4, Sem.run_pure]
theorem run_equalIn_bool {t : TypeId} (hu : P.underlying t = some .bool) (dd : Nat) (p q : Bool) (w : World) : (Op.equalIn (dd + 1) t (.bool p) (.bool q)).run P w = .ok (p == q) w := by
  simp [Op.equalIn, run_underlying hu]
theorem br_beql {te : TE} (hte : TEok P te) {i : TI} (ht : te.get t = some i) (hk : i.k = .bool) {p q : Bool} : BinRes P .eql t x y (.bool p) (.bool q) (.bool (p == q)) := fun w => by
  have h5 : (eqGuard .eql t x y (.bool p) (.bool q)).run P w = .ok () w := by simp [eqGuard]
  simp only [Sem.run_bind, h5, Result.andThen_ok, binOp, Op.equal, Op.maxDepth, run_equalIn_bool ((hte.tells ht).bool hk) 9999 p q w, Sem.run_pure]
theorem br_bneq {te : TE} (hte : TEok P te) {i : TI} (ht : te.get t = some i) (hk : i.k = .bool) {p q : Bool} : BinRes P .neq t x y (.bool p) (.bool q) (.bool (!(p == q))) := fun w => by
  have h5 : (eqGuard .neq t x y (.bool p) (.bool q)).run P w = .ok () w := by simp [eqGuard]
  simp only [Sem.run_bind, h5, Result.andThen_ok, binOp, Op.equal, Op.maxDepth, run_equalIn_bool ((hte.tells ht).bool hk) 9999 p q w, Sem.run_pure]
end bin

theorem ok_not {o : Oper} {d : Option Tmp} {t : TypeId} {x : Operand} {b : Bool} (ho : o.op = .unOp .not t x) (hx : s.ev x = tf b) (hdd : o.dst = d) (hd : d.all (Nat.blt · n) = true) :
    OpOk P n o s (s.put d (tf (!b))) :=
  .val hdd hd fun Λ w φ a hs => ⟨.bool (!b), by simp [execOp, ho, ev_v hs hx, Op.unary], .v⟩
theorem ok_neg {o : Oper} {d : Option Tmp} {t : TypeId} {x : Operand} {k : IntKind} {a : Int} (ho : o.op = .unOp .neg t x) (hx : s.ev x = .v (.int k a)) (hdd : o.dst = d) (hd : d.all (Nat.blt · n) = true) :
    OpOk P n o s (s.put d (.v (.int k (k.wrap (0 - a))))) :=
  .val hdd hd fun Λ w φ ac hs => ⟨_, by simp [execOp, ho, ev_v hs hx, Op.unary, Op.intArith], .v⟩

theorem ok_conv_int {te : TE} (hte : TEok P te) {o : Oper} {d : Option Tmp} {src dst : TypeId} {x : Operand} {k k' : IntKind} {a : Int} {i j : TI} (ho : o.op = .convert src dst x) (hx : s.ev x = .v (.int k a))
    (hi : te.get src = some i) (hj : te.get dst = some j) (hk : j.k = .int k') (hdd : o.dst = d) (hd : d.all (Nat.blt · n) = true) : OpOk P n o s (s.put d (.v (.int k' (k'.wrap a)))) :=
  .val hdd hd fun Λ w φ ac hs => ⟨_, by
    obtain ⟨ds, h1, _⟩ := (hte.tells hi).desc
    have h2 := (hte.tells hj).int hk
    simp [execOp, ho, ev_v hs hx, convert, run_underlying h1, run_underlying h2, Conv.intToInt], .v⟩
theorem ok_conv_str {te : TE} (hte : TEok P te) {o : Oper} {d : Option Tmp} {src dst : TypeId} {x : Operand} {b : ByteArray} {i j : TI} (ho : o.op = .convert src dst x) (hx : s.ev x = .v (.string b))
    (hi : te.get src = some i) (hj : te.get dst = some j) (hk : j.k = .str) (hdd : o.dst = d) (hd : d.all (Nat.blt · n) = true) : OpOk P n o s (s.put d (.v (.string b))) :=
  .val hdd hd fun Λ w φ ac hs => ⟨_, by
    obtain ⟨ds, h1, _⟩ := (hte.tells hi).desc
    have h2 := (hte.tells hj).str hk
    simp [execOp, ho, ev_v hs hx, convert, run_underlying h1, run_underlying h2], .v⟩

theorem ok_extract {o : Oper} {d : Option Tmp} {x : Operand} {k : Nat} {l : List AV} {y : AV} (ho : o.op = .extract x k) (hx : s.ev x = .tup l) (hk : l[k]? = some y) (hdd : o.dst = d)
    (hd : d.all (Nat.blt · n) = true) : OpOk P n o s (s.put d y) :=
  .val hdd hd fun Λ w φ a hs => by
    have h := hs.ev x
    rw [hx] at h
    generalize hv : a.eval x = v at h
    cases h with
    | tup vf h1 h2 h3 =>
      have hlt : k < l.length := (List.getElem?_eq_some_iff.1 hk).1
      exact ⟨vf k, by simp [execOp, ho, hv, Instr.extract, h2 k hlt], h3 k y hk⟩

theorem ok_nil {o : Oper} {d : Option Tmp} {x : Operand} {y : AV} (ho : o.op = .nilCheck x) (hx : s.ev x = y) (hy : (match y with | .ptr .. | .fp .. => true | _ => false) = true)
    (hdd : o.dst = d) (hd : d.all (Nat.blt · n) = true) : OpOk P n o s (s.put d y) :=
  .val hdd hd fun Λ w φ a hs => by
    have h := hs.ev x
    rw [hx] at h
    generalize hv : a.eval x = v at h
    cases h <;> simp at hy
    · exact ⟨a.eval x, by simp [execOp, ho, hv], hx ▸ hs.ev x⟩
    · exact ⟨a.eval x, by simp [execOp, ho, hv], hx ▸ hs.ev x⟩
    · exact ⟨a.eval x, by simp [execOp, ho, hv], hx ▸ hs.ev x⟩

end rules
end Go.Proofs.Ytaemmklgofddmaa.Fw
