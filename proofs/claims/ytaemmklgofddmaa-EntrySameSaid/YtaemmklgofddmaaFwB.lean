/- Fw2: abstract states, and the rules of control over them; no condition. -/
import Derived.Test.YtaemmklgofddmaaFwA
import Derived.Deep.LoopGhost
set_option linter.unusedVariables false
namespace Go.Proofs.Ytaemmklgofddmaa.Fw
open Go.RowKit

inductive AObj where
  | box (cells : List AV)
  | row (cells : List AV) (esz ver : Nat)
  | map (es : List (Value × AV))
  deriving Inhabited

structure AS where
  t : Nat → AV
  h : Nat → Option AObj

def AS.ev (s : AS) : Operand → AV
  | .tmp t => s.t t
  | .const x => .v x
  | .global g => .v (.pointer (some ⟨g, 0, none⟩))
  | .func f => .fn (.func f) [] []

/-- A map with one place changed. -/
def upd {α : Type} (f : Nat → α) (k : Nat) (x : α) : Nat → α := fun i => bif Nat.beq i k then x else f i
theorem upd_same {α : Type} (f : Nat → α) (k : Nat) (x : α) : upd f k x k = x := by simp [upd]
theorem upd_other {α : Type} (f : Nat → α) (k i : Nat) (x : α) (h : i ≠ k) : upd f k x i = f i := by
  have : Nat.beq i k = false := by
    cases hb : Nat.beq i k with
    | false => rfl
    | true => exact absurd (Nat.eq_of_beq_eq_true hb) h
  simp [upd, this]

def AS.put (s : AS) : Option Tmp → AV → AS
  | none, _ => s
  | some d, x => { s with t := upd s.t d x }
def AS.seth (s : AS) (id : Nat) (o : Option AObj) : AS := { s with h := upd s.h id o }

def CellsRep (w : World) (φ : PMap) (Λ : Lent) (arr : Array Value) (o : Nat) (cells : List AV) : Prop :=
  ∀ j c, cells[j]? = some c → ∃ v, arr[o + j]? = some v ∧ Rep w φ Λ c v

def ObjRep (w : World) (φ : PMap) (Λ : Lent) : AObj → Loc → Prop
  | .box cells, l => ∃ b arr T, l.bo = some (b, 0) ∧ l.ver = 0 ∧ w.heap[b]? = some (.cells arr T (0, 0)) ∧ arr.size = cells.length ∧ CellsRep w φ Λ arr 0 cells
  | .row cells esz ver, l => l.ver = ver ∧ ((l.bo = none ∧ cells = []) ∨ ∃ b o arr T lo hi, l.bo = some (b, o) ∧ w.heap[b]? = some (.cells arr T (lo, hi)) ∧
      (arr.size ≤ lo ∨ hi ≤ lo) ∧ o + cells.length ≤ arr.size ∧ CellsRep w φ Λ arr o cells)
  | .map es, l => ∃ b ents clock, l.bo = some (b, 0) ∧ l.ver = 0 ∧ w.heap[b]? = some (.map ents clock) ∧ ents.size = es.length ∧
      ∀ (j : Nat) (p : Value × AV), es[j]? = some p → ∃ e : MapEntry, ents[j]? = some e ∧ e.key = p.1 ∧ Rep w φ Λ p.2 e.val

structure HSim (w : World) (φ : PMap) (Λ : Lent) (h : Nat → Option AObj) : Prop where
  heap : ∀ id ob, h id = some ob → ∃ l, φ id = some l ∧ ObjRep w φ Λ ob l
  dom : ∀ id, h id = none → φ id = none
  lt : ∀ id l b o, φ id = some l → l.bo = some (b, o) → b < w.heap.size ∧ ∀ k, ¬ Λ k b
  inj : ∀ id id' l l' b o o', φ id = some l → φ id' = some l' → l.bo = some (b, o) → l'.bo = some (b, o') → id = id'
  lent : ∀ k b, Λ k b → b < w.heap.size

structure Sim (n : Nat) (w : World) (φ : PMap) (Λ : Lent) (s : AS) (a : Act) : Prop where
  defs : a.defers = []
  size : a.tmps.size = n
  tmps : ∀ i, Rep w φ Λ (s.t i) (a.tmps.getD i undef)
  hs : HSim w φ Λ s.h

theorem Sim.ev {n : Nat} {w : World} {φ : PMap} {Λ : Lent} {s : AS} {a : Act} (h : Sim n w φ Λ s a) (x : Operand) : Rep w φ Λ (s.ev x) (a.eval x) := by
  cases x with
  | tmp t => exact h.tmps t
  | const v => exact .v
  | global g => exact .v
  | func f => exact .fn (fun _ => undef) (fun _ => undef) rfl (fun j hj => by simp at hj) (fun j c hc => by simp at hc) rfl (fun j hj => by simp at hj) (fun j c hc => by simp at hc)

theorem Sim.put {n : Nat} {w : World} {φ : PMap} {Λ : Lent} {s : AS} {a : Act} (h : Sim n w φ Λ s a) (d : Option Tmp) (hd : (d.all (Nat.blt · n)) = true) {x : AV} {v : Value}
    (hx : Rep w φ Λ x v) : Sim n w φ Λ (s.put d x) (a.put d v) := by
  cases d with
  | none => exact h
  | some d =>
    have hd' : d < n := by
      simp only [Option.all_some] at hd
      exact Nat.blt_eq.mp hd
    refine ⟨h.defs, by simp [Act.put, h.size], fun i => ?_, h.hs⟩
    simp only [AS.put, Act.put]
    by_cases hi : i = d
    · subst hi
      rw [upd_same]
      have : (a.tmps.setIfInBounds i v).getD i undef = v := by simp [Array.getD, h.size, hd']
      rw [this]
      exact hx
    · rw [upd_other _ _ _ _ hi]
      have : (a.tmps.setIfInBounds d v).getD i undef = a.tmps.getD i undef := by
        simp only [Array.getD_eq_getD_getElem?, Array.getElem?_setIfInBounds]
        rw [if_neg (fun e => hi e.symm)]
      rw [this]
      exact h.tmps i

/-- Abstract exits. -/
inductive AExit where
  | normal
  | exit (id : Nat)
  | goto (l : Nat)
  | ret
  | panic (x : Value)
def AExit.conc : AExit → Exit
  | .normal => .normal
  | .exit id => .exit id
  | .goto l => .goto l
  | .ret => .ret
  | .panic x => .panic [{ v := x, recovered := false }]

abbrev APost := AExit → AS → Prop

/-- A piece of code, from an abstract state on. -/
def AWp (P : Program) (n : Nat) (c : Code) (Q : APost) (s : AS) : Prop :=
  ∀ Λ w φ a, Sim n w φ Λ s a → ∀ QQ : Exit → Act → World → Prop,
    (∀ ae s' w' φ' a', Q ae s' → Sim n w' φ' Λ s' a' → Goes w φ w' φ' → QQ ae.conc a' w') → c.wp P QQ a w

def AOps (P : Program) (n : Nat) (ops : Array Oper) (Q : APost) (l : List Nat) (s : AS) : Prop :=
  ∀ Λ w φ a, Sim n w φ Λ s a → ∀ QQ : Exit → Act → World → Prop,
    (∀ ae s' w' φ' a', Q ae s' → Sim n w' φ' Λ s' a' → Goes w φ w' φ' → QQ ae.conc a' w') → wpOps P ops QQ l a w

/-- An operation that leads from a state to another one. -/
def OpOk (P : Program) (n : Nat) (o : Oper) (s s' : AS) : Prop :=
  ∀ Λ w φ a, Sim n w φ Λ s a → ∀ (next : Act → World → Prop) (QQ : Exit → Act → World → Prop),
    (∀ w' φ' a', Sim n w' φ' Λ s' a' → Goes w φ w' φ' → next a' w') → o.wp P a w next QQ

section rules
variable {P : Program} {n : Nat} {Q : APost} {s : AS}

theorem AWp.mono {c : Code} {Q' : APost} (h : AWp P n c Q s) (hq : ∀ e s, Q e s → Q' e s) : AWp P n c Q' s :=
  fun Λ w φ a hs QQ hQ => h Λ w φ a hs QQ fun ae s' w' φ' a' q => hQ ae s' w' φ' a' (hq _ _ q)

theorem AWp.skip (h : Q .normal s) : AWp P n .skip Q s := fun _ w φ a hs _ hQ => wp_skip (hQ .normal s w φ a h hs (Goes.refl _ _))
theorem AWp.label {l : Nat} (h : Q .normal s) : AWp P n (.label l) Q s := fun _ w φ a hs _ hQ => wp_label (hQ .normal s w φ a h hs (Goes.refl _ _))
theorem AWp.exit {id : Nat} (h : Q (.exit id) s) : AWp P n (.exit id) Q s := fun _ w φ a hs _ hQ => wp_exit (hQ (.exit id) s w φ a h hs (Goes.refl _ _))
theorem AWp.goto {l : Nat} (h : Q (.goto l) s) : AWp P n (.goto l) Q s := fun _ w φ a hs _ hQ => wp_goto (hQ (.goto l) s w φ a h hs (Goes.refl _ _))
theorem AWp.ret (h : Q .ret s) : AWp P n .ret Q s := fun _ w φ a hs _ hQ => wp_ret (hQ .ret s w φ a h hs (Goes.refl _ _))

def AExit.then (next : AS → Prop) (Q : APost) : APost
  | .normal, s => next s
  | e, s => Q e s

theorem AWp.seq {x y : Code} (h : AWp P n x (AExit.then (AWp P n y Q) Q) s) : AWp P n (.seq x y) Q s := by
  intro Λ w φ a hs QQ hQ
  refine wp_seq (h Λ w φ a hs _ ?_)
  intro ae s' w' φ' a' q hs' g
  cases ae with
  | normal => exact q Λ w' φ' a' hs' QQ fun ae s2 w2 φ2 a2 q2 hs2 g2 => hQ ae s2 w2 φ2 a2 q2 hs2 (g.trans g2)
  | exit id => exact hQ _ s' w' φ' a' q hs' g
  | goto l => exact hQ _ s' w' φ' a' q hs' g
  | ret => exact hQ _ s' w' φ' a' q hs' g
  | panic v => exact hQ _ s' w' φ' a' q hs' g

theorem AWp.cond {c : Operand} {x y : Code} {b : Bool} (hc : s.ev c = .v (.bool b)) (ht : b = true → AWp P n x Q s) (hf : b = false → AWp P n y Q s) : AWp P n (.cond c x y) Q s := by
  intro Λ w φ a hs QQ hQ
  have he := hs.ev c
  rw [hc] at he
  generalize hv : a.eval c = v at he
  cases he
  exact wp_cond_split hv (fun e => ht e Λ w φ a hs QQ hQ) (fun e => hf e Λ w φ a hs QQ hQ)

theorem AWp.cond_any {c : Operand} {x y : Code} (hc : s.ev c = .bl) (ht : AWp P n x Q s) (hf : AWp P n y Q s) : AWp P n (.cond c x y) Q s := by
  intro Λ w φ a hs QQ hQ
  have he := hs.ev c
  rw [hc] at he
  generalize hv : a.eval c = v at he
  cases he
  exact wp_cond_split hv (fun e => ht Λ w φ a hs QQ hQ) (fun e => hf Λ w φ a hs QQ hQ)

def AExit.inBlock (id : Nat) (Q : APost) : APost
  | .exit id', s => if id' = id then Q .normal s else Q (.exit id') s
  | e, s => Q e s

theorem AWp.block {id : Nat} {c : Code} (h : AWp P n c (AExit.inBlock id Q) s) : AWp P n (.block id c) Q s := by
  intro Λ w φ a hs QQ hQ
  refine wp_block (h Λ w φ a hs _ ?_)
  intro ae s' w' φ' a' q hs' g
  cases ae with
  | normal => exact hQ .normal s' w' φ' a' q hs' g
  | exit id' =>
    simp only [AExit.inBlock] at q
    simp only [AExit.conc, Exit.inBlock]
    split at q
    · rename_i e
      rw [if_pos e]
      exact hQ .normal s' w' φ' a' q hs' g
    · rename_i e
      rw [if_neg e]
      exact hQ (.exit id') s' w' φ' a' q hs' g
  | goto l => exact hQ _ s' w' φ' a' q hs' g
  | ret => exact hQ _ s' w' φ' a' q hs' g
  | panic v => exact hQ _ s' w' φ' a' q hs' g

/-- A state says less than another one. -/
def Weak (s s' : AS) : Prop := ∀ n Λ w φ a, Sim n w φ Λ s a → ∃ φ', Sim n w φ' Λ s' a ∧ Goes w φ w φ'

theorem Weak.refl (s : AS) : Weak s s := fun _ _ w φ _ h => ⟨φ, h, Goes.refl w φ⟩

theorem AWp.weak {c : Code} {s' : AS} (hw : Weak s s') (h : AWp P n c Q s') : AWp P n c Q s := by
  intro Λ w φ a hs QQ hQ
  obtain ⟨φ1, hs1, g1⟩ := hw n Λ w φ a hs
  exact h Λ w φ1 a hs1 QQ fun ae s2 w2 φ2 a2 q2 hs2 g2 => hQ ae s2 w2 φ2 a2 q2 hs2 (g1.trans g2)

theorem AWp.loop {α : Type} {c : Code} (S : α → AS) (μ : α → Nat) (x0 : α) (h0 : Weak s (S x0))
    (round : ∀ x, AWp P n c (AExit.then (fun s' => ∃ x', Weak s' (S x') ∧ μ x' < μ x) Q) (S x)) : AWp P n (.loop c) Q s := by
  intro Λ w φ a hs QQ hQ
  obtain ⟨φ0, hs0, g0⟩ := h0 n Λ w φ a hs
  let I : Nat → Act → World → Prop := fun m a' w' => ∃ x φ', μ x = m ∧ Sim n w' φ' Λ (S x) a' ∧ Goes w φ w' φ'
  refine wp_loop_ghost I (μ x0) ⟨x0, φ0, rfl, hs0, g0⟩ ?_
  rintro m a' w' ⟨x, φ', hm, hs', g⟩
  refine round x Λ w' φ' a' hs' _ ?_
  intro ae s2 w2 φ2 a2 q2 hs2 g2
  cases ae with
  | normal =>
    obtain ⟨x', hw', hlt⟩ := q2
    obtain ⟨φ3, hs3, g3⟩ := hw' n Λ w2 φ2 a2 hs2
    exact ⟨μ x', by omega, x', φ3, rfl, hs3, (g.trans g2).trans g3⟩
  | exit id => exact hQ _ s2 w2 φ2 a2 q2 hs2 (g.trans g2)
  | goto l => exact hQ _ s2 w2 φ2 a2 q2 hs2 (g.trans g2)
  | ret => exact hQ _ s2 w2 φ2 a2 q2 hs2 (g.trans g2)
  | panic v => exact hQ _ s2 w2 φ2 a2 q2 hs2 (g.trans g2)

end rules
end Go.Proofs.Ytaemmklgofddmaa.Fw
