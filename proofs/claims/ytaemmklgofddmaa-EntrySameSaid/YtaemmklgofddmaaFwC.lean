/- Fw3: a table of types, and memory: loads and stores of whole values; no condition. -/
import Derived.Test.YtaemmklgofddmaaFwB
set_option linter.unusedVariables false
namespace Go.Proofs.Ytaemmklgofddmaa.Fw
open Go.RowKit

/-! ### Types -/
inductive ZC where
  | int (k : IntKind) | bool | str | ptr | slice | map | func | iface
def ZC.val : ZC → Value
  | .int k => .int k 0
  | .bool => .bool false
  | .str => .string ⟨#[]⟩
  | .ptr => .pointer none
  | .slice => .slice none 0 0
  | .map => .map none
  | .func => .nilFunc
  | .iface => .nilIface
def ZC.chk : ZC → Value → Bool
  | .int k, .int k' n => k == k' && n == 0
  | .bool, .bool b => !b
  | .str, .string s => s.data.toList.isEmpty
  | .ptr, .pointer none => true
  | .slice, .slice none 0 0 => true
  | .map, .map none => true
  | .func, .nilFunc => true
  | .iface, .nilIface => true
  | _, _ => false
theorem ZC.chk_eq {z : ZC} {v : Value} (h : z.chk v = true) : v = z.val := by
  unfold ZC.chk at h
  split at h <;> simp_all [ZC.val]
  · rename_i s
    obtain ⟨⟨l⟩⟩ := s
    simp at h
    subst h
    rfl

inductive TK where
  | int (k : IntKind) | bool | str
  | slice (e : TypeId) | ptr (e : TypeId) | arr (n : Nat) (e : TypeId)
  | struct (fs : List (Nat × TypeId))
  | map (k e : TypeId) | iface (bare : Bool) | func | other
structure TI where
  k : TK
  size : Nat
  bytes : Nat
  zero : List ZC
def TK.agg : TK → Bool
  | .arr .. | .struct _ => true
  | _ => false
def TK.chk : TK → TypeDesc → Bool
  | .int k, .int k' => k == k'
  | .bool, .bool | .str, .string | .func, .func .. => true
  | .slice e, .slice e' => Nat.beq e e'
  | .ptr e, .pointer e' => Nat.beq e e'
  | .arr n e, .array n' e' => Nat.beq n n' && Nat.beq e e'
  | .struct l, .struct fs => l == fs.toList.map fun f => (f.offset, f.type)
  | .map k e, .map k' e' => Nat.beq k k' && Nat.beq e e'
  | .iface b, .interface ms => ms.isEmpty == b
  | _, _ => false
def zerosChk : List ZC → List Value → Bool
  | [], [] => true
  | z :: zs, v :: vs => z.chk v && zerosChk zs vs
  | _, _ => false
theorem zerosChk_eq : ∀ {zs : List ZC} {vs : List Value}, zerosChk zs vs = true → vs = zs.map ZC.val
  | [], [], _ => rfl
  | z :: zs, v :: vs, h => by
    simp only [zerosChk, Bool.and_eq_true] at h
    rw [ZC.chk_eq h.1, zerosChk_eq h.2]
    rfl
  | [], _ :: _, h => by simp [zerosChk] at h
  | _ :: _, [], h => by simp [zerosChk] at h
def TI.zeroChk (i : TI) (z : Value) : Bool :=
  match z with
  | .agg cs => i.k.agg && zerosChk i.zero cs.toList
  | .tuple _ => false
  | v => !i.k.agg && zerosChk i.zero [v]
def TI.chk (P : Program) (t : TypeId) (i : TI) : Bool :=
  match P.info? t, P.underlying t with
  | some f, some d => Nat.beq f.size i.size && Nat.beq f.bytes i.bytes && i.k.chk d && (match f.zero with | some z => i.zeroChk z && Nat.beq i.zero.length i.size | none => false)
  | _, _ => false
abbrev TE := List (TypeId × TI)
def TE.get : TE → TypeId → Option TI
  | [], _ => none
  | (k, i) :: r, t => bif Nat.beq t k then some i else TE.get r t
def TEok (P : Program) (te : TE) : Prop := (te.all fun p => p.2.chk P p.1) = true

section
variable {P : Program} {te : TE}
theorem TEok.chk (h : TEok P te) {t : TypeId} {i : TI} (hg : te.get t = some i) : i.chk P t = true := by
  unfold TEok at h
  induction te with
  | nil => simp [TE.get] at hg
  | cons p r ih =>
    obtain ⟨k, j⟩ := p
    simp only [List.all_cons, Bool.and_eq_true] at h
    simp only [TE.get] at hg
    cases hb : Nat.beq t k with
    | true =>
      rw [hb] at hg
      simp only [cond_true, Option.some.injEq] at hg
      have := Nat.eq_of_beq_eq_true hb
      subst this; subst hg
      exact h.1
    | false =>
      rw [hb] at hg
      exact ih h.2 hg

/-- What the table tells of a type. -/
structure Tells (P : Program) (t : TypeId) (i : TI) : Prop where
  info : ∃ f z, P.info? t = some f ∧ f.size = i.size ∧ f.bytes = i.bytes ∧ f.zero = some z ∧ z.cells = (i.zero.map ZC.val).toArray ∧ i.zero.length = i.size ∧
    z = (if i.k.agg then .agg (i.zero.map ZC.val).toArray else (i.zero.map ZC.val).headD undef)
  desc : ∃ d, P.underlying t = some d ∧ i.k.chk d = true

theorem TEok.tells (h : TEok P te) {t : TypeId} {i : TI} (hg : te.get t = some i) : Tells P t i := by
  have hc := h.chk hg
  unfold TI.chk at hc
  split at hc
  · rename_i f d h1 h2
    simp only [Bool.and_eq_true] at hc
    obtain ⟨⟨⟨a, b⟩, c⟩, e⟩ := hc
    split at e
    · rename_i z hz
      simp only [Bool.and_eq_true] at e
      have e2 := Nat.eq_of_beq_eq_true e.2
      refine ⟨⟨f, z, h1, Nat.eq_of_beq_eq_true a, Nat.eq_of_beq_eq_true b, hz, ?_, e2, ?_⟩, d, h2, c⟩
      · have e1 := e.1
        unfold TI.zeroChk at e1
        split at e1
        · rename_i cs
          simp only [Bool.and_eq_true] at e1
          have := zerosChk_eq e1.2
          simp only [Value.cells, ← this, Array.toArray_toList]
        · simp at e1
        · rename_i hn1 hn2
          simp only [Bool.and_eq_true] at e1
          have h3 := zerosChk_eq e1.2
          have h4 : z.cells = #[z] := by cases z <;> simp_all [Value.cells]
          rw [h4, ← h3]
      · have e1 := e.1
        unfold TI.zeroChk at e1
        split at e1
        · rename_i cs
          simp only [Bool.and_eq_true] at e1
          have := zerosChk_eq e1.2
          rw [if_pos e1.1, ← this, Array.toArray_toList]
        · simp at e1
        · rename_i hn1 hn2
          simp only [Bool.and_eq_true, Bool.not_eq_true'] at e1
          have h3 := zerosChk_eq e1.2
          rw [e1.1, ← h3]
          rfl
    · simp at e
  · simp at hc

theorem Tells.run_sizeOf {t : TypeId} {i : TI} (h : Tells P t i) (w : World) : (sizeOf t).run P w = .ok i.size w := by
  obtain ⟨f, z, h1, h2, _⟩ := h.info
  simp [sizeOf, typeInfo, h1, h2]
theorem Tells.run_isAgg {t : TypeId} {i : TI} (h : Tells P t i) (w : World) : (isAgg t).run P w = .ok i.k.agg w := by
  obtain ⟨d, h1, h2⟩ := h.desc
  unfold isAgg
  rw [Sem.run_bind, run_underlying h1 w]
  obtain ⟨k, _, _, _⟩ := i
  cases k <;> cases d <;> simp_all [TK.chk, TK.agg]
theorem Tells.run_zero {t : TypeId} {i : TI} (h : Tells P t i) (w : World) : ∃ z, (zeroValue t).run P w = .ok z w ∧ z.cells = (i.zero.map ZC.val).toArray ∧
    z = (if i.k.agg then .agg (i.zero.map ZC.val).toArray else (i.zero.map ZC.val).headD undef) := by
  obtain ⟨f, z, h1, h2, h3, h4, h5, h6, h7⟩ := h.info
  exact ⟨z, by simp [zeroValue, typeInfo, h1, h4], h5, h7⟩
theorem Tells.slice {t e : TypeId} {i : TI} (h : Tells P t i) (hk : i.k = .slice e) : P.underlying t = some (.slice e) := by
  obtain ⟨d, h1, h2⟩ := h.desc
  rw [hk] at h2
  cases d <;> first | (simp [TK.chk] at h2; done) | skip
  have e1 := Nat.eq_of_beq_eq_true h2
  subst e1
  exact h1
theorem Tells.ptr {t e : TypeId} {i : TI} (h : Tells P t i) (hk : i.k = .ptr e) : P.underlying t = some (.pointer e) := by
  obtain ⟨d, h1, h2⟩ := h.desc
  rw [hk] at h2
  cases d <;> first | (simp [TK.chk] at h2; done) | skip
  have e1 := Nat.eq_of_beq_eq_true h2
  subst e1
  exact h1
theorem Tells.str {t : TypeId} {i : TI} (h : Tells P t i) (hk : i.k = .str) : P.underlying t = some .string := by
  obtain ⟨d, h1, h2⟩ := h.desc
  rw [hk] at h2
  cases d <;> simp [TK.chk] at h2
  rw [h1]
theorem Tells.int {t : TypeId} {k : IntKind} {i : TI} (h : Tells P t i) (hk : i.k = .int k) : P.underlying t = some (.int k) := by
  obtain ⟨d, h1, h2⟩ := h.desc
  rw [hk] at h2
  cases d <;> simp [TK.chk] at h2
  rw [h1, h2]
theorem Tells.bool {t : TypeId} {i : TI} (h : Tells P t i) (hk : i.k = .bool) : P.underlying t = some .bool := by
  obtain ⟨d, h1, h2⟩ := h.desc
  rw [hk] at h2
  cases d <;> simp [TK.chk] at h2
  rw [h1]
theorem Tells.arr {t e : TypeId} {n : Nat} {i : TI} (h : Tells P t i) (hk : i.k = .arr n e) : P.underlying t = some (.array n e) := by
  obtain ⟨d, h1, h2⟩ := h.desc
  rw [hk] at h2
  cases d <;> first | (simp [TK.chk] at h2; done) | skip
  simp only [TK.chk, Bool.and_eq_true] at h2
  have e1 := Nat.eq_of_beq_eq_true h2.1
  have e2 := Nat.eq_of_beq_eq_true h2.2
  subst e1
  subst e2
  exact h1
theorem Tells.map {t k e : TypeId} {i : TI} (h : Tells P t i) (hk : i.k = .map k e) : P.underlying t = some (.map k e) := by
  obtain ⟨d, h1, h2⟩ := h.desc
  rw [hk] at h2
  cases d <;> first | (simp [TK.chk] at h2; done) | skip
  simp only [TK.chk, Bool.and_eq_true] at h2
  have e1 := Nat.eq_of_beq_eq_true h2.1
  have e2 := Nat.eq_of_beq_eq_true h2.2
  subst e1
  subst e2
  exact h1
theorem Tells.struct {t : TypeId} {l : List (Nat × TypeId)} {i : TI} (h : Tells P t i) (hk : i.k = .struct l) :
    ∃ fs : Array Field, P.underlying t = some (.struct fs) ∧ fs.toList.map (fun f => (f.offset, f.type)) = l := by
  obtain ⟨d, h1, h2⟩ := h.desc
  rw [hk] at h2
  cases d <;> simp [TK.chk] at h2
  exact ⟨_, h1, by simpa using h2.symm⟩
theorem Tells.iface {t : TypeId} {b : Bool} {i : TI} (h : Tells P t i) (hk : i.k = .iface b) : ∃ ms, P.underlying t = some (.interface ms) ∧ ms.isEmpty = b := by
  obtain ⟨d, h1, h2⟩ := h.desc
  rw [hk] at h2
  cases d <;> simp [TK.chk] at h2
  exact ⟨_, h1, by simpa using h2⟩
end

end Go.Proofs.Ytaemmklgofddmaa.Fw
