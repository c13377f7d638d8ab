/- Fw23: the rule of a call that borrows objects of the caller's; no condition. -/
import Derived.Test.YtaemmklgofddmaaFwV
set_option linter.unusedVariables false
set_option linter.unusedSimpArgs false
namespace Go.Proofs.Ytaemmklgofddmaa.Fw
open Go.RowKit

def IdMap.to (τ : IdMap) (c : Nat) : Nat := (τ.get c).getD 0
/-- The objects lent, one by one. -/
def BObjs (ρ : Nat → Bool) (σ : IdMap) (h : Heap) (lo hi : Nat) : IdMap → List (Nat × AObj) → Prop
  | [], [] => True
  | (c, k) :: r, (c', ob') :: q => c = c' ∧ (∃ ob, h k = some ob ∧ LObj ρ σ h lo hi (ρ c) ob ob') ∧ BObjs ρ σ h lo hi r q
  | _, _ => False
theorem BObjs.none {ρ : Nat → Bool} {σ : IdMap} {h : Heap} {lo hi : Nat} : ∀ {r : IdMap} {q : List (Nat × AObj)}, BObjs ρ σ h lo hi r q → ∀ {c : Nat}, hlook q c = none → r.get c = none
  | [], [], _, c, _ => rfl
  | (c, k) :: r, (c', ob') :: q, e, i, hi => by
    obtain ⟨rfl, _, e3⟩ := e
    simp only [hlook] at hi
    simp only [IdMap.get]
    cases hb : Nat.beq i c with
    | true => rw [hb] at hi; cases hi
    | false => rw [hb] at hi; exact BObjs.none e3 hi
  | [], _ :: _, e, _, _ => e.elim
  | _ :: _, [], e, _, _ => e.elim
theorem BObjs.some {ρ : Nat → Bool} {σ : IdMap} {h : Heap} {lo hi : Nat} : ∀ {r : IdMap} {q : List (Nat × AObj)}, BObjs ρ σ h lo hi r q → ∀ {c : Nat} {ob' : AObj}, hlook q c = some ob' → ∃ k ob, r.get c = some k ∧ h k = some ob ∧ LObj ρ σ h lo hi (ρ c) ob ob'
  | [], [], _, c, ob', hq => by cases hq
  | (c, k) :: r, (c', ob1) :: q, e, i, ob', hq => by
    obtain ⟨rfl, ⟨ob, e1, e2⟩, e3⟩ := e
    simp only [hlook] at hq
    simp only [IdMap.get]
    cases hb : Nat.beq i c with
    | true => rw [hb] at hq; cases hq; exact ⟨k, ob, rfl, e1, (Nat.eq_of_beq_eq_true hb) ▸ e2⟩
    | false => rw [hb] at hq; exact BObjs.some e3 hq
  | [], _ :: _, e, _, _, _ => e.elim
  | _ :: _, [], e, _, _, _ => e.elim

theorem LVals.cells {ρ : Nat → Bool} {σ : IdMap} {h : Heap} {lo hi : Nat} {w : World} {φ φc : PMap} {Λ Λ' : Lent} (hle : lo ≤ hi) (hs : HSim w φ Λ h)
    (hm : ∀ l b, l ≤ lo → b < w.heap.size → may φ Λ l b → may φc Λ' l b) (hown : ∀ id l b o, φ id = some l → l.bo = some (b, o) → σ.inv id = none → may φc Λ' hi b) (hσ : ∀ c k, σ.get c = some k → φc c = (φ k).map (Loc.re (ρ c)))
    {cs cs' : List AV} (e : LVals ρ σ h lo hi cs cs') {arr : Array Value} {o : Nat} (hc : CellsRep w φ Λ arr o cs) : CellsRep w φc Λ' arr o cs' := fun j c hj => by
  obtain ⟨a, h1, h2⟩ := e.get j c hj
  obtain ⟨v, h3, h4⟩ := hc j a h1
  exact ⟨v, h3, h2 hle w φ φc Λ Λ' v hs hm hown hσ h4⟩
theorem LObj.rep {ρ : Nat → Bool} {σ : IdMap} {h : Heap} {lo hi : Nat} {w : World} {φ φc : PMap} {Λ Λ' : Lent} (hle : lo ≤ hi) (hs : HSim w φ Λ h)
    (hm : ∀ l b, l ≤ lo → b < w.heap.size → may φ Λ l b → may φc Λ' l b) (hown : ∀ id l b o, φ id = some l → l.bo = some (b, o) → σ.inv id = none → may φc Λ' hi b) (hσ : ∀ c k, σ.get c = some k → φc c = (φ k).map (Loc.re (ρ c)))
    {ob ob' : AObj} {rn : Bool} (e : LObj ρ σ h lo hi rn ob ob') {l : Loc} (ho : ObjRep w φ Λ ob l) : ObjRep w φc Λ' ob' (l.re rn) := by
  cases ob with
  | box cs =>
    cases ob' with
    | box cs' =>
      obtain ⟨b, arr, T, g1, g2, g3, g4, g5⟩ := ho
      exact ⟨b, arr, T, by cases rn <;> exact g1, by cases rn <;> first | exact g2 | rfl, g3, by rw [g4]; exact LVals.length e, LVals.cells hle hs hm hown hσ e g5⟩
    | row => exact e.elim
    | map => exact e.elim
  | row cs es v =>
    cases ob' with
    | row cs' es' v' =>
      obtain ⟨rfl, ev, e⟩ := e
      obtain ⟨g0, g⟩ := ho
      have hbo : (l.re rn).bo = l.bo := by cases rn <;> rfl
      refine ⟨by cases rn <;> simp only [cond_true, cond_false] at ev <;> subst ev <;> first | exact g0 | rfl, ?_⟩
      rw [hbo]
      rcases g with ⟨g1, g2⟩ | ⟨b, o, arr, T, lo', hi', g1, g2, g3, g4, g5⟩
      · refine .inl ⟨g1, ?_⟩
        subst g2
        exact List.eq_nil_of_length_eq_zero e.length.symm
      · exact .inr ⟨b, o, arr, T, lo', hi', g1, g2, g3, by rw [← e.length]; exact g4, LVals.cells hle hs hm hown hσ e g5⟩
    | box => exact e.elim
    | map => exact e.elim
  | map es =>
    cases ob' with
    | map es' =>
      obtain ⟨e1, e2⟩ := e
      obtain ⟨b, ents, clock, g1, g2, g3, g4, g5⟩ := ho
      have hl : es.length = es'.length := by simpa using congrArg List.length e1
      refine ⟨b, ents, clock, by cases rn <;> exact g1, by cases rn <;> first | exact g2 | rfl, g3, by rw [g4, hl], fun j p hp => ?_⟩
      obtain ⟨a, h1, h2⟩ := e2.get j p.2 (by rw [List.getElem?_map, hp]; rfl)
      rw [List.getElem?_map, Option.map_eq_some_iff] at h1
      obtain ⟨q, hq, rfl⟩ := h1
      obtain ⟨en, k1, k2, k3⟩ := g5 j q hq
      have hk : q.1 = p.1 := by
        have := congrArg (fun l => l[j]?) e1
        simp only [List.getElem?_map, hq, hp, Option.map_some, Option.some.injEq] at this
        exact this
      exact ⟨en, k1, by rw [k2, hk], h2 hle w φ φc Λ Λ' _ hs hm hown hσ k3⟩
    | box => exact e.elim
    | row => exact e.elim

/-- What the caller's objects are behind a call. -/
def backHeap (τ : IdMap) (h h' : Heap) : Heap := fun k => match τ.inv k with
  | some c => (h' c).map (AObj.ren τ.to)
  | none => h k
structure HBack (σ τ : IdMap) (lv : Nat) (h h' : Heap) : Prop where
  wf : τ.wf = true
  ext : ∀ c k, σ.get c = some k → τ.get c = some k
  new : ∀ c k, τ.get c = some k → σ.get c = none → h k = none
  all : ∀ c ob, h' c = some ob → τ.has c = true ∧ ob.lev lv = true ∧ ObjIn τ.has ob

section rules
variable {P : Program} {n : Nat} {Q : APost} {s : AS} {o : Oper} {d : Option Tmp}

theorem OpX.callB {K : AS → Prop} {fop : Operand} {argops : Array Operand} {tys : Array TypeId} {f : FuncId} {first caps A : List AV} {R : AEnd → Heap → Prop} (lv : Nat) (σ : IdMap) (hb : List (Nat × AObj))
    (ho : o.op = .call { callee := .value fop, args := argops, argTypes := tys }) (hf : s.ev fop = .fn (.func f) first caps) (hwf : σ.wf = true) (h8 : ∀ c, σ.has c = true → c < 8)
    (hobj : BObjs (fun _ => false) σ s.h lv (lv + 1) σ hb) (hA : LVals (fun _ => false) σ s.h lv (lv + 1) (first ++ argops.toList.map s.ev ++ caps) A) (hc : AC P f A (hlook hb) R) (hdd : o.dst = d) (hd : d.all (Nat.blt · n) = true)
    (hret : ∀ r h', R (.ret r) h' → ∃ τ : IdMap, HBack σ τ lv s.h h' ∧ r.lev lv = true ∧ r.refs τ.has = true ∧ K (AS.put ⟨s.t, backHeap τ s.h h'⟩ d (r.ren τ.to)))
    (hpan : ∀ x h', R (.panic x) h' → ∃ τ : IdMap, HBack σ τ lv s.h h' ∧ Q (.panic x) ⟨s.t, backHeap τ s.h h'⟩) : OpX P n o Q s K := by
  intro Λ w φ a hs next QQ hN hP
  subst hdd
  obtain ⟨⟨fn, c, hbd⟩, hcall⟩ := hc
  let own' : Nat → Prop := fun b => ∃ id l oo, φ id = some l ∧ l.bo = some (b, oo) ∧ σ.inv id = none
  let Λ' : Lent := fun k b => Λ k b ∨ (k = lv + 1 ∧ own' b)
  let φc : PMap := fun c => match σ.get c with | some k => φ k | none => none
  have hσ0 : ∀ c k, σ.get c = some k → φc c = φ k := fun c k e => by simp only [φc, e]
  have hσ : ∀ c k, σ.get c = some k → φc c = (φ k).map (Loc.re false) := fun c k e => by
    rw [hσ0 c k e]
    cases φ k <;> rfl
  have φc_some : ∀ c l, φc c = some l → ∃ k, σ.get c = some k ∧ φ k = some l := fun c l e => by
    simp only [φc] at e
    cases hg : σ.get c with
    | none => rw [hg] at e; cases e
    | some k => rw [hg] at e; exact ⟨k, rfl, e⟩
  have ownc : ∀ b, owned φc b → owned φ b := fun b ⟨c, l, oo, e1, e2⟩ => by
    obtain ⟨k, _, e3⟩ := φc_some c l e1
    exact ⟨k, l, oo, e3, e2⟩
  have own'φ : ∀ b, own' b → owned φ b := fun b ⟨id, l, oo, e1, e2, _⟩ => ⟨id, l, oo, e1, e2⟩
  have apart : ∀ b, owned φc b → ¬ own' b := fun b ⟨c, l, oo, e1, e2⟩ ⟨id, l2, oo2, e3, e4, e5⟩ => by
    obtain ⟨k, g1, g2⟩ := φc_some c l e1
    have := hs.hs.inj k id l l2 b oo oo2 g2 e3 e2 e4
    subst this
    rw [IdMap.inv_of_get hwf g1] at e5
    cases e5
  have hm : ∀ l b, l ≤ lv → b < w.heap.size → may φ Λ l b → may φc Λ' l b := fun l b hl _ h => ⟨fun h1 => h.1 (ownc b h1), fun k hk h1 => by
    rcases h1 with h1 | ⟨_, h1⟩
    · exact h.2 k hk h1
    · exact h.1 (own'φ b h1)⟩
  have hown : ∀ id l b oo, φ id = some l → l.bo = some (b, oo) → σ.inv id = none → may φc Λ' (lv + 1) b := fun id l b oo e1 e2 e3 => ⟨fun h1 => apart b h1 ⟨id, l, oo, e1, e2, e3⟩, fun k hk h1 => by
    rcases h1 with h1 | ⟨h1, _⟩
    · exact (hs.hs.lt _ _ _ _ e1 e2).2 k h1
    · omega⟩
  have hle : lv ≤ lv + 1 := Nat.le_succ lv
  have hs0 : HSim w φc Λ' (hlook hb) := by
    refine ⟨fun c ob' h => ?_, fun c h => ?_, fun c l b oo h1 h2 => ?_, fun c c' l l' b oo oo' h1 h2 h3 h4 => ?_, fun k b h => ?_⟩
    · obtain ⟨k, ob, e1, e2, e3⟩ := hobj.some h
      obtain ⟨l, e4, e5⟩ := hs.hs.heap k ob e2
      exact ⟨l, (hσ0 c k e1).trans e4, e3.rep (rn := false) hle hs.hs hm hown hσ e5⟩
    · simp only [φc, hobj.none h]
    · obtain ⟨k, _, e2⟩ := φc_some c l h1
      obtain ⟨e3, e4⟩ := hs.hs.lt k l b oo e2 h2
      refine ⟨e3, fun j hj => ?_⟩
      rcases hj with hj | ⟨_, hj⟩
      · exact e4 j hj
      · exact apart b ⟨c, l, oo, h1, h2⟩ hj
    · obtain ⟨k, e1, e2⟩ := φc_some c l h1
      obtain ⟨k', e3, e4⟩ := φc_some c' l' h2
      have := hs.hs.inj k k' l l' b oo oo' e2 e4 h3 h4
      subst this
      have g1 := IdMap.inv_of_get hwf e1
      rw [IdMap.inv_of_get hwf e3] at g1
      exact (Option.some.inj g1).symm
    · rcases h with h | ⟨_, id, l, oo, g1, g2, _⟩
      · exact hs.hs.lent k b h
      · exact (hs.hs.lt _ _ _ _ g1 g2).1
  obtain ⟨fv, cv, hfv, hsz, hargs0⟩ := callVals hs hf
  have hargs : ArgsRep w φc Λ' A (fv ++ argops.map a.eval ++ cv) := by
    refine ⟨by rw [hsz, hA.length], fun j b hj => ?_⟩
    obtain ⟨x, h1, h2⟩ := hA.get j b hj
    obtain ⟨v, h3, h4⟩ := hargs0 j x h1
    exact ⟨v, h3, h2 hle w φ φc Λ Λ' v hs.hs hm hown hσ h4⟩
  unfold Oper.wp
  rw [run_callOp hbd ho hfv]
  -- the world and the caller's objects behind the call
  have back : ∀ (τ : IdMap) h' w' φ', HBack σ τ lv s.h h' → HSim w' φ' Λ' h' → Goes w φc w' φ' → ∃ φn, Goes w φ w' φn ∧ Stays w φ w' φn ∧ HSim w' φn Λ (backHeap τ s.h h') ∧
      (∀ l b, l ≤ lv → b < w'.heap.size → may φ' Λ' l b → may φn Λ l b) ∧ (∀ c l, τ.has c = true → φ' c = some l → φn (τ.to c) = some l) := by
    intro τ h' w' φ' B hs' g
    let φn : PMap := fun k => match τ.inv k with | some c => φ' c | none => φ k
    have n_some : ∀ k c, τ.inv k = some c → φn k = φ' c := fun k c e => by simp only [φn, e]
    have n_none : ∀ k, τ.inv k = none → φn k = φ k := fun k e => by simp only [φn, e]
    have inv_none : ∀ k, τ.inv k = none → σ.inv k = none := fun k e => by
      cases hi : σ.inv k with
      | none => rfl
      | some c =>
        have := IdMap.inv_of_get B.wf (B.ext c k (IdMap.get_of_inv hwf hi))
        rw [e] at this
        cases this
    have hkeep : ∀ b, b < w.heap.size → ¬ owned φc b → w'.heap[b]? = w.heap[b]? := fun b hb h => g.keep b hb h
    -- an own object of the caller's that was not borrowed
    have apart2 : ∀ id l b oo, φ id = some l → l.bo = some (b, oo) → σ.inv id = none → ¬ owned φc b := fun id l b oo e1 e2 e3 h => apart b h ⟨id, l, oo, e1, e2, e3⟩
    have st : Stays w φ w' φn := by
      have key : ∀ id l, φ id = some l → (∃ c, τ.inv id = some c ∧ σ.get c = some id) ∨ τ.inv id = none := by
        intro id l h
        cases hi : τ.inv id with
        | none => exact .inr rfl
        | some c =>
          refine .inl ⟨c, rfl, ?_⟩
          have hg := IdMap.get_of_inv B.wf hi
          cases hs2 : σ.get c with
          | some k =>
            have := B.ext c k hs2
            rw [hg] at this
            exact this.symm
          | none =>
            have := hs.hs.dom id (B.new c id hg hs2)
            rw [this] at h
            cases h
      constructor
      · intro id l h
        rcases key id l h with ⟨c, e1, e2⟩ | e1
        · obtain ⟨l', k1, k2, _⟩ := g.pin c l (h8 c (by simp [IdMap.has, e2])) ((hσ0 c id e2).trans h)
          exact ⟨l', (n_some id c e1).trans k1, k2⟩
        · exact ⟨l, (n_none id e1).trans h, .inl rfl⟩
      · intro id l h1 h2 b oo arr T m h3 h4
        rcases key id l h1 with ⟨c, e1, e2⟩ | e1
        · obtain ⟨l', k1, k2, k3⟩ := g.pin c l (h8 c (by simp [IdMap.has, e2])) ((hσ0 c id e2).trans h1)
          rw [n_some id c e1, k1] at h2
          cases h2
          exact k3 rfl b oo arr T m h3 h4
        · have hb := (hs.hs.lt id l b oo h1 h3).1
          rw [hkeep b hb (apart2 id l b oo h1 h3 (inv_none id e1))]
          exact ⟨arr, T, m, h4, Nat.le_refl _⟩
    have g2 : Goes w φ w' φn := by
      refine ⟨fun b hb hno => hkeep b hb fun h => hno (ownc b h), g.size, fun b hb => ?_, g.os, g.tape, g.output, st.pin⟩
      obtain ⟨k, l, oo, e1, e2⟩ := hb
      cases hi : τ.inv k with
      | none => rw [n_none k hi] at e1; exact .inl ⟨k, l, oo, e1, e2⟩
      | some c =>
        rw [n_some k c hi] at e1
        exact (g.own b ⟨c, l, oo, e1, e2⟩).imp (ownc b) id
    have hm2 : ∀ l b, l ≤ lv → b < w'.heap.size → may φ' Λ' l b → may φn Λ l b := fun l b hl _ h => ⟨fun h1 => by
      obtain ⟨k, l2, oo, e1, e2⟩ := h1
      cases hi : τ.inv k with
      | some c => rw [n_some k c hi] at e1; exact h.1 ⟨c, l2, oo, e1, e2⟩
      | none =>
        rw [n_none k hi] at e1
        exact h.2 (lv + 1) (by omega) (.inr ⟨rfl, k, l2, oo, e1, e2, inv_none k hi⟩), fun j hj h1 => h.2 j hj (.inl h1)⟩
    have hτ : ∀ c l, τ.has c = true → φ' c = some l → φn (τ.to c) = some l := fun c l h1 h2 => by
      obtain ⟨k, hk⟩ := Option.isSome_iff_exists.1 h1
      have : τ.to c = k := by simp [IdMap.to, hk]
      rw [this, n_some k c (IdMap.inv_of_get B.wf hk)]
      exact h2
    refine ⟨φn, g2, st, ⟨fun k ob h => ?_, fun k h => ?_, fun k l b oo h1 h2 => ?_, fun k k' l l' b oo oo' h1 h2 h3 h4 => ?_, fun k b h => Nat.lt_of_lt_of_le (hs.hs.lent k b h) g.size⟩, hm2, hτ⟩
    · unfold backHeap at h
      cases hi : τ.inv k with
      | some c =>
        rw [hi] at h
        simp only [Option.map_eq_some_iff] at h
        obtain ⟨ob', e1, rfl⟩ := h
        obtain ⟨l, e2, e3⟩ := hs'.heap c ob' e1
        obtain ⟨_, b2, b3⟩ := B.all c ob' e1
        exact ⟨l, (n_some k c hi).trans e2, e3.ren hm2 hτ b2 b3⟩
      | none =>
        rw [hi] at h
        obtain ⟨l, e1, e2⟩ := hs.hs.heap k ob h
        refine ⟨l, (n_none k hi).trans e1, e2.goes g2 st fun b oo e3 => ?_⟩
        exact hkeep b (hs.hs.lt k l b oo e1 e3).1 (apart2 k l b oo e1 e3 (inv_none k hi))
    · unfold backHeap at h
      cases hi : τ.inv k with
      | some c =>
        rw [hi] at h
        simp only [Option.map_eq_none_iff] at h
        rw [n_some k c hi]
        exact hs'.dom c h
      | none =>
        rw [hi] at h
        rw [n_none k hi]
        exact hs.hs.dom k h
    · cases hi : τ.inv k with
      | some c =>
        rw [n_some k c hi] at h1
        obtain ⟨e1, e2⟩ := hs'.lt c l b oo h1 h2
        exact ⟨e1, fun j hj => e2 j (.inl hj)⟩
      | none =>
        rw [n_none k hi] at h1
        obtain ⟨e1, e2⟩ := hs.hs.lt k l b oo h1 h2
        exact ⟨Nat.lt_of_lt_of_le e1 g.size, e2⟩
    · have mixed : ∀ k c k' l l' oo oo', τ.inv k = some c → τ.inv k' = none → φ' c = some l → φ k' = some l' → l.bo = some (b, oo) → l'.bo = some (b, oo') → False := by
        intro k c k' l l' oo oo' e1 e2 e3 e4 e5 e6
        rcases g.own b ⟨c, l, oo, e3, e5⟩ with h | h
        · exact apart2 k' l' b oo' e4 e6 (inv_none k' e2) h
        · have := (hs.hs.lt k' l' b oo' e4 e6).1
          omega
      cases hi : τ.inv k with
      | some c =>
        rw [n_some k c hi] at h1
        cases hi' : τ.inv k' with
        | some c' =>
          rw [n_some k' c' hi'] at h2
          have := hs'.inj c c' l l' b oo oo' h1 h2 h3 h4
          subst this
          have e1 := IdMap.get_of_inv B.wf hi
          rw [IdMap.get_of_inv B.wf hi'] at e1
          exact (Option.some.inj e1).symm
        | none =>
          rw [n_none k' hi'] at h2
          exact (mixed k c k' l l' oo oo' hi hi' h1 h2 h3 h4).elim
      | none =>
        rw [n_none k hi] at h1
        cases hi' : τ.inv k' with
        | some c' =>
          rw [n_some k' c' hi'] at h2
          exact (mixed k' c' k l' l oo' oo hi' hi h2 h1 h4 h3).elim
        | none =>
          rw [n_none k' hi'] at h2
          exact hs.hs.inj k k' l l' b oo oo' h1 h2 h3 h4
  refine Calls.mono (hcall Λ' w φc _ hs0 hargs (fun e w' => match e with
      | .returned v => next (a.put o.dst v) w'
      | .panicked chain => QQ (.panic chain) a w'
      | .outgrown => False) ?_ ?_) ?_
  · intro r h' w' φ' v hR hs' g hr
    obtain ⟨τ, B, h1, h2, h3⟩ := hret r h' hR
    obtain ⟨φn, g2, st, hs2, hm2, hτ⟩ := back τ h' w' φ' B hs' g
    have hsa : Sim n w' φn Λ ⟨s.t, backHeap τ s.h h'⟩ a := ⟨hs.defs, hs.size, fun i => (hs.tmps i).goes g2 st, hs2⟩
    exact hN _ w' φn _ h3 (hsa.put o.dst hd (hr.ren hm2 hτ h1 h2)) g2
  · intro x h' w' φ' hR hs' g
    obtain ⟨τ, B, h1⟩ := hpan x h' hR
    obtain ⟨φn, g2, st, hs2, hm2, hτ⟩ := back τ h' w' φ' B hs' g
    have hsa : Sim n w' φn Λ ⟨s.t, backHeap τ s.h h'⟩ a := ⟨hs.defs, hs.size, fun i => (hs.tmps i).goes g2 st, hs2⟩
    exact hP x _ w' φn a h1 hsa g2
  · intro e w' h
    cases e with
    | returned v => exact h
    | panicked chain => exact h
    | outgrown => exact h.elim
end rules
end Go.Proofs.Ytaemmklgofddmaa.Fw
