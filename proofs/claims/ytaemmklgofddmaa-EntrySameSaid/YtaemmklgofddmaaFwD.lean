/- Fw4: how own objects are made and changed; no condition. -/
import Derived.Test.YtaemmklgofddmaaFwC
set_option linter.unusedVariables false
namespace Go.Proofs.Ytaemmklgofddmaa.Fw
open Go.RowKit

/-- One own object (that is new, or was there) is changed; nothing else is. -/
structure Chg (w : World) (φ : PMap) (Λ : Lent) (h : Nat → Option AObj) (id : Nat) (l' : Loc) (w' : World) : Prop where
  hs : HSim w φ Λ h
  size : w.heap.size ≤ w'.heap.size
  os : w'.os = w.os
  tape : w'.tape = w.tape
  output : w'.output = w.output
  other : ∀ k, k < w.heap.size → (∀ l b o, φ id = some l → l.bo = some (b, o) → k ≠ b) → w'.heap[k]? = w.heap[k]?
  loc : ∀ b' o', l'.bo = some (b', o') → b' < w'.heap.size ∧ (w.heap.size ≤ b' ∨ ∃ l o, φ id = some l ∧ l.bo = some (b', o))
  ver : ∀ l, φ id = some l → l' = l ∨ l.ver < l'.ver
  sizes : ∀ l, φ id = some l → l' = l → ∀ b o arr T m, l.bo = some (b, o) → w.heap[b]? = some (.cells arr T m) → ∃ arr' T' m', w'.heap[b]? = some (.cells arr' T' m') ∧ arr.size ≤ arr'.size

section
variable {w w' : World} {φ : PMap} {Λ : Lent} {h : Nat → Option AObj} {id : Nat} {l' : Loc}

theorem Chg.stays (c : Chg w φ Λ h id l' w') : Stays w φ w' (upd φ id (some l')) := by
  constructor
  · intro i l h1
    by_cases hi : i = id
    · subst hi
      exact ⟨l', upd_same _ _ _, c.ver l h1⟩
    · exact ⟨l, by rw [upd_other _ _ _ _ hi]; exact h1, .inl rfl⟩
  · intro i l h1 h2 b o arr T m h3 h4
    by_cases hi : i = id
    · subst hi
      rw [upd_same] at h2
      cases h2
      exact c.sizes l' h1 rfl b o arr T m h3 h4
    · have hb := (c.hs.lt i l b o h1 h3).1
      rw [c.other b hb fun l2 b2 o2 h5 h6 e => hi (c.hs.inj i id l l2 b o o2 h1 h5 h3 (by rw [h6, e]))]
      exact ⟨arr, T, m, h4, Nat.le_refl _⟩

theorem Chg.goes (c : Chg w φ Λ h id l' w') : Goes w φ w' (upd φ id (some l')) where
  keep b hb ho := c.other b hb fun l b' o h1 h2 e => ho ⟨id, l, o, h1, by rw [h2, e]⟩
  size := c.size
  own b := by
    rintro ⟨i, l, o, h1, h2⟩
    by_cases hi : i = id
    · subst hi
      rw [upd_same] at h1
      cases h1
      rcases (c.loc b o h2).2 with h3 | ⟨l0, o0, h3, h4⟩
      · exact .inr h3
      · exact .inl ⟨_, l0, o0, h3, h4⟩
    · rw [upd_other _ _ _ _ hi] at h1
      exact .inl ⟨i, l, o, h1, h2⟩
  os := c.os
  tape := c.tape
  output := c.output
  pin := c.stays.pin

theorem Chg.rep (c : Chg w φ Λ h id l' w') {x : AV} {v : Value} (hx : Rep w φ Λ x v) : Rep w' (upd φ id (some l')) Λ x v := hx.goes c.goes c.stays

theorem CellsRep.goes {φ' : PMap} (g : Goes w φ w' φ') (st : Stays w φ w' φ') {arr : Array Value} {o : Nat} {cells : List AV} (hc : CellsRep w φ Λ arr o cells) :
    CellsRep w' φ' Λ arr o cells := fun j c hj => by
  obtain ⟨v, h1, h2⟩ := hc j c hj
  exact ⟨v, h1, h2.goes g st⟩

theorem ObjRep.goes {φ' : PMap} (g : Goes w φ w' φ') (st : Stays w φ w' φ') {ob : AObj} {l : Loc} (hb : ∀ b o, l.bo = some (b, o) → w'.heap[b]? = w.heap[b]?)
    (ho : ObjRep w φ Λ ob l) : ObjRep w' φ' Λ ob l := by
  cases ob with
  | box cells =>
    obtain ⟨b, arr, T, h1, h2, h3, h4, h5⟩ := ho
    exact ⟨b, arr, T, h1, h2, by rw [hb b 0 h1]; exact h3, h4, h5.goes g st⟩
  | row cells esz ver =>
    obtain ⟨h0, h1⟩ := ho
    refine ⟨h0, ?_⟩
    rcases h1 with h1 | ⟨b, o, arr, T, lo, hi, h1, h2, h3, h4, h5⟩
    · exact .inl h1
    · exact .inr ⟨b, o, arr, T, lo, hi, h1, by rw [hb b o h1]; exact h2, h3, h4, h5.goes g st⟩
  | map es =>
    obtain ⟨b, ents, clock, h1, h2, h3, h4, h5⟩ := ho
    refine ⟨b, ents, clock, h1, h2, by rw [hb b 0 h1]; exact h3, h4, fun j p hp => ?_⟩
    obtain ⟨e, h6, h7, h8⟩ := h5 j p hp
    exact ⟨e, h6, h7, h8.goes g st⟩

theorem Chg.hsim (c : Chg w φ Λ h id l' w') {ob' : AObj} (hob : ObjRep w' (upd φ id (some l')) Λ ob' l') : HSim w' (upd φ id (some l')) Λ (upd h id (some ob')) where
  heap i ob hi := by
    by_cases he : i = id
    · subst he
      rw [upd_same] at hi
      cases hi
      exact ⟨l', upd_same _ _ _, hob⟩
    · rw [upd_other _ _ _ _ he] at hi
      obtain ⟨l, h1, h2⟩ := c.hs.heap i ob hi
      refine ⟨l, by rw [upd_other _ _ _ _ he]; exact h1, h2.goes c.goes c.stays fun b o h3 => ?_⟩
      have hb := (c.hs.lt i l b o h1 h3).1
      exact c.other b hb fun l2 b2 o2 h5 h6 e => he (c.hs.inj i id l l2 b o o2 h1 h5 h3 (by rw [h6, e]))
  dom i hi := by
    by_cases he : i = id
    · subst he
      rw [upd_same] at hi
      cases hi
    · rw [upd_other _ _ _ _ he] at hi ⊢
      exact c.hs.dom i hi
  lt i l b o h1 h2 := by
    by_cases he : i = id
    · subst he
      rw [upd_same] at h1
      cases h1
      obtain ⟨h3, h4⟩ := c.loc b o h2
      refine ⟨h3, fun k hk => ?_⟩
      rcases h4 with h4 | ⟨l0, o0, h4, h5⟩
      · have := c.hs.lent k b hk
        omega
      · exact (c.hs.lt _ l0 b o0 h4 h5).2 k hk
    · rw [upd_other _ _ _ _ he] at h1
      obtain ⟨h3, h4⟩ := c.hs.lt i l b o h1 h2
      exact ⟨Nat.lt_of_lt_of_le h3 c.size, h4⟩
  inj i i' l l2 b o o' h1 h2 h3 h4 := by
    by_cases he : i = id
    · by_cases he' : i' = id
      · rw [he, he']
      · subst he
        rw [upd_same] at h1
        cases h1
        rw [upd_other _ _ _ _ he'] at h2
        rcases (c.loc b o h3).2 with h5 | ⟨l0, o0, h5, h6⟩
        · have := (c.hs.lt i' l2 b o' h2 h4).1
          omega
        · exact (c.hs.inj i' i l2 l0 b o' o0 h2 h5 h4 h6).symm
    · by_cases he' : i' = id
      · subst he'
        rw [upd_same] at h2
        cases h2
        rw [upd_other _ _ _ _ he] at h1
        rcases (c.loc b o' h4).2 with h5 | ⟨l0, o0, h5, h6⟩
        · have := (c.hs.lt i l b o h1 h3).1
          omega
        · exact c.hs.inj i i' l l0 b o o0 h1 h5 h3 h6
      · rw [upd_other _ _ _ _ he] at h1
        rw [upd_other _ _ _ _ he'] at h2
        exact c.hs.inj i i' l l2 b o o' h1 h2 h3 h4
  lent k b hk := Nat.lt_of_lt_of_le (c.hs.lent k b hk) c.size

end

theorem stays_drew (w : World) (φ : PMap) : Stays w φ w.drew φ := ⟨fun id l h => ⟨l, h, .inl rfl⟩, fun _ _ _ _ _ _ arr T m _ h => ⟨arr, T, m, h, Nat.le_refl _⟩⟩
theorem goes_drew (w : World) (φ : PMap) : Goes w φ w.drew φ := ⟨fun _ _ _ => rfl, Nat.le_refl _, fun _ h => .inl h, rfl, rfl, rfl, (stays_drew w φ).pin⟩
theorem HSim.drew {w : World} {φ : PMap} {Λ : Lent} {h : Nat → Option AObj} (hs : HSim w φ Λ h) : HSim w.drew φ Λ h where
  heap id ob hi := by
    obtain ⟨l, h1, h2⟩ := hs.heap id ob hi
    exact ⟨l, h1, h2.goes (goes_drew w φ) (stays_drew w φ) fun _ _ _ => rfl⟩
  dom := hs.dom
  lt := hs.lt
  inj := hs.inj
  lent := hs.lent
theorem Sim.drew {n : Nat} {w : World} {φ : PMap} {Λ : Lent} {s : AS} {a : Act} (hs : Sim n w φ Λ s a) : Sim n w.drew φ Λ s a :=
  ⟨hs.defs, hs.size, fun i => (hs.tmps i).goes (goes_drew w φ) (stays_drew w φ), hs.hs.drew⟩

/-! ### Loads -/
def mkAV (agg : Bool) (cs : List AV) : AV := bif agg then .agg cs else cs.headD .any

section
variable {P : Program} {w : World} {φ : PMap} {Λ : Lent}

theorem run_loadVar {t : TypeId} {i : TI} (ht : Tells P t i) (b o : Nat) (cs : List AV) (vf : Nat → Value) (hl : cs.length = i.size) (h0 : 0 < i.size)
    (hc : ∀ j, j < cs.length → w.cell? ⟨b, o + j, none⟩ = some (vf j)) (hr : ∀ j c, cs[j]? = some c → Rep w φ Λ c (vf j)) :
    ∃ x, (loadVar t ⟨b, o, none⟩).run P w = .ok x w ∧ Rep w φ Λ (mkAV i.k.agg cs) x := by
  have hcell : ∀ j, j < i.size → w.cell? ((⟨b, o, none⟩ : Addr).add j) = some (vf j) := by
    intro j hj
    rw [Addr.add_lit]
    exact hc j (by omega)
  cases hk : i.k.agg with
  | true =>
    refine ⟨.agg ((List.range i.size).map vf).toArray, ?_, ?_⟩
    · simp only [loadVar, Sem.run_bind, ht.run_isAgg, Result.andThen_ok, hk, if_true, ht.run_sizeOf, run_loadCells w _ i.size vf hcell, Sem.run_pure]
    · simp only [mkAV, cond_true]
      refine .agg vf (by simp [hl]) (fun j hj => ?_) hr
      have hj' : j < i.size := by omega
      simp [hj']
  | false =>
    have h1 := hc 0 (by omega)
    simp only [Nat.add_zero] at h1
    refine ⟨vf 0, ?_, ?_⟩
    · simp only [loadVar, Sem.run_bind, ht.run_isAgg, Result.andThen_ok, hk, Bool.false_eq_true, if_false, run_load, h1]
    · simp only [mkAV, cond_false]
      cases cs with
      | nil => simp at hl; omega
      | cons c r => exact hr 0 c rfl

/-! ### Stores -/
theorem run_storeCells_un (g o : Nat) (T : TypeId) (lo hi : Nat) : ∀ (vs : List Value) (i : Nat) (cur : Array Value) (w : World), w.heap[g]? = some (.cells cur T (lo, hi)) →
    (cur.size ≤ lo ∨ hi ≤ lo) → o + i + vs.length ≤ cur.size → (∀ v ∈ vs, v.oneCell' = true) →
    (storeCells ⟨g, o, none⟩ vs i).run P w = .ok () (w.setRow g (cur.toList.take (o + i) ++ vs ++ cur.toList.drop (o + i + vs.length)).toArray)
  | [], i, cur, w, hg, _, _, _ => by
    simp only [storeCells, List.append_nil, List.length_nil, Nat.add_zero, List.take_append_drop, Array.toArray_toList]
    rw [setRow_self w g cur T (lo, hi) hg]
    rfl
  | v :: rest, i, cur, w, hg, hf, hl, h1 => by
    simp only [List.length_cons] at hl
    have hi' : o + i < cur.size := by omega
    have hcell : w.cell? ⟨g, o + i, none⟩ = some cur[o + i] := by simp [World.cell?, hg, hi']
    have hfro : w.frozen? ⟨g, o + i, none⟩ = false := by
      simp only [World.frozen?, hg, Bool.and_eq_false_iff, decide_eq_false_iff_not]
      omega
    have hst : (store ((⟨g, o, none⟩ : Addr).add i) v).run P w = .ok () (w.setRow g (cur.setIfInBounds (o + i) v)) := by
      rw [Addr.add_lit, run_store P w _ v _ (h1 v (by simp)), hcell]
      simp [hfro, setCell_eq_setRow w g (o + i) cur T (lo, hi) v hg]
    have ih := run_storeCells_un g o T lo hi rest (i + 1) (cur.setIfInBounds (o + i) v) (w.setRow g (cur.setIfInBounds (o + i) v)) (setRow_heap w g cur _ T _ hg) (by simpa using hf)
      (by simp only [Array.size_setIfInBounds]; omega) (fun x hx => h1 x (by simp [hx]))
    simp only [storeCells, Sem.run_bind, hst, Result.andThen_ok, ih, setRow_setRow]
    congr 3
    have e := list_seg_step cur.toList (o + i) v rest (by simp only [Array.length_toList]; omega)
    simpa [Array.toList_setIfInBounds, Nat.add_assoc] using e

end
end Go.Proofs.Ytaemmklgofddmaa.Fw
