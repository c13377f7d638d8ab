/- Fw11: states by their parts: weakening, cuts; contracts that tell one result; no condition. -/
import Derived.Test.YtaemmklgofddmaaFwJ
set_option linter.unusedVariables false
set_option linter.unusedSimpArgs false
namespace Go.Proofs.Ytaemmklgofddmaa.Fw
open Go.RowKit

mutual
/-- All own references are to these objects. -/
def AV.refs (S : Nat → Bool) : AV → Bool
  | .ptr id _ _ | .sl id _ _ _ _ | .mp id _ | .dp id _ _ _ => S id
  | .agg cs | .tup cs => AV.refss S cs
  | .fn _ a b => AV.refss S a && AV.refss S b
  | .ifc _ x => x.refs S
  | _ => true
def AV.refss (S : Nat → Bool) : List AV → Bool
  | [] => true
  | c :: cs => c.refs S && AV.refss S cs
end
theorem AV.refss_iff {S : Nat → Bool} : ∀ {l : List AV}, AV.refss S l = true ↔ ∀ c ∈ l, c.refs S = true
  | [] => by simp [AV.refss]
  | c :: cs => by simp [AV.refss, AV.refss_iff (l := cs)]
mutual
theorem AV.refs_ok {S : Nat → Bool} {lv : Nat} : ∀ {x : AV}, x.ok lv = true → x.refs S = true
  | .v _, _ | .any, _ | .bl, _ | .fz .., _ | .fp .., _ => rfl
  | .ptr .., h | .sl .., h | .mp .., h | .dp .., h => by simp [AV.ok] at h
  | .agg cs, h | .tup cs, h => by
    simp only [AV.ok] at h
    simp only [AV.refs]
    exact AV.refss_ok h
  | .fn _ a b, h => by
    simp only [AV.ok, Bool.and_eq_true] at h
    simp only [AV.refs, Bool.and_eq_true]
    exact ⟨AV.refss_ok h.1, AV.refss_ok h.2⟩
  | .ifc _ x, h => by
    simp only [AV.ok] at h
    simp only [AV.refs]
    exact AV.refs_ok h
theorem AV.refss_ok {S : Nat → Bool} {lv : Nat} : ∀ {x : List AV}, AV.oks lv x = true → AV.refss S x = true
  | [], _ => rfl
  | c :: cs, h => by
    simp only [AV.oks, Bool.and_eq_true] at h
    simp only [AV.refss, Bool.and_eq_true]
    exact ⟨AV.refs_ok h.1, AV.refss_ok h.2⟩
end

def restrict (S : Nat → Bool) (φ : PMap) : PMap := fun id => bif S id then φ id else none
theorem restrict_some {S : Nat → Bool} {φ : PMap} {id : Nat} {l : Loc} (h : restrict S φ id = some l) : S id = true ∧ φ id = some l := by
  unfold restrict at h
  cases hs : S id with
  | true => rw [hs] at h; exact ⟨rfl, h⟩
  | false => rw [hs] at h; cases h
theorem restrict_of {S : Nat → Bool} {φ : PMap} {id : Nat} {l : Loc} (hs : S id = true) (h : φ id = some l) : restrict S φ id = some l := by
  unfold restrict
  rw [hs]
  exact h
theorem owned_restrict {S : Nat → Bool} {φ : PMap} {b : Nat} (h : owned (restrict S φ) b) : owned φ b := by
  obtain ⟨id, l, o, h1, h2⟩ := h
  exact ⟨id, l, o, (restrict_some h1).2, h2⟩

theorem Rep.restrict {w : World} {φ : PMap} {Λ : Lent} {S : Nat → Bool} {x : AV} {v : Value} (h : Rep w φ Λ x v) (hS : x.refs S = true) : Rep w (restrict S φ) Λ x v := by
  induction h with
  | v => exact .v
  | any => exact .any
  | bl => exact .bl
  | fz0 => exact .fz0
  | fz vf hm hn hok hc hr hp ih => exact .fz vf ⟨fun h => hm.1 (owned_restrict h), hm.2⟩ hn hok hc (fun j c hj => ih j c hj (AV.refs_ok (hok c (List.mem_of_getElem? hj)))) hp
  | fp vf hm hok hc hr hp ih => exact .fp vf ⟨fun h => hm.1 (owned_restrict h), hm.2⟩ hok hc (fun j c hj => ih j c hj (AV.refs_ok (hok c (List.mem_of_getElem? hj)))) hp
  | agg vf h1 h2 h3 ih => exact .agg vf h1 h2 (fun j c hj => ih j c hj (AV.refss_iff.1 (by simpa [AV.refs] using hS) c (List.mem_of_getElem? hj)))
  | tup vf h1 h2 h3 ih => exact .tup vf h1 h2 (fun j c hj => ih j c hj (AV.refss_iff.1 (by simpa [AV.refs] using hS) c (List.mem_of_getElem? hj)))
  | fn vf wf h1 h2 h3 h4 h5 h6 ih1 ih2 =>
    simp only [AV.refs, Bool.and_eq_true] at hS
    exact .fn vf wf h1 h2 (fun j c hj => ih1 j c hj (AV.refss_iff.1 hS.1 c (List.mem_of_getElem? hj))) h4 h5 (fun j c hj => ih2 j c hj (AV.refss_iff.1 hS.2 c (List.mem_of_getElem? hj)))
  | ifc h ih => exact .ifc (ih (by simpa [AV.refs] using hS))
  | ptr h1 h2 h3 => exact .ptr (restrict_of hS h1) h2 h3
  | ptrx h1 h2 => exact .ptrx (restrict_of hS h1) h2
  | sl h1 h2 h3 h4 h5 h6 => exact .sl (restrict_of hS h1) h2 h3 h4 h5 h6
  | sl0 h1 h2 => exact .sl0 (restrict_of hS h1) h2
  | slx h1 h2 h3 => exact .slx (restrict_of hS h1) h2 h3
  | mp h1 h2 h3 => exact .mp (restrict_of hS h1) h2 h3
  | dp h1 h2 h3 h4 h5 => exact .dp (restrict_of hS h1) h2 h3 h4 h5
  | dp0 h1 => exact .dp0 (restrict_of hS h1)
  | dpx h1 h2 => exact .dpx (restrict_of hS h1) h2
  | mpx h1 h2 => exact .mpx (restrict_of hS h1) h2

def ObjIn (S : Nat → Bool) : AObj → Prop
  | .box cs => AV.refss S cs = true
  | .row cs _ _ => AV.refss S cs = true
  | .map es => ∀ p ∈ es, p.2.refs S = true

theorem CellsRep.restrict {w : World} {φ : PMap} {Λ : Lent} {S : Nat → Bool} {arr : Array Value} {o : Nat} {cells : List AV} (h : CellsRep w φ Λ arr o cells) (hS : AV.refss S cells = true) :
    CellsRep w (Fw.restrict S φ) Λ arr o cells := fun j c hj => by
  obtain ⟨v, h1, h2⟩ := h j c hj
  exact ⟨v, h1, h2.restrict (AV.refss_iff.1 hS c (List.mem_of_getElem? hj))⟩
theorem ObjRep.restrict {w : World} {φ : PMap} {Λ : Lent} {S : Nat → Bool} {ob : AObj} {l : Loc} (h : ObjRep w φ Λ ob l) (hS : ObjIn S ob) : ObjRep w (Fw.restrict S φ) Λ ob l := by
  cases ob with
  | box cs =>
    obtain ⟨b, arr, T, h1, h2, h3, h4, h5⟩ := h
    exact ⟨b, arr, T, h1, h2, h3, h4, h5.restrict hS⟩
  | row cs e v =>
    obtain ⟨h0, h1⟩ := h
    refine ⟨h0, ?_⟩
    rcases h1 with h1 | ⟨b, o, arr, T, lo, hi, h1, h2, h3, h4, h5⟩
    · exact .inl h1
    · exact .inr ⟨b, o, arr, T, lo, hi, h1, h2, h3, h4, h5.restrict hS⟩
  | map es =>
    obtain ⟨b, ents, clock, h1, h2, h3, h4, h5⟩ := h
    refine ⟨b, ents, clock, h1, h2, h3, h4, fun j p hp => ?_⟩
    obtain ⟨e, h6, h7, h8⟩ := h5 j p hp
    exact ⟨e, h6, h7, h8.restrict (hS p (List.mem_of_getElem? hp))⟩

/-- Some of the objects are let go. -/
theorem HSim.restrict {w : World} {φ : PMap} {Λ : Lent} {h h' : Heap} (hs : HSim w φ Λ h) {S : Nat → Bool} (h1 : ∀ id, S id = true → h' id = h id) (h2 : ∀ id, S id = false → h' id = none)
    (h3 : ∀ id ob, h' id = some ob → ObjIn S ob) : HSim w (Fw.restrict S φ) Λ h' where
  heap id ob hi := by
    cases hS : S id with
    | false => rw [h2 id hS] at hi; cases hi
    | true =>
      obtain ⟨l, k1, k2⟩ := hs.heap id ob ((h1 id hS).symm.trans hi)
      exact ⟨l, restrict_of hS k1, k2.restrict (h3 id ob hi)⟩
  dom id hi := by
    unfold Fw.restrict
    cases hS : S id with
    | false => rfl
    | true => exact hs.dom id ((h1 id hS).symm.trans hi)
  lt id l b o k1 k2 := hs.lt id l b o (restrict_some k1).2 k2
  inj id id' l l' b o o' k1 k2 := hs.inj id id' l l' b o o' (restrict_some k1).2 (restrict_some k2).2
  lent := hs.lent
theorem goes_restrict (w : World) (S : Nat → Bool) (φ : PMap) (hp : ∀ id, id < 8 → S id = false → φ id = none) : Goes w φ w (restrict S φ) :=
  ⟨fun _ _ _ => rfl, Nat.le_refl _, fun b h => .inl (owned_restrict h), rfl, rfl, rfl, fun id l hi hl => by
    cases hs : S id with
    | false => rw [hp id hi hs] at hl; cases hl
    | true => exact ⟨l, restrict_of hs hl, .inl rfl, fun _ b o arr T m _ hh => ⟨arr, T, m, hh, Nat.le_refl _⟩⟩⟩
/-- No object below 8 is let go. -/
def pinKept (h : Heap) (S : Nat → Bool) : Bool := (List.range 8).all fun id => S id || (h id).isNone
theorem pinKept_iff {h : Heap} {S : Nat → Bool} (hp : pinKept h S = true) {id : Nat} (hi : id < 8) (hs : S id = false) : h id = none := by
  have := List.all_eq_true.1 hp id (List.mem_range.2 hi)
  simpa [hs] using this

/-! ### States by their parts -/
def look : List (Nat × AV) → Nat → AV
  | [], _ => .any
  | (k, x) :: r, i => bif Nat.beq i k then x else look r i
def hlook : List (Nat × AObj) → Heap
  | [], _ => none
  | (k, x) :: r, i => bif Nat.beq i k then some x else hlook r i
def mkS (t : List (Nat × AV)) (h : List (Nat × AObj)) : AS := ⟨look t, hlook h⟩
def keys : List (Nat × AObj) → Nat → Bool
  | [], _ => false
  | (k, _) :: r, i => Nat.beq i k || keys r i
def HasT (s : AS) (S : Nat → Bool) : List (Nat × AV) → Prop
  | [] => True
  | (k, x) :: r => (s.t k = x ∧ x.refs S = true) ∧ HasT s S r
def HasH (h : Heap) (S : Nat → Bool) : List (Nat × AObj) → Prop
  | [] => True
  | (k, x) :: r => (h k = some x ∧ ObjIn S x) ∧ HasH h S r

theorem look_has {s : AS} {S : Nat → Bool} : ∀ {t : List (Nat × AV)}, HasT s S t → ∀ i, look t i = .any ∨ (s.t i = look t i ∧ (look t i).refs S = true)
  | [], _, i => .inl rfl
  | (k, x) :: r, h, i => by
    simp only [look]
    cases hb : Nat.beq i k with
    | true =>
      have := Nat.eq_of_beq_eq_true hb
      subst this
      exact .inr h.1
    | false => exact look_has h.2 i
theorem hlook_keys : ∀ {l : List (Nat × AObj)} {i : Nat}, keys l i = false → hlook l i = none
  | [], i, _ => rfl
  | (k, x) :: r, i, h => by
    simp only [keys, Bool.or_eq_false_iff] at h
    simp only [hlook, h.1, cond_false]
    exact hlook_keys h.2
theorem hlook_has {h : Heap} {S : Nat → Bool} : ∀ {l : List (Nat × AObj)}, HasH h S l → ∀ {i : Nat}, keys l i = true → hlook l i = h i ∧ ∃ ob, hlook l i = some ob ∧ ObjIn S ob
  | [], _, i, hk => by simp [keys] at hk
  | (k, x) :: r, hh, i, hk => by
    simp only [hlook]
    cases hb : Nat.beq i k with
    | true =>
      have := Nat.eq_of_beq_eq_true hb
      subst this
      exact ⟨hh.1.1.symm, x, rfl, hh.1.2⟩
    | false =>
      simp only [keys, hb, Bool.false_or] at hk
      exact hlook_has hh.2 hk

theorem Weak.mk {s : AS} {t : List (Nat × AV)} {h : List (Nat × AObj)} (h1 : HasT s (keys h) t) (h2 : HasH s.h (keys h) h) (hp : pinKept s.h (keys h) = true := by rfl) : Weak s (mkS t h) := by
  intro n Λ w φ a hs
  refine ⟨restrict (keys h) φ, ⟨hs.defs, hs.size, fun i => ?_, ?_⟩, goes_restrict w _ φ fun id hi hk => hs.hs.dom id (pinKept_iff hp hi hk)⟩
  · rcases look_has h1 i with e | ⟨e1, e2⟩
    · show Rep w _ Λ (look t i) _
      rw [e]
      exact .any
    · show Rep w _ Λ (look t i) _
      rw [← e1] at e2 ⊢
      exact (hs.tmps i).restrict e2
  · refine hs.hs.restrict (fun id hk => (hlook_has h2 hk).1) (fun id hk => hlook_keys hk) (fun id ob hk => ?_)
    cases hkk : keys h id with
    | false =>
      have := hlook_keys hkk
      simp only [mkS] at hk
      rw [this] at hk
      cases hk
    | true =>
      obtain ⟨_, ob', e1, e2⟩ := hlook_has h2 hkk
      simp only [mkS] at hk
      rw [e1] at hk
      cases hk
      exact e2

/-- Objects by their parts, at a function's end. -/
theorem Sees.mk {h0 : Heap} {r : AV} {h : List (Nat × AObj)} (h1 : r.refs (keys h) = true) (h2 : HasH h0 (keys h) h) (hp : pinKept h0 (keys h) = true := by rfl) : Sees h0 r (hlook h) r := fun w φ Λ v k1 k2 => by
  refine ⟨restrict (keys h) φ, ?_, k2.restrict h1, goes_restrict w _ φ fun id hi hk => k1.dom id (pinKept_iff hp hi hk)⟩
  refine k1.restrict (fun id hk => (hlook_has h2 hk).1) (fun id hk => hlook_keys hk) (fun id ob hk => ?_)
  cases hkk : keys h id with
  | false => rw [hlook_keys hkk] at hk; cases hk
  | true =>
    obtain ⟨_, ob', e1, e2⟩ := hlook_has h2 hkk
    rw [e1] at hk
    cases hk
    exact e2

section rules
variable {P : Program} {n : Nat} {Q : APost} {s : AS}

theorem AWp.cut {α : Type} {x y : Code} (S : α → AS) (h1 : AWp P n x (AExit.then (fun s' => ∃ a, Weak s' (S a)) Q) s) (h2 : ∀ a, AWp P n y Q (S a)) : AWp P n (.seq x y) Q s := by
  refine AWp.seq (h1.mono fun e s' q => ?_)
  cases e with
  | normal =>
    obtain ⟨a, hw⟩ := q
    exact AWp.weak hw (h2 a)
  | exit id => exact q
  | goto l => exact q
  | ret => exact q
  | panic x => exact q

/-- One result, and no object. -/
def Ret (r : AV) : AEnd → Heap → Prop := fun e h => e = .ret r ∧ h = emp

theorem ok_call0 {o : Oper} {d : Option Tmp} {fop : Operand} {argops : Array Operand} {tys : Array TypeId} {f : FuncId} {first caps A : List AV} {r : AV} (lv : Nat)
    (ho : o.op = .call { callee := .value fop, args := argops, argTypes := tys }) (hf : s.ev fop = .fn (.func f) first caps)
    (hfr : Frzs s.h lv (first ++ argops.toList.map s.ev ++ caps)) (hA : frzs s.h (lv + 1) (first ++ argops.toList.map s.ev ++ caps) = A) (hc : AC P f A emp (Ret r)) (hr : r.ok lv = true)
    (hdd : o.dst = d) (hd : d.all (Nat.blt · n) = true) : OpOk P n o s (s.put d r) := by
  intro Λ w φ a hs next QQ hN
  refine OpX.call0 (Q := fun _ _ => False) (K := fun s' => s' = s.put d r) lv ho hf hfr hA hc hdd hd (fun r' h' hR => ?_) (fun x h' hR => ?_) Λ w φ a hs next QQ (fun s' w' φ' a' hk hs' g => ?_) (fun x s' w' φ' a' q => q.elim)
  · obtain ⟨h1, _⟩ := hR
    cases h1
    exact ⟨hr, rfl⟩
  · exact absurd hR.1 (by simp)
  · subst hk
    exact hN w' φ' a' hs' g

/-- A function that ends with one result, its rows frozen. -/
theorem Fin.ret {te : TE} {fn : Func} {r : AV} {xs : List AV} (lv : Nat) (h1 : ResOks te s fn.results.toList xs) (h2 : Frz s.h lv (resVal xs)) (h3 : frz s.h lv (resVal xs) = r) (hp : pinFree s.h = true := by rfl) : Fin te fn (Ret r) s :=
  ⟨xs, r, emp, h1, h3 ▸ Sees.freeze h2 hp, rfl, rfl⟩
end rules

end Go.Proofs.Ytaemmklgofddmaa.Fw
