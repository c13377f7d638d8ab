/- Q3: loops and cuts that tell what changes; calls and ends, for scripts that a program prints; no condition. -/
import Derived.Test.YtaemmklgofddmaaQ2
set_option linter.unusedVariables false
set_option linter.unusedSimpArgs false
namespace Go.Proofs.Ytaemmklgofddmaa.Fw
open Go.RowKit

/-! ### What a state refers to is there -/
mutual
theorem AV.refs_mono {S S' : Nat → Bool} (h : ∀ i, S i = true → S' i = true) : ∀ {x : AV}, x.refs S = true → x.refs S' = true
  | .v _, _ | .any, _ | .bl, _ | .fz .., _ | .fp .., _ => rfl
  | .ptr .., h1 | .sl .., h1 | .mp .., h1 | .dp .., h1 => by
    simp only [AV.refs] at h1 ⊢
    exact h _ h1
  | .agg cs, h1 | .tup cs, h1 => by
    simp only [AV.refs] at h1 ⊢
    exact AV.refss_mono h h1
  | .fn _ a b, h1 => by
    simp only [AV.refs, Bool.and_eq_true] at h1 ⊢
    exact ⟨AV.refss_mono h h1.1, AV.refss_mono h h1.2⟩
  | .ifc _ x, h1 => by
    simp only [AV.refs] at h1 ⊢
    exact AV.refs_mono h h1
theorem AV.refss_mono {S S' : Nat → Bool} (h : ∀ i, S i = true → S' i = true) : ∀ {x : List AV}, AV.refss S x = true → AV.refss S' x = true
  | [], _ => rfl
  | c :: cs, h1 => by
    simp only [AV.refss, Bool.and_eq_true] at h1 ⊢
    exact ⟨AV.refs_mono h h1.1, AV.refss_mono h h1.2⟩
end
theorem ObjIn.mono {S S' : Nat → Bool} (h : ∀ i, S i = true → S' i = true) {ob : AObj} (k : ObjIn S ob) : ObjIn S' ob := by
  cases ob with
  | box c => exact AV.refss_mono h k
  | row c e v => exact AV.refss_mono h k
  | map es => exact fun p hp => AV.refs_mono h (k p hp)
theorem refss_all {S : Nat → Bool} {cs : List AV} (h : ∀ (j : Nat) c, cs[j]? = some c → c.refs S = true) : AV.refss S cs = true := AV.refss_iff.2 fun c hc => by
  obtain ⟨j, hj⟩ := List.getElem?_of_mem hc
  exact h j c hj
theorem Rep.refs_dom {w : World} {φ : PMap} {Λ : Lent} {x : AV} {v : Value} (h : Rep w φ Λ x v) : x.refs (fun id => (φ id).isSome) = true := by
  induction h with
  | v => rfl
  | any => rfl
  | bl => rfl
  | fz0 => rfl
  | fz => rfl
  | fp => rfl
  | agg vf h1 h2 h3 ih => exact refss_all ih
  | tup vf h1 h2 h3 ih => exact refss_all ih
  | fn vf wf h1 h2 h3 h4 h5 h6 ih1 ih2 =>
    simp only [AV.refs, Bool.and_eq_true]
    exact ⟨refss_all ih1, refss_all ih2⟩
  | ifc h ih => simpa only [AV.refs] using ih
  | ptr h => simp only [AV.refs, h, Option.isSome_some]
  | ptrx h => simp only [AV.refs, h, Option.isSome_some]
  | sl h => simp only [AV.refs, h, Option.isSome_some]
  | sl0 h => simp only [AV.refs, h, Option.isSome_some]
  | slx h => simp only [AV.refs, h, Option.isSome_some]
  | mp h => simp only [AV.refs, h, Option.isSome_some]
  | mpx h => simp only [AV.refs, h, Option.isSome_some]
  | dp h => simp only [AV.refs, h, Option.isSome_some]
  | dp0 h => simp only [AV.refs, h, Option.isSome_some]
  | dpx h => simp only [AV.refs, h, Option.isSome_some]
def isIn (h : Heap) (id : Nat) : Bool := (h id).isSome
def Dom (s : AS) : Prop := (∀ i, (s.t i).refs (isIn s.h) = true) ∧ ∀ k ob, s.h k = some ob → ObjIn (isIn s.h) ob
theorem HSim.has {w : World} {φ : PMap} {Λ : Lent} {h : Heap} (hs : HSim w φ Λ h) {id : Nat} (hk : (φ id).isSome = true) : isIn h id = true := by
  cases he : h id with
  | none => rw [hs.dom id he] at hk; cases hk
  | some ob => simp [isIn, he]
theorem Sim.dom {n : Nat} {w : World} {φ : PMap} {Λ : Lent} {s : AS} {a : Act} (hs : Sim n w φ Λ s a) : Dom s := by
  have hcell : ∀ {arr : Array Value} {o : Nat} {cells : List AV}, CellsRep w φ Λ arr o cells → AV.refss (isIn s.h) cells = true := fun {arr o cells} h => AV.refss_iff.2 fun c hc => by
    obtain ⟨j, hj⟩ := List.getElem?_of_mem hc
    obtain ⟨v, _, h2⟩ := h j c hj
    exact AV.refs_mono (fun i => hs.hs.has) h2.refs_dom
  refine ⟨fun i => AV.refs_mono (fun i => hs.hs.has) (hs.tmps i).refs_dom, fun k ob hk => ?_⟩
  obtain ⟨l, _, ho⟩ := hs.hs.heap k ob hk
  cases ob with
  | box c =>
    obtain ⟨b, arr, T, _, _, _, _, h⟩ := ho
    exact hcell h
  | row c e v =>
    obtain ⟨_, h | ⟨b, o, arr, T, lo, hi, _, _, _, _, h⟩⟩ := ho
    · rw [h.2]; rfl
    · exact hcell h
  | map es =>
    obtain ⟨b, ents, clock, _, _, _, _, h⟩ := ho
    intro p hp
    obtain ⟨j, hj⟩ := List.getElem?_of_mem hp
    obtain ⟨e, _, _, h2⟩ := h j p hj
    exact AV.refs_mono (fun i => hs.hs.has) h2.refs_dom
theorem AWp.dom {P : Program} {n : Nat} {c : Code} {Q : APost} {s : AS} (h : Dom s → AWp P n c Q s) : AWp P n c Q s := fun Λ w φ a hs => h hs.dom Λ w φ a hs

/-! ### A state with some places changed -/
def memN : List Nat → Nat → Bool
  | [], _ => false
  | k :: r, i => bif Nat.beq i k then true else memN r i
def overT (K : List Nat) : List (Nat × AV) → (Nat → AV) → Nat → AV
  | [], f, i => bif memN K i then .any else f i
  | (k, x) :: r, f, i => bif Nat.beq i k then x else overT K r f i
def overH : List (Nat × AObj) → Heap → Heap
  | [], h, i => h i
  | (k, x) :: r, h, i => bif Nat.beq i k then some x else overH r h i
def AS.over (s : AS) (K : List Nat) (T : List (Nat × AV)) (H : List (Nat × AObj)) : AS := ⟨overT K T s.t, overH H s.h⟩
def keep (H : List (Nat × AObj)) (h : Heap) (id : Nat) : Bool := keys H id || isIn h id
def AgT (K : List Nat) (f g : Nat → AV) : Prop := ∀ i, memN K i = false → f i = g i
def AgH (H : List (Nat × AObj)) (h h0 : Heap) : Prop := ∀ k, keys H k = false → isIn h0 k = true → h k = h0 k

theorem overT_cases {K : List Nat} {f : Nat → AV} {s : AS} {S : Nat → Bool} : ∀ {T : List (Nat × AV)}, HasT s S T → ∀ i, (overT K T f i = .any) ∨ (overT K T f i = f i ∧ memN K i = false) ∨ (s.t i = overT K T f i ∧ (overT K T f i).refs S = true)
  | [], _, i => by
    simp only [overT]
    cases memN K i
    · exact .inr (.inl ⟨rfl, rfl⟩)
    · exact .inl rfl
  | (k, x) :: r, h, i => by
    simp only [overT]
    cases hb : Nat.beq i k with
    | true =>
      have := Nat.eq_of_beq_eq_true hb
      subst this
      exact .inr (.inr h.1)
    | false => exact overT_cases h.2 i
theorem overH_out : ∀ {H : List (Nat × AObj)} {h : Heap} {i : Nat}, keys H i = false → overH H h i = h i
  | [], _, _, _ => rfl
  | (k, x) :: r, h, i, e => by
    simp only [keys, Bool.or_eq_false_iff] at e
    simp only [overH, e.1, cond_false]
    exact overH_out e.2
theorem overH_in {h1 : Heap} {S : Nat → Bool} : ∀ {H : List (Nat × AObj)} {h : Heap}, HasH h1 S H → ∀ {i : Nat}, keys H i = true → overH H h i = h1 i ∧ ∃ ob, overH H h i = some ob ∧ ObjIn S ob
  | [], _, _, i, hk => by simp [keys] at hk
  | (k, x) :: r, h, hh, i, hk => by
    simp only [overH]
    cases hb : Nat.beq i k with
    | true =>
      have := Nat.eq_of_beq_eq_true hb
      subst this
      exact ⟨hh.1.1.symm, x, rfl, hh.1.2⟩
    | false =>
      simp only [keys, hb, Bool.false_or] at hk
      exact overH_in hh.2 hk
structure Back (s0 s' : AS) (K : List Nat) (T : List (Nat × AV)) (H : List (Nat × AObj)) : Prop where
  hT : HasT s' (keep H s0.h) T
  hH : HasH s'.h (keep H s0.h) H
  aT : AgT K s'.t s0.t
  aH : AgH H s'.h s0.h
  hp : pinKept s'.h (keep H s0.h) = true
theorem Back.weak {s0 s' : AS} {K : List Nat} {T : List (Nat × AV)} {H : List (Nat × AObj)} (hd : Dom s0) (b : Back s0 s' K T H) : Weak s' (s0.over K T H) := by
  intro n Λ w φ a hs
  have hS : ∀ i, isIn s0.h i = true → keep H s0.h i = true := fun i h => by simp [keep, h]
  refine ⟨restrict (keep H s0.h) φ, ⟨hs.defs, hs.size, fun i => ?_, ?_⟩, goes_restrict w _ φ fun id hi hk => hs.hs.dom id (pinKept_iff b.hp hi hk)⟩
  · show Rep w _ Λ (overT K T s0.t i) _
    rcases overT_cases (K := K) (f := s0.t) b.hT i with e | ⟨e, e2⟩ | ⟨e1, e2⟩
    · rw [e]; exact .any
    · rw [e, ← b.aT i e2]
      refine (hs.tmps i).restrict ?_
      rw [b.aT i e2]
      exact AV.refs_mono hS (hd.1 i)
    · rw [← e1] at e2 ⊢
      exact (hs.tmps i).restrict e2
  · refine hs.hs.restrict (fun id hk => ?_) (fun id hk => ?_) (fun id ob hk => ?_)
    · show overH H s0.h id = s'.h id
      cases hb : keys H id with
      | true => exact (overH_in b.hH hb).1
      | false =>
        simp only [keep, hb, Bool.false_or] at hk
        rw [overH_out hb, b.aH id hb hk]
    · simp only [keep, Bool.or_eq_false_iff] at hk
      show overH H s0.h id = none
      rw [overH_out hk.1]
      have := hk.2
      simp only [isIn] at this
      simpa using this
    · replace hk : overH H s0.h id = some ob := hk
      cases hb : keys H id with
      | true =>
        obtain ⟨_, ob', e1, e2⟩ := overH_in (h := s0.h) b.hH hb
        rw [e1] at hk
        cases hk
        exact e2
      | false =>
        rw [overH_out hb] at hk
        exact ObjIn.mono hS (hd.2 id ob hk)

/-! ### What agrees -/
theorem AgT.refl (K : List Nat) (f : Nat → AV) : AgT K f f := fun _ _ => rfl
theorem AgT.put {K : List Nat} {s : AS} {g : Nat → AV} {d : Nat} {x : AV} (h : memN K d = true) (k : AgT K s.t g) : AgT K (s.put (some d) x).t g := fun i hi => by
  have : i ≠ d := fun e => by rw [e, h] at hi; cases hi
  show upd s.t d x i = _
  rw [upd_other _ _ _ _ this]
  exact k i hi
theorem AgT.putn {K : List Nat} {s : AS} {g : Nat → AV} {x : AV} (k : AgT K s.t g) : AgT K (s.put none x).t g := k
theorem AgT.seth {K : List Nat} {s : AS} {g : Nat → AV} {id : Nat} {ob : Option AObj} (k : AgT K s.t g) : AgT K (s.seth id ob).t g := k
theorem AgT.setl {K : List Nat} {s : AS} {g : Nat → AV} {l : List (Nat × AObj)} (k : AgT K s.t g) : AgT K (s.setl l).t g := by rw [setl_t]; exact k
theorem AgT.over {K K' : List Nat} {T : List (Nat × AV)} {H : List (Nat × AObj)} {s : AS} {g : Nat → AV} (h1 : (T.all fun p => memN K p.1) = true) (h2 : (K'.all (memN K)) = true) (k : AgT K s.t g) : AgT K (s.over K' T H).t g := fun i hi => by
  show overT K' T s.t i = g i
  rw [← k i hi]
  induction T with
  | nil =>
    simp only [overT]
    have : memN K' i = false := by
      cases hb : memN K' i with
      | false => rfl
      | true =>
        exfalso
        have : ∀ {L : List Nat}, memN L i = true → i ∈ L := fun {L} => by
          induction L with
          | nil => intro h; cases h
          | cons a r ih =>
            intro h
            simp only [memN] at h
            cases hc : Nat.beq i a with
            | true => rw [Nat.eq_of_beq_eq_true hc]; exact List.mem_cons_self
            | false => rw [hc] at h; exact List.mem_cons_of_mem _ (ih h)
        have h3 := List.all_eq_true.1 h2 i (this hb)
        rw [h3] at hi
        cases hi
    rw [this]
    rfl
  | cons p r ih =>
    obtain ⟨k', x⟩ := p
    simp only [List.all_cons, Bool.and_eq_true] at h1
    simp only [overT]
    have : Nat.beq i k' = false := by
      cases hb : Nat.beq i k' with
      | false => rfl
      | true => rw [Nat.eq_of_beq_eq_true hb, h1.1] at hi; cases hi
    rw [this]
    exact ih h1.2
theorem AgH.refl (H : List (Nat × AObj)) (h : Heap) : AgH H h h := fun _ _ _ => rfl
theorem AgH.put {H : List (Nat × AObj)} {s : AS} {h0 : Heap} {d : Option Nat} {x : AV} (k : AgH H s.h h0) : AgH H (s.put d x).h h0 := by
  cases d <;> exact k
theorem AgH.seth {H : List (Nat × AObj)} {s : AS} {h0 : Heap} {id : Nat} {ob : Option AObj} (h : (keys H id || !(isIn h0 id)) = true) (k : AgH H s.h h0) : AgH H (s.seth id ob).h h0 := fun i h1 h2 => by
  have : i ≠ id := fun e => by rw [e] at h1 h2; rw [h1, h2] at h; cases h
  show upd s.h id ob i = _
  rw [upd_other _ _ _ _ this]
  exact k i h1 h2
theorem AgH.setl {H : List (Nat × AObj)} {s : AS} {h0 : Heap} : ∀ {l : List (Nat × AObj)}, (l.all fun p => keys H p.1 || !(isIn h0 p.1)) = true → AgH H s.h h0 → AgH H (s.setl l).h h0
  | [], _, k => k
  | (id, ob) :: r, h, k => by
    simp only [List.all_cons, Bool.and_eq_true] at h
    exact AgH.seth h.1 (AgH.setl h.2 k)
theorem AgH.over {H H' : List (Nat × AObj)} {K : List Nat} {T : List (Nat × AV)} {s : AS} {h0 : Heap} (h : (H'.all fun p => keys H p.1 || !(isIn h0 p.1)) = true) (k : AgH H s.h h0) : AgH H (s.over K T H').h h0 := fun i h1 h2 => by
  show overH H' s.h i = _
  rw [← k i h1 h2]
  refine overH_out ?_
  induction H' with
  | nil => rfl
  | cons p r ih =>
    obtain ⟨k', x⟩ := p
    simp only [List.all_cons, Bool.and_eq_true] at h
    simp only [keys, Bool.or_eq_false_iff]
    refine ⟨?_, ih h.2⟩
    cases hb : Nat.beq i k' with
    | false => rfl
    | true =>
      have e := Nat.eq_of_beq_eq_true hb
      subst e
      rw [h1, h2] at h
      simp at h

theorem HasT.nil {s : AS} {S : Nat → Bool} : HasT s S [] := trivial
theorem HasT.cons {s : AS} {S : Nat → Bool} {k : Nat} {x : AV} {r : List (Nat × AV)} (h : HasT s S r) (h1 : s.t k = x := by first | exact rfl | exact i64_eq (by omega) | exact str_eq (by simp))
    (h2 : x.refs S = true := by exact rfl) : HasT s S ((k, x) :: r) := ⟨⟨h1, h2⟩, h⟩
theorem HasH.nil {s : Heap} {S : Nat → Bool} : HasH s S [] := trivial
theorem cl_refs {α : Type} {f : α → List AV} {l : List α} {S : Nat → Bool} (h : ∀ x, AV.refss S (f x) = true) : AV.refss S (cl f l) = true := AV.refss_iff.2 (cl_mem fun x _ => AV.refss_iff.1 (h x))
theorem HasH.cons {s : Heap} {S : Nat → Bool} {k : Nat} {x : AObj} {r : List (Nat × AObj)} (h : HasH s S r) (h1 : s k = some x := by first | exact rfl)
    (h2 : ObjIn S x := by first | exact rfl | exact cl_refs (fun _ => rfl)) : HasH s S ((k, x) :: r) := ⟨⟨h1, h2⟩, h⟩
theorem Back.mk' {s0 s' : AS} {K : List Nat} {T : List (Nat × AV)} {H : List (Nat × AObj)} (hT : HasT s' (keep H s0.h) T) (hH : HasH s'.h (keep H s0.h) H)
    (aT : AgT K s'.t s0.t := by repeat (first | exact AgT.refl _ _ | refine AgT.put rfl ?_ | refine AgT.putn ?_ | refine AgT.seth ?_ | refine AgT.setl ?_ | refine AgT.over rfl rfl ?_))
    (aH : AgH H s'.h s0.h := by repeat (first | exact AgH.refl _ _ | refine AgH.put ?_ | refine AgH.seth rfl ?_ | refine AgH.setl rfl ?_ | refine AgH.over rfl ?_))
    (hp : pinKept s'.h (keep H s0.h) = true := by exact rfl) : Back s0 s' K T H := ⟨hT, hH, aT, aH, hp⟩
section
variable {P : Program} {n : Nat} {Q : APost} {s : AS} {te : TE}
theorem AWp.as {c : Code} {s' : AS} (h : s = s') (k : AWp P n c Q s') : AWp P n c Q s := h ▸ k
/-- A LOOP: what changes is told. -/
theorem AWp.loopR {α : Type} {c : Code} (K : List Nat) (T : α → List (Nat × AV)) (H : α → List (Nat × AObj)) (I : α → Prop) (μ : α → Nat) (x0 : α) (hI : I x0) (h0 : Back s s K (T x0) (H x0))
    (round : ∀ x, I x → AWp P n c (AExit.then (fun s' => ∃ x', I x' ∧ Back s s' K (T x') (H x') ∧ μ x' < μ x) Q) (s.over K (T x) (H x))) : AWp P n (.loop c) Q s :=
  .dom fun hd => AWp.loopI (fun x => s.over K (T x) (H x)) I μ x0 hI (h0.weak hd) fun x hx => (round x hx).mono fun e s' q => by
    cases e with
    | normal =>
      obtain ⟨x', h1, h2, h3⟩ := q
      exact ⟨x', h1, h2.weak hd, h3⟩
    | exit id => exact q
    | goto l => exact q
    | ret => exact q
    | panic x => exact q
/-- A CUT: what has changed is told. -/
theorem AWp.cutR {α : Type} {x y : Code} (K : List Nat) (T : α → List (Nat × AV)) (H : α → List (Nat × AObj)) (I : α → Prop) (h1 : AWp P n x (AExit.then (fun s' => ∃ a, I a ∧ Back s s' K (T a) (H a)) Q) s)
    (h2 : ∀ a, I a → AWp P n y Q (s.over K (T a) (H a))) : AWp P n (.seq x y) Q s :=
  .dom fun hd => AWp.cutI (fun a => s.over K (T a) (H a)) I (h1.mono fun e s' q => by
    cases e with
    | normal =>
      obtain ⟨a, h1, h2⟩ := q
      exact ⟨a, h1, h2.weak hd⟩
    | exit id => exact q
    | goto l => exact q
    | ret => exact q
    | panic x => exact q) h2
end

/-! ### Calls and ends -/
section
variable {h : Heap} {lo hi : Nat}
theorem fv_nilz {l k : Nat} {α : Type} {f : α → List AV} : FVal h lo hi (.v (.slice none 0 k)) (.fz l ([] : List α).length (cl f [])) := fv_nil
theorem fv_row0 {id ver esz : Nat} {α : Type} {f : α → List AV} {l : List α} {ob : AObj} (h1 : h id = some ob) (h2 : ObAt ob ver (cl f l)) (hf : ∀ x, (f x).length = esz) (h5 : 0 < esz) (h3 : ∀ x, AV.oks lo (f x) = true) :
    FVal h lo hi (.sl id ver 0 l.length esz) (.fz hi l.length (cl f l)) :=
  fv_row h1 h2.at (cl_oks h3) (by rw [cl_length hf]; omega) h5 (by rw [List.drop_zero, List.take_of_length_le (by rw [cl_length hf]; omega)])
theorem fv_ptrb {id ver off : Nat} {ob : AObj} {cells cs : List AV} (h1 : h id = some ob) (h2 : ObAt ob ver cells) (h3 : AV.oks lo cells = true) (h4 : Nat.ble (off + 1) cells.length = true) (h6 : cells.drop off = cs) : FVal h lo hi (.ptr id ver off) (.fp hi cs) :=
  fv_ptr h1 h2.at h3 (Nat.le_of_ble_eq_true h4) h6
theorem fv_okb {a b : AV} (hab : a = b) (e : b.ok lo = true) : FVal h lo hi a b := by
  subst hab
  exact fv_ok e
theorem ble_of {a b : Nat} (h : a ≤ b) : Nat.ble a b = true := Nat.ble_eq_true_of_le h
/-- A row whose elements were written over. -/
theorem fv_rowe {id ver esz len : Nat} {α : Type} {f : α → List AV} {l : List α} {ob : AObj} (h1 : h id = some ob) (h2 : ObAt ob ver (cl f l)) (hf : ∀ x, (f x).length = esz) (h5 : 0 < esz) (h3 : ∀ x, AV.oks lo (f x) = true) (hl : len = l.length) :
    FVal h lo hi (.sl id ver 0 len esz) (.fz hi l.length (cl f l)) := by
  subst hl
  exact fv_row0 h1 h2 hf h5 h3
/-- A part of a row of one-cell elements. -/
theorem fv_row1 {id ver a m : Nat} {α : Type} {f : α → List AV} {l : List α} {ob : AObj} (h1 : h id = some ob) (h2 : ObAt ob ver (cl f l)) (hf : ∀ x, (f x).length = 1) (h3 : ∀ x, AV.oks lo (f x) = true) (hm : a + m ≤ l.length) :
    FVal h lo hi (.sl id ver a m 1) (.fz hi ((l.drop a).take m).length (cl f ((l.drop a).take m))) := by
  have e : ((l.drop a).take m).length = m := by simp; omega
  rw [e]
  refine fv_row h1 h2.at (cl_oks h3) (by rw [cl_length hf]; omega) (by decide) ?_
  have e1 := cl_drop hf l a
  have e2 := cl_take hf (l.drop a) m
  rw [Nat.mul_one] at e1 e2 ⊢
  rw [e1, e2]
/-- A part of a row. -/
theorem fv_rowp {id ver esz : Nat} (a m : Nat) {α : Type} {f : α → List AV} {l : List α} {ob : AObj} (h1 : h id = some ob) (h2 : ObAt ob ver (cl f l)) (hf : ∀ x, (f x).length = esz) (h5 : 0 < esz) (h3 : ∀ x, AV.oks lo (f x) = true) (hm : a + m ≤ l.length)
    {l' : List α} (hl : (l.drop a).take m = l') : FVal h lo hi (.sl id ver (a * esz) m esz) (.fz hi l'.length (cl f l')) := by
  subst hl
  have e : ((l.drop a).take m).length = m := by simp; omega
  rw [e]
  refine fv_row h1 h2.at (cl_oks h3) ?_ h5 ?_
  · rw [cl_length hf, ← Nat.add_mul]
    exact Nat.mul_le_mul_right _ hm
  · rw [cl_drop hf, cl_take hf]
end
section
variable {n : Nat} {s : AS} {o : Oper} {d : Option Tmp} {Q : APost}
theorem res_tmp' {t : Tmp} {x : AV} (h : s.t t = x := by conv => lhs; whnf) : ResOk te s (.tmp t) x := h
theorem res_cell' {a : Tmp} {ty : TypeId} {x y : AV} {cs : List AV} {ti : TI} (hx : s.t a = y := by conv => lhs; whnf) (ht : te.get ty = some ti := by exact rfl) (hp : 0 < ti.size := by exact Nat.le_of_ble_eq_true rfl) (hz : LoadTo s ti.size y cs := by first | exact .ptr rfl .box rfl)
    (hptr : (match y with | .ptr .. => true | _ => false) = true := by exact rfl) (hy : mkAV ti.k.agg cs = x := by conv => lhs; whnf) : ResOk te s (.cell a ty) x := by
  cases hz with
  | fp h => cases hptr
  | ptr hob hat h => exact ⟨_, _, _, _, _, _, hx, hob, hat.at, ht, h, hp, hy⟩
  | el hob hat hf hj =>
    have e := cl_at hf hj
    exact ⟨_, _, _, _, _, _, hx, hob, hat.at, ht, by rw [e]; exact hf _, hp, by rw [e]; exact hy⟩
  | @el1 α _ id ver j ob f l hsz hob hat hf hj =>
    have e := cl_at (i := j) hf hj
    rw [Nat.mul_one, ← hsz] at e
    exact ⟨_, _, _, _, _, _, hx, hob, hat.at, ht, by rw [e, hsz]; exact hf _, hp, by rw [e]; exact hy⟩
theorem q_call (lv : Nat) {f : FuncId} {A : List AV} {r : AV} {fop : Operand} {argops : Array Operand} {tys : Array TypeId} {first caps : List AV}
    (ho : o.op = .call { callee := .value fop, args := argops, argTypes := tys } := by exact rfl) (hf : s.ev fop = .fn (.func f) first caps := by exact rfl)
    (hA : FVals s.h lv (lv + 1) (first ++ argops.toList.map s.ev ++ caps) A := by repeat' (first | exact trivial | refine ⟨?_, ?_⟩ | exact fv_ok rfl | exact fv_nilz | exact fv_row0 rfl .row (fun _ => rfl) (Nat.le_of_ble_eq_true rfl) (fun _ => rfl) | exact fv_rowe rfl .row (fun _ => rfl) (Nat.le_of_ble_eq_true rfl) (fun _ => rfl) (by simp only [List.length_set]; done) | exact fv_row1 rfl .row (fun _ => rfl) (fun _ => rfl) (by first | omega | (simp; omega)) | exact fv_ptrb rfl .box rfl rfl rfl | refine fv_fn ?_ ?_ | exact fv_okb rfl (ble_of (by omega)) | (refine fv_okb rfl ?_; simp [AV.ok, AV.oks]; done)))
    (hr : r.ok lv = true := by first | exact rfl | exact ble_of (by omega) | (simp [AV.ok, AV.oks]; done)) (hdd : o.dst = d := by conv => lhs; whnf) (hd : d.all (Nat.blt · n) = true := by exact rfl) (hc : AC Try.prog f A emp (Ret r)) : OpOk Try.prog n o s (s.put d r) := ok_call lv ho hf hc hA hr hdd hd
theorem q_ret (lv : Nat) (xs ys : List AV) {fn : Func} {r : AV} (h3 : resVal ys = r) (h1 : ResOks te s fn.results.toList xs := by repeat' (first | exact trivial | exact res_tmp' | exact res_cell' | refine ⟨?_, ?_⟩))
    (h2 : FVals s.h lv lv xs ys := by repeat' (first | exact trivial | refine ⟨?_, ?_⟩ | exact fv_ok rfl | exact fv_nilz | exact fv_row0 rfl .row (fun _ => rfl) (Nat.le_of_ble_eq_true rfl) (fun _ => rfl) | exact fv_rowe rfl .row (fun _ => rfl) (Nat.le_of_ble_eq_true rfl) (fun _ => rfl) (by simp only [List.length_set]; done) | exact fv_row1 rfl .row (fun _ => rfl) (fun _ => rfl) (by first | omega | (simp; omega)) | exact fv_ptrb rfl .box rfl rfl rfl | refine fv_fn ?_ ?_ | exact fv_okb rfl (ble_of (by omega)) | (refine fv_okb rfl ?_; simp [AV.ok, AV.oks]; done)))
    (hp : pinFree s.h = true := by exact rfl) : Fin te fn (Ret r) s := Fin.ret2 lv h1 h2 h3 hp
end
end Go.Proofs.Ytaemmklgofddmaa.Fw
