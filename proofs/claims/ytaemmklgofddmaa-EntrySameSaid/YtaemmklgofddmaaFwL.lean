/- Fw12: regions that draw their order: the text's order serves every order, where what conflicts is ordered; no condition. -/
import Derived.Test.YtaemmklgofddmaaFwK
set_option linter.unusedVariables false
set_option linter.unusedSimpArgs false
namespace Go.Proofs.Ytaemmklgofddmaa.Fw
open Go.RowKit

/-- A step of a region: what it reads, and what it changes. -/
structure DS where
  i : Nat
  rt : List Nat
  rh : List Nat
  d : Option Nat
  x : AV
  wh : Option (Nat × AObj)

def AS.seto (s : AS) : Option (Nat × AObj) → AS
  | none => s
  | some (k, ob) => s.seth k (some ob)
def DS.upd (e : DS) (s : AS) : AS := (s.seto e.wh).put e.d e.x

theorem DS.upd_t (e : DS) (s : AS) (t : Nat) : (e.upd s).t t = if e.d = some t then e.x else s.t t := by
  unfold DS.upd
  have h0 : (s.seto e.wh).t = s.t := by cases e.wh <;> rfl
  cases hd : e.d with
  | none => simp [AS.put, h0]
  | some d =>
    simp only [AS.put, h0]
    by_cases h : t = d
    · subst h; simp [upd_same]
    · rw [upd_other _ _ _ _ h, if_neg (fun e => h (by cases e; rfl))]
theorem DS.upd_h (e : DS) (s : AS) (k : Nat) : (e.upd s).h k = match e.wh with | some (j, ob) => if k = j then some ob else s.h k | none => s.h k := by
  unfold DS.upd
  have h0 : ((s.seto e.wh).put e.d e.x).h = (s.seto e.wh).h := by cases e.d <;> rfl
  rw [h0]
  cases hw : e.wh with
  | none => rfl
  | some p =>
    obtain ⟨j, ob⟩ := p
    simp only [AS.seto, AS.seth]
    by_cases h : k = j
    · subst h; simp [upd_same]
    · rw [upd_other _ _ _ _ h, if_neg h]

theorem AS.ext {s s' : AS} (h1 : ∀ t, s.t t = s'.t t) (h2 : ∀ k, s.h k = s'.h k) : s = s' := by
  cases s; cases s'
  simp only [AS.mk.injEq]
  exact ⟨funext h1, funext h2⟩

def DS.wf (e : DS) : Bool := match e.wh with
  | some (k, _) => e.rh.contains k
  | none => true
def indep (a b : DS) : Bool :=
  (match a.d with | some d => !b.rt.contains d && !(b.d == some d) | none => true) && (match b.d with | some d => !a.rt.contains d | none => true) &&
  (match a.wh with | some (k, _) => !b.rh.contains k | none => true) && (match b.wh with | some (k, _) => !a.rh.contains k | none => true)

section
variable {P : Program} {n : Nat} {ops : Array Oper} {Q : APost}

/-- One operation of a region, its guard looked at. -/
def OpAt (P : Program) (n : Nat) (ops : Array Oper) (i : Nat) (s s' : AS) : Prop :=
  ∀ Λ w φ a, Sim n w φ Λ s a → ∀ (K : Act → World → Prop) (QQ : Exit → Act → World → Prop), (∀ w' φ' a', Sim n w' φ' Λ s' a' → Goes w φ w' φ' → K a' w') → wpOp P ops QQ i K a w

theorem OpAt.go {i : Nat} {o : Oper} {s s' : AS} (ho : ops[i]? = some o) (hg : o.guard = none) (h : OpOk P n o s s') : OpAt P n ops i s s' := by
  intro Λ w φ a hs K QQ hK
  simp only [wpOp, ho, Region.wanted, hg, if_true]
  exact .inl (h Λ w φ a hs _ _ hK)
theorem OpAt.ggo {i : Nat} {o : Oper} {s s' : AS} {j : Nat} {want : Bool} {oj : Oper} {d : Nat} (ho : ops[i]? = some o) (hg : o.guard = some (j, want)) (hj : ops[j]? = some oj)
    (hd : oj.dst = some d) (hb : s.t d = tf want) (h : OpOk P n o s s') : OpAt P n ops i s s' := by
  intro Λ w φ a hs K QQ hK
  have hy := hs.yielded hj hd hb
  simp only [wpOp, ho, Region.wanted, hg, hy, beq_self_eq_true, if_true]
  exact .inl (h Λ w φ a hs _ _ hK)
theorem OpAt.gskip {i : Nat} {o : Oper} {s : AS} {j : Nat} {want b : Bool} {oj : Oper} {d : Nat} {dd : Option Tmp} (ho : ops[i]? = some o) (hg : o.guard = some (j, want)) (hj : ops[j]? = some oj)
    (hd : oj.dst = some d) (hb : s.t d = tf b) (hne : (b == want) = false) (hdd : o.dst = dd) (hn : dd.all (Nat.blt · n) = true) : OpAt P n ops i s (s.put dd (.v undef)) := by
  intro Λ w φ a hs K QQ hK
  have hy := hs.yielded hj hd hb
  have hw : (some b == some want) = false := by simpa using hne
  simp only [wpOp, ho, Region.wanted, hg, hy, hw, Bool.false_eq_true, if_false]
  subst hdd
  exact hK w φ _ (hs.put o.dst hn .v) (Goes.refl _ _)

def DS.Ok (P : Program) (n : Nat) (ops : Array Oper) (e : DS) (s : AS) : Prop :=
  ∀ s', (∀ t ∈ e.rt, s'.t t = s.t t) → (∀ k ∈ e.rh, s'.h k = s.h k) → OpAt P n ops e.i s' (e.upd s')

theorem DS.Ok.congr {e : DS} {s s2 : AS} (h : e.Ok P n ops s) (ht : ∀ t ∈ e.rt, s2.t t = s.t t) (hh : ∀ k ∈ e.rh, s2.h k = s.h k) : e.Ok P n ops s2 :=
  fun s' h1 h2 => h s' (fun t k => (h1 t k).trans (ht t k)) (fun t k => (h2 t k).trans (hh t k))

theorem indep_spec {a b : DS} (h : indep a b = true) : (∀ d, a.d = some d → d ∉ b.rt ∧ b.d ≠ some d) ∧ (∀ d, b.d = some d → d ∉ a.rt) ∧ (∀ k ob, a.wh = some (k, ob) → k ∉ b.rh) ∧ (∀ k ob, b.wh = some (k, ob) → k ∉ a.rh) := by
  unfold indep at h
  simp only [Bool.and_eq_true] at h
  obtain ⟨⟨⟨h1, h2⟩, h3⟩, h4⟩ := h
  refine ⟨fun d hd => ?_, fun d hd => ?_, fun k ob hk => ?_, fun k ob hk => ?_⟩
  · simp only [hd, Bool.and_eq_true, Bool.not_eq_true'] at h1
    exact ⟨by simpa using h1.1, by simpa using h1.2⟩
  · simpa [hd] using h2
  · simpa [hk] using h3
  · simpa [hk] using h4
theorem indep_symm {a b : DS} (h : indep a b = true) : indep b a = true := by
  obtain ⟨h1, h2, h3, h4⟩ := indep_spec h
  unfold indep
  simp only [Bool.and_eq_true]
  refine ⟨⟨⟨?_, ?_⟩, ?_⟩, ?_⟩
  · cases hd : b.d with
    | none => rfl
    | some d =>
      simp only [Bool.and_eq_true, Bool.not_eq_true']
      refine ⟨by simpa using h2 d hd, ?_⟩
      cases hb : (a.d == some d) with
      | false => rfl
      | true =>
        have := (h1 d (by simpa using hb)).2
        exact absurd hd this
  · cases hd : a.d with
    | none => rfl
    | some d => simpa using (h1 d hd).1
  · cases hd : b.wh with
    | none => rfl
    | some p => simpa using h4 p.1 p.2 hd
  · cases hd : a.wh with
    | none => rfl
    | some p => simpa using h3 p.1 p.2 hd

theorem DS.Ok.over {a b : DS} {s : AS} (hi : indep a b = true) (h : b.Ok P n ops s) : b.Ok P n ops (a.upd s) := by
  obtain ⟨h1, h2, h3, h4⟩ := indep_spec hi
  refine h.congr (fun t ht => ?_) (fun k hk => ?_)
  · rw [DS.upd_t, if_neg]
    intro e
    exact (h1 t e).1 ht
  · rw [DS.upd_h]
    cases hw : a.wh with
    | none => rfl
    | some p =>
      simp only
      rw [if_neg]
      intro e
      exact h3 p.1 p.2 hw (e ▸ hk)
theorem DS.Ok.under {a b : DS} {s : AS} (hi : indep a b = true) (h : b.Ok P n ops (a.upd s)) : b.Ok P n ops s := by
  obtain ⟨h1, h2, h3, h4⟩ := indep_spec hi
  refine h.congr (fun t ht => ?_) (fun k hk => ?_)
  · rw [DS.upd_t, if_neg]
    intro e
    exact (h1 t e).1 ht
  · rw [DS.upd_h]
    cases hw : a.wh with
    | none => rfl
    | some p =>
      simp only
      rw [if_neg]
      intro e
      exact h3 p.1 p.2 hw (e ▸ hk)
theorem upd_comm {a b : DS} (hi : indep a b = true) (hb : b.wf = true) (s : AS) : a.upd (b.upd s) = b.upd (a.upd s) := by
  obtain ⟨h1, h2, h3, h4⟩ := indep_spec hi
  refine AS.ext (fun t => ?_) (fun k => ?_)
  · simp only [DS.upd_t]
    by_cases e1 : a.d = some t
    · have := (h1 t e1).2
      rw [if_pos e1, if_neg this, if_pos e1]
    · rw [if_neg e1, if_neg e1]
  · simp only [DS.upd_h]
    cases hwa : a.wh with
    | none => rfl
    | some p =>
      cases hwb : b.wh with
      | none => rfl
      | some q =>
        simp only
        have hne : q.1 ≠ p.1 := by
          intro e
          have h5 := h3 p.1 p.2 hwa
          unfold DS.wf at hb
          rw [hwb] at hb
          simp only [List.contains_eq_mem, decide_eq_true_eq] at hb
          exact h5 (e ▸ hb)
        by_cases e1 : k = p.1
        · rw [if_pos e1, if_neg (fun e2 => hne (by omega)), if_pos e1]
        · rw [if_neg e1, if_neg e1]

def Good (P : Program) (n : Nat) (ops : Array Oper) : List DS → AS → Prop
  | [], _ => True
  | e :: r, s => e.Ok P n ops s ∧ Good P n ops r (e.upd s)
def final : List DS → AS → AS
  | [], s => s
  | e :: r, s => final r (e.upd s)

theorem Good.front {x : DS} {post : List DS} : ∀ {pre : List DS} {s : AS}, Good P n ops (pre ++ x :: post) s → (∀ y ∈ pre, indep y x = true ∧ y.wf = true) → x.wf = true →
    Good P n ops (x :: (pre ++ post)) s ∧ final (pre ++ x :: post) s = final (x :: (pre ++ post)) s
  | [], s, h, _, _ => ⟨h, rfl⟩
  | y :: pre, s, h, hi, hx => by
    obtain ⟨h1, h2⟩ := h
    obtain ⟨h3, h4⟩ := Good.front (pre := pre) (s := y.upd s) h2 (fun z hz => hi z (List.mem_cons_of_mem _ hz)) hx
    obtain ⟨h5, h6⟩ := h3
    obtain ⟨hy, hyw⟩ := hi y List.mem_cons_self
    have hc := upd_comm (indep_symm hy) hyw s
    refine ⟨⟨h5.under hy, ?_⟩, ?_⟩
    · show y.Ok P n ops (x.upd s) ∧ Good P n ops (pre ++ post) (y.upd (x.upd s))
      rw [← hc]
      exact ⟨h1.over (indep_symm hy), h6⟩
    · show final (pre ++ x :: post) (y.upd s) = final (pre ++ post) (y.upd (x.upd s))
      rw [h4, ← hc]
      rfl

/-- That one operation stands behind another one, by the edges that always bind. -/
def dep (ops : Array Oper) : Nat → Nat → Nat → Bool
  | 0, _, _ => false
  | fuel + 1, b, a => match ops[b]? with
    | none => false
    | some o => o.after.toList.any fun e => Region.binds .any e && (Nat.beq e.on a || dep ops fuel e.on a)

/-- The listed ones have all listed that they stand behind. -/
def Down (ops : Array Oper) (listed : Array Bool) : Prop :=
  ∀ k o, ops[k]? = some o → listed.getD k true = true → ∀ e ∈ o.after, Region.binds .any e = true → listed.getD e.on false = true
theorem dep_listed {listed : Array Bool} (hd : Down ops listed) (hsz : listed.size = ops.size) : ∀ (fuel b a : Nat), dep ops fuel b a = true → (∀ o, ops[b]? = some o → ∀ e ∈ o.after, Region.binds .any e = true → listed.getD e.on false = true) →
    listed.getD a false = true
  | 0, b, a, h, _ => by simp [dep] at h
  | fuel + 1, b, a, h, hb => by
    simp only [dep] at h
    split at h
    · simp at h
    · rename_i o ho
      simp only [List.any_eq_true, Bool.and_eq_true, Bool.or_eq_true] at h
      obtain ⟨e, he, h1, h2⟩ := h
      have hl := hb o ho e (by simpa using he) h1
      rcases h2 with h2 | h2
      · rw [Nat.eq_of_beq_eq_true h2] at hl
        exact hl
      · refine dep_listed hd hsz fuel e.on a h2 fun o' ho' e' he' hb' => hd e.on o' ho' ?_ e' he' hb'
        have hlt : e.on < ops.size := (Array.getElem?_eq_some_iff.1 ho').1
        rw [Array.getD_eq_getD_getElem?] at hl ⊢
        rw [Array.getElem?_eq_getElem (by omega)] at hl ⊢
        exact hl

/-- The check that is made of a region: by its edges, and by what its steps read and change. -/
def drawOk (ops : Array Oper) (es : List DS) : Bool :=
  Nat.beq es.length ops.size && (es.zipIdx.all fun p => Nat.beq p.1.i p.2 && p.1.wf) &&
  ((List.range ops.size).all fun k => match ops[k]? with | none => true | some o => o.after.toList.all fun e => !Region.binds .any e || Nat.blt e.on k) &&
  ((List.range es.length).all fun b => (List.range b).all fun a => match es[a]?, es[b]? with | some x, some y => indep x y || dep ops ops.size b a | _, _ => true)

theorem wpAny_of {es : List DS} (hok : drawOk ops es = true) {QQ : Exit → Act → World → Prop} {Λ : Lent} : ∀ (rem : List DS) (listed : Array Bool) (s : AS) (a : Act) (w : World) (φ : PMap), Sim n w φ Λ s a →
    listed.size = ops.size → Down ops listed → (∀ k, k < ops.size → listed.getD k true = false → ∃ e ∈ rem, e.i = k) → (∀ e ∈ rem, listed.getD e.i true = false) → rem.Sublist es →
    Good P n ops rem s → (∀ w' φ' a', Sim n w' φ' Λ (final rem s) a' → Goes w φ w' φ' → QQ .normal a' w') → wpAny P .any ops QQ rem.length listed a w := by
  simp only [drawOk, Bool.and_eq_true] at hok
  obtain ⟨⟨⟨hlen, hidx⟩, hedge⟩, hpair⟩ := hok
  have hlen := Nat.eq_of_beq_eq_true hlen
  have hix : ∀ (k : Nat) e, es[k]? = some e → e.i = k ∧ e.wf = true := by
    intro k e hk
    have hm : (e, k) ∈ es.zipIdx := by
      rw [List.mem_iff_getElem?]
      exact ⟨k, by simp [hk]⟩
    have := List.all_eq_true.1 hidx _ hm
    simp only [Bool.and_eq_true] at this
    exact ⟨Nat.eq_of_beq_eq_true this.1, this.2⟩
  have hed : ∀ k o, ops[k]? = some o → ∀ e ∈ o.after, Region.binds .any e = true → e.on < k := by
    intro k o hk e he hb
    have hlt : k < ops.size := (Array.getElem?_eq_some_iff.1 hk).1
    have := List.all_eq_true.1 hedge k (List.mem_range.2 hlt)
    simp only [hk] at this
    have h2 := List.all_eq_true.1 this e (by simpa using he)
    simp only [hb, Bool.not_true, Bool.false_or] at h2
    exact Nat.blt_eq.mp h2
  have hmem : ∀ x ∈ es, es[x.i]? = some x ∧ x.wf = true := by
    intro x hx
    obtain ⟨k, hk⟩ := List.mem_iff_getElem?.1 hx
    obtain ⟨h1, h2⟩ := hix k x hk
    rw [h1]
    exact ⟨hk, h2⟩
  have hpw : es.Pairwise (fun x y => x.i < y.i) := by
    rw [List.pairwise_iff_getElem]
    intro a b ha hb hab
    rw [(hix a es[a] (List.getElem?_eq_getElem ha)).1, (hix b es[b] (List.getElem?_eq_getElem hb)).1]
    exact hab
  have hind : ∀ x ∈ es, ∀ y ∈ es, x.i < y.i → indep x y = true ∨ dep ops ops.size y.i x.i = true := by
    intro x hx y hy hlt
    have hyl : y.i < es.length := (List.getElem?_eq_some_iff.1 (hmem y hy).1).1
    have h1 := List.all_eq_true.1 (List.all_eq_true.1 hpair y.i (List.mem_range.2 hyl)) x.i (List.mem_range.2 hlt)
    simp only [(hmem x hx).1, (hmem y hy).1, Bool.or_eq_true] at h1
    exact h1
  have hflip : ∀ (listed : Array Bool) (k : Nat), listed.size = ops.size → listed.getD k true = false → listed.getD k false = false := by
    intro listed k _ h
    rw [Array.getD_eq_getD_getElem?] at h ⊢
    cases hk : listed[k]? with
    | none => rw [hk] at h; simp at h
    | some b => rw [hk] at h; simpa using h
  intro rem
  generalize hr : rem.length = m
  induction m generalizing rem with
  | zero =>
    intro listed s a w φ hs hsz hdown hall hun hsub hgood hQ
    have hnil : rem = [] := List.eq_nil_of_length_eq_zero hr
    subst hnil
    refine ⟨?_, hQ w φ a hs (Goes.refl _ _)⟩
    rw [List.eq_nil_iff_forall_not_mem]
    intro j hj
    obtain ⟨h1, o, ho, _⟩ := mem_ready.1 hj
    obtain ⟨e, he, _⟩ := hall j (Array.getElem?_eq_some_iff.1 ho).1 h1
    simp at he
  | succ m ih =>
    intro listed s a w φ hs hsz hdown hall hun hsub hgood hQ
    have hpr : rem.Pairwise (fun x y => x.i < y.i) := List.Pairwise.sublist hsub hpw
    constructor
    · intro hnone
      exfalso
      cases rem with
      | nil => simp at hr
      | cons x0 r =>
        have hx0 := hsub.subset List.mem_cons_self
        have hlt : x0.i < ops.size := by rw [← hlen]; exact (List.getElem?_eq_some_iff.1 (hmem x0 hx0).1).1
        have : x0.i ∈ Region.ready .any ops listed := by
          rw [mem_ready]
          refine ⟨hun x0 List.mem_cons_self, ops[x0.i], Array.getElem?_eq_getElem hlt, fun e he hb => ?_⟩
          have hlt2 := hed x0.i _ (Array.getElem?_eq_getElem hlt) e he hb
          cases hl : listed.getD e.on true with
          | false =>
            obtain ⟨e', he', hi'⟩ := hall e.on (by omega) hl
            rcases List.mem_cons.1 he' with rfl | he'
            · omega
            · have := (List.pairwise_cons.1 hpr).1 e' he'
              omega
          | true =>
            rw [Array.getD_eq_getD_getElem?, Array.getElem?_eq_getElem (by omega)] at hl ⊢
            exact hl
        rw [hnone] at this
        simp at this
    · intro i hi
      obtain ⟨h1, o, ho, hpre⟩ := mem_ready.1 hi
      have hilt : i < ops.size := (Array.getElem?_eq_some_iff.1 ho).1
      obtain ⟨x, hx, hxi⟩ := hall i hilt h1
      subst hxi
      obtain ⟨pre, post, rfl⟩ := List.append_of_mem hx
      have hxe := hsub.subset hx
      have hpp := (List.pairwise_append.1 hpr).2.2
      have hin : ∀ y ∈ pre, indep y x = true ∧ y.wf = true := by
        intro y hy
        have hym : y ∈ pre ++ x :: post := List.mem_append_left _ hy
        have hye := hsub.subset hym
        refine ⟨?_, (hmem y hye).2⟩
        rcases hind y hye x hxe (hpp y hy x List.mem_cons_self) with h | h
        · exact h
        · have h2 := dep_listed hdown hsz _ _ _ h (fun o' ho' e he hb => by
            rw [ho] at ho'
            cases ho'
            exact hpre e he hb)
          have h3 := hflip listed y.i hsz (hun y hym)
          rw [h3] at h2
          cases h2
      obtain ⟨hg, hfin⟩ := Good.front hgood hin (hmem x hxe).2
      have hstep := hg.1 s (fun _ _ => rfl) (fun _ _ => rfl)
      refine hstep Λ w φ a hs _ QQ fun w' φ' a' hs' g => ?_
      have hlen2 : (pre ++ post).length = m := by simp at hr ⊢; omega
      have hne : ∀ y ∈ pre ++ post, y.i ≠ x.i := by
        intro y hy
        rcases List.mem_append.1 hy with hy | hy
        · have := hpp y hy x List.mem_cons_self
          omega
        · have := (List.pairwise_cons.1 (List.pairwise_append.1 hpr).2.1).1 y hy
          omega
      refine ih (pre ++ post) hlen2 (listed.setIfInBounds x.i true) (x.upd s) a' w' φ' hs' (by simpa using hsz) ?_ ?_ ?_ ?_ hg.2 ?_
      · intro k o' ho' hk e he hb
        by_cases hkx : k = x.i
        · subst hkx
          rw [ho] at ho'
          cases ho'
          exact getD_set_true (hpre e he hb)
        · rw [getD_set_ne true (fun e => hkx e.symm)] at hk
          exact getD_set_true (hdown k o' ho' hk e he hb)
      · intro k hk hk2
        by_cases hkx : k = x.i
        · subst hkx
          rw [Array.getD_eq_getD_getElem?, Array.getElem?_setIfInBounds_self_of_lt (by omega)] at hk2
          simp at hk2
        · rw [getD_set_ne true (fun e => hkx e.symm)] at hk2
          obtain ⟨e, he, hei⟩ := hall k hk hk2
          refine ⟨e, ?_, hei⟩
          rcases List.mem_append.1 he with h | h
          · exact List.mem_append_left _ h
          · rcases List.mem_cons.1 h with rfl | h
            · exact absurd hei.symm hkx
            · exact List.mem_append_right _ h
      · intro e he
        rw [getD_set_ne true (fun h => hne e he h.symm)]
        refine hun e ?_
        rcases List.mem_append.1 he with h | h
        · exact List.mem_append_left _ h
        · exact List.mem_append_right _ (List.mem_cons_of_mem _ h)
      · refine List.Sublist.trans ?_ hsub
        exact List.Sublist.append (List.Sublist.refl _) (List.sublist_cons_self _ _)
      · intro w2 φ2 a2 hs2 g2
        refine hQ w2 φ2 a2 ?_ (g.trans g2)
        rw [hfin]
        exact hs2

/-- A region that draws its order. -/
theorem AWp.draw {id : Nat} {s : AS} (es : List DS) (hmix : P.follows .mixedOrders = true) (hok : drawOk ops es = true) (hgood : Good P n ops es s) (hQ : Q .normal (final es s)) :
    AWp P n (.region id ops true) Q s := by
  intro Λ w φ a hs QQ hQQ
  refine wp_region_any hmix ?_
  have hlen : es.length = ops.size := by
    simp only [drawOk, Bool.and_eq_true] at hok
    exact Nat.eq_of_beq_eq_true hok.1.1.1
  have hix : ∀ (k : Nat) e, es[k]? = some e → e.i = k := by
    intro k e hk
    simp only [drawOk, Bool.and_eq_true] at hok
    have hm : (e, k) ∈ es.zipIdx := by
      rw [List.mem_iff_getElem?]
      exact ⟨k, by simp [hk]⟩
    have := List.all_eq_true.1 hok.1.1.2 _ hm
    simp only [Bool.and_eq_true] at this
    exact Nat.eq_of_beq_eq_true this.1
  have := wpAny_of (P := P) (n := n) hok (QQ := QQ) (Λ := Λ) es (Array.replicate ops.size false) s a w.drew φ hs.drew (by simp) ?_ ?_ ?_ (List.Sublist.refl _) hgood
    (fun w' φ' a' hs' g => hQQ .normal _ w' φ' a' hQ hs' ((goes_drew w φ).trans g))
  · rw [hlen] at this
    exact this
  · intro k o ho hk
    have hlt : k < ops.size := (Array.getElem?_eq_some_iff.1 ho).1
    rw [Array.getD_eq_getD_getElem?, Array.getElem?_replicate, if_pos hlt] at hk
    simp at hk
  · intro k hk _
    have hk' : k < es.length := by omega
    exact ⟨es[k], List.getElem_mem hk', hix k _ (List.getElem?_eq_getElem hk')⟩
  · intro e he
    obtain ⟨k, hk⟩ := List.mem_iff_getElem?.1 he
    have hkl : k < ops.size := by rw [← hlen]; exact (List.getElem?_eq_some_iff.1 hk).1
    rw [hix k e hk, Array.getD_eq_getD_getElem?, Array.getElem?_replicate, if_pos hkl]
    rfl

end
end Go.Proofs.Ytaemmklgofddmaa.Fw
