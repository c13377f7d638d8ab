/- Fw16: from a contract of a law to its row; no condition. -/
import Derived.Test.YtaemmklgofddmaaFwO
set_option linter.unusedVariables false
set_option linter.unusedSimpArgs false
namespace Go.Proofs.Ytaemmklgofddmaa.Fw
open Go.RowKit Go.ChangeShapes Go.WideShapes

/-- The arguments of a law, by their types. -/
def HasArgs (te : TE) (d : Nat) : List TypeId → List AV → Prop
  | [], [] => True
  | t :: ts, a :: r => (∃ i cs, te.get t = some i ∧ Has te d t cs ∧ a = mkAV i.k.agg cs) ∧ HasArgs te d ts r
  | _, _ => False

theorem HasArgs.length {te : TE} {d : Nat} : ∀ {ts : List TypeId} {l : List AV}, HasArgs te d ts l → l.length = ts.length
  | [], [], _ => rfl
  | t :: ts, a :: r, h => by simp [HasArgs.length h.2]
  | [], _ :: _, h => h.elim
  | _ :: _, [], h => h.elim

section
variable {P : Program} {te : TE} {w : World} {H : Type} {enc : TypeId × Value → H}

theorem scalar_cells {t : TypeId} {v : Value} {dsc : TypeDesc} {r : Reach} {base : Nat} (hu : P.underlying t = some dsc) (hn : (match dsc with | .int _ | .bool | .string | .slice _ => true | _ => false) = true)
    (h : Value.okWide P w r base t v) : v.cells = #[v] := by
  cases dsc <;> simp at hn
  · simp only [Value.okWide, hu, Cell.okWide] at h
    cases v <;> simp_all [Cell.ok, Value.cells]
  · simp only [Value.okWide, hu, Cell.okWide] at h
    cases v <;> simp_all [Cell.ok, Value.cells]
  · simp only [Value.okWide, hu, Cell.okWide] at h
    cases v <;> simp_all [Cell.ok, Value.cells]
  · simp only [Value.okWide, hu, Cell.okWide] at h
    cases v <;> simp_all [Cell.ok, Value.cells]

theorem arg_rep (hte : TEok P te) {d : Nat} {t : TypeId} {i : TI} {v : Value} {r : Reach} {base : Nat} {l : List AV} (hg : te.get t = some i) (hp : plainT te d t = true) (hv : Value.okWide P w r base t v)
    (hc : CellsAre w v.cells.toList l) : Rep w noO noL (mkAV i.k.agg l) v := by
  cases d with
  | zero => simp [plainT] at hp
  | succ d =>
    simp only [plainT, hg] at hp
    have ht := hte.tells hg
    have one : v.cells = #[v] → i.k.agg = false → Rep w noO noL (mkAV i.k.agg l) v := by
      intro h1 h2
      rw [h1] at hc
      obtain ⟨h3, h4⟩ := hc
      have h3 : l.length = 1 := h3
      obtain ⟨a, rfl⟩ := List.length_eq_one_iff.1 h3
      obtain ⟨_, v', h5, h6⟩ := h4 0 a rfl
      simp at h5
      subst h5
      rw [h2]
      exact h6
    have many : (∃ cs, v = .agg cs) → i.k.agg = true → Rep w noO noL (mkAV i.k.agg l) v := by
      rintro ⟨cs, rfl⟩ h2
      simp only [Value.cells] at hc
      obtain ⟨h3, h4⟩ := hc
      rw [h2]
      refine .agg (fun j => cs.getD j undef) (by simpa using h3.symm) (fun j hj => ?_) (fun j c hj => ?_)
      · have : j < cs.size := by simp at h3; omega
        simp [Array.getD, this]
      · obtain ⟨_, v, h5, h6⟩ := h4 j c hj
        rw [Array.getElem?_toList] at h5
        rw [Array.getD_eq_getD_getElem?, h5]
        exact h6
    obtain ⟨k, size, bytes, zero⟩ := i
    cases k with
    | int k => exact one (scalar_cells (ht.int rfl) rfl hv) rfl
    | bool => exact one (scalar_cells (ht.bool rfl) rfl hv) rfl
    | str => exact one (scalar_cells (ht.str rfl) rfl hv) rfl
    | slice e => exact one (scalar_cells (ht.slice rfl) rfl hv) rfl
    | arr m e =>
      refine many ?_ rfl
      simp only [Value.okWide, ht.arr rfl] at hv
      exact ⟨hv.choose, hv.choose_spec.1⟩
    | struct fs =>
      obtain ⟨fl, f1, f2⟩ := ht.struct rfl
      refine many ?_ rfl
      simp only [Value.okWide, f1] at hv
      exact ⟨hv.choose, hv.choose_spec.1⟩
    | _ => cases hp

theorem open_args (hte : TEok P te) {d : Nat} {r : Reach} {base : Nat} : ∀ {ts : List TypeId} {vs : List Value} {ds : List (DataW H)} {ps : List MemPlace}, DataW.TrodAll enc P w 0 (fun _ => true) true ts vs ds ps → (ts.all fun t => plainT te d t) = true →
    (∀ (j : Nat) t v, ts[j]? = some t → vs[j]? = some v → Value.okWide P w r base t v) → (∀ m ∈ DataW.weightsEach P ts ds, m ≤ reachBytes) →
    ∃ l, HasArgs te d ts l ∧ vs.length = l.length ∧ ∀ (j : Nat) c, l[j]? = some c → ∃ v, vs[j]? = some v ∧ Rep w noO noL c v
  | [], [], [], ps, h, hp, hv, hw => ⟨[], trivial, rfl, fun j c hj => by simp at hj⟩
  | t :: ts, v :: vs, x :: ds, ps, h, hp, hv, hw => by
    obtain ⟨p, q, ⟨n, h1⟩, h2, rfl⟩ := h
    simp only [List.all_cons, Bool.and_eq_true] at hp
    simp only [DataW.weightsEach, List.mem_append] at hw
    obtain ⟨l, l1, l2, l3⟩ := open_args hte h2 hp.2 (fun j t v ht hv' => hv (j + 1) t v (by simpa using ht) (by simpa using hv')) (fun m hm => hw m (.inr hm))
    obtain ⟨a, a1, a2⟩ := open_has hte d t hp.1 n _ _ h1 (fun m hm => hw m (.inl hm))
    have hg : ∃ i, te.get t = some i := by
      cases d with
      | zero => simp [plainT] at hp
      | succ d =>
        have := hp.1
        simp only [plainT] at this
        cases hg : te.get t with
        | none => rw [hg] at this; cases this
        | some i => exact ⟨i, rfl⟩
    obtain ⟨i, hg⟩ := hg
    have hr := arg_rep hte hg hp.1 (hv 0 t v rfl rfl) a2
    refine ⟨mkAV i.k.agg a :: l, ⟨⟨i, a, hg, a1, rfl⟩, l1⟩, by simp [l2], fun j c hj => ?_⟩
    cases j with
    | zero => simp at hj; subst hj; exact ⟨v, rfl, hr⟩
    | succ j => simpa using l3 j c (by simpa using hj)
  | [], _ :: _, _, _, h, _, _, _ => by simp [DataW.TrodAll] at h
  | [], [], _ :: _, _, h, _, _, _ => by simp [DataW.TrodAll] at h
  | _ :: _, [], _, _, h, _, _, _ => by simp [DataW.TrodAll] at h
  | _ :: _, _ :: _, [], _, h, _, _, _ => by simp [DataW.TrodAll] at h

theorem trodAll_lt {vs : List Value} : ∀ {ts : List TypeId} {vs : List Value} {ds : List (DataW H)} {ps : List MemPlace}, DataW.TrodAll enc P w 0 (fun _ => true) true ts vs ds ps → ∀ x ∈ ps, x.block < w.heap.size
  | [], [], [], ps, h, x, hx => by cases h; simp at hx
  | t :: ts, v :: vs, y :: ds, ps, h, x, hx => by
    obtain ⟨p, q, ⟨n, h1⟩, h2, rfl⟩ := h
    rcases List.mem_append.1 hx with hx | hx
    · exact DataW.trod_lt n _ _ _ h1 x hx
    · exact trodAll_lt (vs := vs) h2 x hx
  | [], _ :: _, _, _, h, _, _ => by simp [DataW.TrodAll] at h
  | [], [], _ :: _, _, h, _, _ => by simp [DataW.TrodAll] at h
  | _ :: _, [], _, _, h, _, _ => by simp [DataW.TrodAll] at h
  | _ :: _, _ :: _, [], _, h, _, _ => by simp [DataW.TrodAll] at h

theorem trodAll_stay (hl : laidOutB P = true) {w' : World} (hb : Below w.heap.size w w') : ∀ {ts : List TypeId} {vs : List Value} {ds : List (DataW H)} {ps : List MemPlace}, DataW.TrodAll enc P w 0 (fun _ => true) true ts vs ds ps →
    (ts.all fun t => P.readableRec t && decide (t < P.types.size)) = true → DataW.TrodAll enc P w' 0 (fun b => decide (b < w.heap.size)) true ts vs ds ps
  | [], [], [], ps, h, hp => h
  | t :: ts, v :: vs, y :: ds, ps, h, hp => by
    obtain ⟨p, q, h1, h2, rfl⟩ := h
    simp only [List.all_cons, Bool.and_eq_true, decide_eq_true_eq] at hp
    have hlt : ∀ x ∈ p, x.block < w.heap.size := fun x hx => by obtain ⟨n, h1⟩ := h1; exact DataW.trod_lt n _ _ _ h1 x hx
    exact ⟨p, q, Below.trod hl hp.1.1 hp.1.2 h1 hb hlt, trodAll_stay hl hb h2 (by simpa using hp.2), rfl⟩
  | [], _ :: _, _, _, h, _ => by simp [DataW.TrodAll] at h
  | [], [], _ :: _, _, h, _ => by simp [DataW.TrodAll] at h
  | _ :: _, [], _, _, h, _ => by simp [DataW.TrodAll] at h
  | _ :: _, _ :: _, [], _, h, _ => by simp [DataW.TrodAll] at h

/-- THE CONTRACT OF A LAW IS ITS ROW. -/
theorem law_row (hte : TEok P te) {f : FuncId} {fn : Func} {s : ChangeSpec} {d : Nat} {tb : TypeId} (hl : laidOutB P = true) (hp : (fn.params.toList.all fun t => plainT te d t) = true)
    (hp2 : (fn.params.toList.all fun t => P.readableRec t && decide (t < P.types.size)) = true) (hres : fn.resultTypes = #[tb]) (hb : P.underlying tb = some .bool) (hvars : s.vars = [])
    (hfn : ∀ ds : List (DataW H), ds.length = fn.params.toList.length → (s.fn H ds).results = [.lit (.bool true)] ∧ (s.fn H ds).args = ds ∧ (s.fn H ds).vars = [])
    (hac : ∀ l, HasArgs te d fn.params.toList l → AC P f l emp (Ret (tf true)))
    {W : World} {base : Nat} {args : Array Value} {ds gs : List (DataW H)} {before : List MemPlace}
    (hval : ∀ (j : Nat) t v, fn.params[j]? = some t → args[j]? = some v → Value.okWide P W .any base t v) (hW : DataW.Whole enc P fn.params.toList s.vars false W args.toList ds gs before)
    (hsz : (DataW.weightsEach P (fn.params.toList ++ s.plain.varTypes P) (ds ++ gs)).all (· ≤ reachBytes) = true) :
    Calls P f args W fun e W' => ∃ v, e = .returned v ∧ s.post enc P fn false true false false W args v W' := by
  have hW' := hW
  obtain ⟨p, q, hA, hV, rfl, hfz, hnd⟩ := hW
  rw [hvars] at hV
  obtain ⟨rfl, rfl⟩ := trodVars_none hV
  have hlen : ∀ {ts : List TypeId} {vs : List Value} {ds : List (DataW H)} {ps : List MemPlace}, DataW.TrodAll enc P W 0 (fun _ => true) true ts vs ds ps → ds.length = ts.length := by
    intro ts
    induction ts with
    | nil => intro vs ds ps h; cases vs <;> cases ds <;> first | rfl | (simp [DataW.TrodAll] at h)
    | cons t ts ih =>
      intro vs ds ps h
      cases vs with
      | nil => simp [DataW.TrodAll] at h
      | cons v vs =>
        cases ds with
        | nil => simp [DataW.TrodAll] at h
        | cons x ds =>
          obtain ⟨_, _, _, h2, _⟩ := h
          simp [ih h2]
  have hdl := hlen hA
  obtain ⟨l, l1, l2, l3⟩ := open_args hte hA hp (fun j t v ht hv => hval j t v (by simpa using ht) (by simpa using hv)) (fun m hm => by
    have := List.all_eq_true.1 hsz m ?_
    · simpa using this
    · rw [List.append_nil]
      have key : ∀ (ts us : List TypeId) (ds : List (DataW H)), m ∈ DataW.weightsEach P ts ds → m ∈ DataW.weightsEach P (ts ++ us) ds := by
        intro ts
        induction ts with
        | nil => intro us ds h; simp [DataW.weightsEach] at h
        | cons t ts ih =>
          intro us ds h
          cases ds with
          | nil => simp [DataW.weightsEach] at h
          | cons x ds =>
            simp only [DataW.weightsEach, List.mem_append, List.cons_append] at h ⊢
            exact h.imp id (ih us ds)
      exact key _ _ _ hm)
  obtain ⟨_, hcall⟩ := hac l l1
  have hs0 : HSim W noO noL emp := ⟨(fun id ob h => by cases h), fun _ _ => rfl, (fun id l b o h => by cases h), (fun id id' l l' b o o' h => by cases h), fun k b h => h.elim⟩
  refine hcall noL W noO args hs0 ⟨by simpa using l2, fun j c hj => by simpa using l3 j c hj⟩ _ ?_ ?_
  · intro r h' w' φ' v hR hs' g hr
    obtain ⟨hr1, _⟩ := hR
    cases hr1
    cases hr
    have bel : Below W.heap.size W w' := ⟨g.os, g.tape, g.output, g.size, fun k hk => g.keep k hk owned_none⟩
    obtain ⟨f1, f2, f3⟩ := hfn ds hdl
    refine ⟨_, rfl, ds, [], p ++ [], [], p, [], hW', ?_, ?_, ?_, bel.frame _, fun h => by cases h⟩
    · rw [List.append_nil, f1, hres]
      exact trodAll_mk1 (shut_bool hb true)
    · rw [List.append_nil, f2]
      exact trodAll_stay hl bel hA hp2
    · rw [List.append_nil, f3, hvars]
      rfl
  · intro x h' w' φ' hR
    exact absurd hR.1 (by simp)

end
end Go.Proofs.Ytaemmklgofddmaa.Fw
