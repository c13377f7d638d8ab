/- Fw9: contracts of functions, their entry and their end, and calls that leave the caller's objects alone; no condition. -/
import Derived.Test.YtaemmklgofddmaaFwH
set_option linter.unusedVariables false
set_option linter.unusedSimpArgs false
namespace Go.Proofs.Ytaemmklgofddmaa.Fw
open Go.RowKit

inductive AEnd where
  | ret (r : AV)
  | panic (x : Value)

abbrev Heap := Nat → Option AObj
abbrev emp : Heap := fun _ => none

/-- A function that can be called: it has a body. -/
def Body (P : Program) (f : FuncId) (fn : Func) (c : Code) : Prop := P.funcs[f]? = some fn ∧ fn.body = some c ∧ (fn.name == "runtime.NumGoroutine") = false

def ArgsRep (w : World) (φ : PMap) (Λ : Lent) (args : List AV) (vals : Array Value) : Prop :=
  vals.size = args.length ∧ ∀ (j : Nat) c, args[j]? = some c → ∃ v, vals[j]? = some v ∧ Rep w φ Λ c v

/-- A CONTRACT: from these arguments and objects on the function ends as R says. -/
def AC (P : Program) (f : FuncId) (args : List AV) (h : Heap) (R : AEnd → Heap → Prop) : Prop :=
  (∃ fn c, Body P f fn c) ∧
  ∀ Λ w φ (vals : Array Value), HSim w φ Λ h → ArgsRep w φ Λ args vals → ∀ QQ : Ending → World → Prop,
    (∀ r h' w' φ' v, R (.ret r) h' → HSim w' φ' Λ h' → Goes w φ w' φ' → Rep w' φ' Λ r v → QQ (.returned v) w') →
    (∀ x h' w' φ', R (.panic x) h' → HSim w' φ' Λ h' → Goes w φ w' φ' → QQ (.panicked [{ v := x, recovered := false }]) w') → Calls P f vals w QQ

theorem AC.mono {P : Program} {f : FuncId} {args : List AV} {h : Heap} {R R' : AEnd → Heap → Prop} (hc : AC P f args h R) (hr : ∀ e h, R e h → R' e h) : AC P f args h R' :=
  ⟨hc.1, fun Λ w φ vals hs ha QQ h1 h2 => hc.2 Λ w φ vals hs ha QQ (fun r h' w' φ' v k => h1 r h' w' φ' v (hr _ _ k)) (fun x h' w' φ' k => h2 x h' w' φ' (hr _ _ k))⟩

/-- In one world: these objects and this value may be seen as those. -/
def Sees (h : Heap) (r : AV) (h' : Heap) (r' : AV) : Prop :=
  ∀ w φ Λ v, HSim w φ Λ h → Rep w φ Λ r v → ∃ φ', HSim w φ' Λ h' ∧ Rep w φ' Λ r' v ∧ Goes w φ w φ'
theorem Sees.refl (h : Heap) (r : AV) : Sees h r h r := fun w φ Λ v h1 h2 => ⟨φ, h1, h2, Goes.refl w φ⟩
theorem Sees.trans {h h1 h2 : Heap} {r r1 r2 : AV} (a : Sees h r h1 r1) (b : Sees h1 r1 h2 r2) : Sees h r h2 r2 := fun w φ Λ v k1 k2 => by
  obtain ⟨φ1, a1, a2, a3⟩ := a w φ Λ v k1 k2
  obtain ⟨φ2, b1, b2, b3⟩ := b w φ1 Λ v a1 a2
  exact ⟨φ2, b1, b2, a3.trans b3⟩

theorem owned_none {b : Nat} (h : owned (fun _ => none) b) : False := by
  obtain ⟨id, l, o, k, _⟩ := h
  cases k
/-- No object below 8. -/
def pinFree (h : Heap) : Bool := (List.range 8).all fun id => (h id).isNone
theorem pinFree_iff {h : Heap} (hp : pinFree h = true) {id : Nat} (hi : id < 8) : h id = none := by
  have := List.all_eq_true.1 hp id (List.mem_range.2 hi)
  simpa using this
theorem goes_none (w : World) {φ : PMap} (hp : ∀ id, id < 8 → φ id = none) : Goes w φ w (fun _ => none) := ⟨fun _ _ _ => rfl, Nat.le_refl _, fun b hb => (owned_none hb).elim, rfl, rfl, rfl, Pin.none _ _ hp⟩
theorem hsim_none {w : World} {φ : PMap} {Λ : Lent} {h : Heap} (hs : HSim w φ Λ h) : HSim w (fun _ => none) Λ emp where
  heap id ob h := by cases h
  dom _ _ := rfl
  lt id l b o h := by cases h
  inj id id' l l' b o o' h := by cases h
  lent := hs.lent

/-- All objects are let go; the value has none. -/
theorem Sees.drop {h : Heap} {r : AV} {lv : Nat} (hr : r.ok lv = true) (hp : pinFree h = true) : Sees h r emp r := fun w φ Λ v h1 h2 => by
  have g := goes_none w (φ := φ) fun id hi => h1.dom id (pinFree_iff hp hi)
  exact ⟨fun _ => none, hsim_none h1, h2.move (lv := lv) (fun lv' b _ hb hm => hm.goes g hb) hr, g⟩

/-- A row, or an object behind a pointer, of one's own, seen as frozen at a level. -/
def froz (h : Heap) (lv : Nat) : AV → AV
  | .sl id ver off len esz =>
    match h id with
    | some ob => match ob.at ver with
      | some cells => .fz lv len ((cells.drop off).take (len * esz))
      | none => .any
    | none => .any
  | .ptr id ver off =>
    match h id with
    | some ob => match ob.at ver with
      | some cells => .fp lv (cells.drop off)
      | none => .any
    | none => .any
  | x => x
/-- The conditions under which it may be: what lies in it is of level lv at most. -/
def Frozen (h : Heap) (lv : Nat) : AV → Prop
  | .sl id ver off len esz => ∃ ob cells, h id = some ob ∧ ob.at ver = some cells ∧ (∀ c ∈ cells, c.ok lv = true) ∧ off + len * esz ≤ cells.length ∧ 0 < esz
  | .ptr id ver off => ∃ ob cells, h id = some ob ∧ ob.at ver = some cells ∧ (∀ c ∈ cells, c.ok lv = true) ∧ off < cells.length
  | x => x.ok lv = true

theorem rep_froz {w : World} {φ : PMap} {Λ Λ' : Lent} {h : Heap} (hs : HSim w φ Λ h) {lv out : Nat} (hle : lv ≤ out) (hm : ∀ l b, l ≤ lv → b < w.heap.size → may φ Λ l b → may (fun _ => none) Λ' l b)
    (hown : ∀ b, owned φ b → may (fun _ => none) Λ' out b) {x : AV} {v : Value} (hf : Frozen h lv x) (hr : Rep w φ Λ x v) : Rep w (fun _ => none) Λ' (froz h out x) v := by
  by_cases hx : ∃ id ver off len esz, x = .sl id ver off len esz
  · obtain ⟨id, ver, off, len, esz, rfl⟩ := hx
    obtain ⟨ob, cells, h1, h2, h3, h4, h5⟩ := hf
    simp only [froz, h1, h2]
    have hlen : ((cells.drop off).take (len * esz)).length = len * esz := by simp; omega
    by_cases hz : len * esz = 0
    · have hnil : (cells.drop off).take (len * esz) = [] := by rw [hz]; simp
      rw [hnil]
      obtain ⟨ad, cap, rfl⟩ := rep_len hr rfl
      have hl0 : len = 0 := by
        rcases Nat.mul_eq_zero.1 hz with h6 | h6
        · exact h6
        · omega
      subst hl0
      exact .fz0
    · obtain ⟨l0, b0, oo0, arr, T, lo, hi, g1, g2, g3, g4, g5, g6, g7⟩ := hs.at h1 h2 (by omega)
      cases hr with
      | slx e1 e2 => rw [g1] at e1; cases e1; omega
      | sl0 e1 e2 => simp at hz
      | sl e1 e2 e3 e4 e5 e6 =>
        rw [g1] at e1
        cases e1
        rw [g3] at e3
        cases e3
        refine .fz (fun j => arr.getD (oo0 + off + j) undef) (hown b0 ⟨_, _, _, g1, g3⟩) e6 (fun c hc => AV.ok_mono hle (h3 c (List.mem_of_mem_drop (List.mem_of_mem_take hc)))) (fun j hj => ?_) (fun j c hj => ?_) (by omega)
        · have : oo0 + off + j < arr.size := by omega
          simp [World.cell?, g4, Array.getD, this]
        · rw [List.getElem?_take] at hj
          split at hj
          · rw [List.getElem?_drop] at hj
            obtain ⟨u, q1, q2⟩ := g7 _ c hj
            rw [← Nat.add_assoc] at q1
            rw [Array.getD_eq_getD_getElem?, q1]
            exact q2.move hm (h3 c (List.mem_of_getElem? hj))
          · cases hj
  · by_cases hx2 : ∃ id ver off, x = .ptr id ver off
    · obtain ⟨id, ver, off, rfl⟩ := hx2
      obtain ⟨ob, cells, h1, h2, h3, h4⟩ := hf
      simp only [froz, h1, h2]
      obtain ⟨l0, b0, oo0, arr, T, lo, hi, g1, g2, g3, g4, g5, g6, g7⟩ := hs.at h1 h2 (by omega)
      cases hr with
      | ptrx e1 e2 => rw [g1] at e1; cases e1; omega
      | ptr e1 e2 e3 =>
        rw [g1] at e1
        cases e1
        rw [g3] at e3
        cases e3
        refine .fp (fun j => arr.getD (oo0 + off + j) undef) (hown b0 ⟨_, _, _, g1, g3⟩) (fun c hc => AV.ok_mono hle (h3 c (List.mem_of_mem_drop hc))) (fun j hj => ?_) (fun j c hj => ?_) (by simp; omega)
        · simp only [List.length_drop] at hj
          have : oo0 + off + j < arr.size := by omega
          simp [World.cell?, g4, Array.getD, this]
        · rw [List.getElem?_drop] at hj
          obtain ⟨u, q1, q2⟩ := g7 _ c hj
          rw [← Nat.add_assoc] at q1
          rw [Array.getD_eq_getD_getElem?, q1]
          exact q2.move hm (h3 c (List.mem_of_getElem? hj))
    · have e1 : froz h out x = x := by cases x <;> first | rfl | exact absurd ⟨_, _, _, _, _, rfl⟩ hx | exact absurd ⟨_, _, _, rfl⟩ hx2
      have e2 : x.ok lv = true := by
        cases x <;> first | exact hf | exact absurd ⟨_, _, _, _, _, rfl⟩ hx | exact absurd ⟨_, _, _, rfl⟩ hx2
      rw [e1]
      exact hr.move hm e2

mutual
/-- All rows of one's own in a value, seen as frozen. -/
def frz (h : Heap) (lv : Nat) : AV → AV
  | .agg cs => .agg (frzs h lv cs)
  | .tup cs => .tup (frzs h lv cs)
  | x => froz h lv x
def frzs (h : Heap) (lv : Nat) : List AV → List AV
  | [] => []
  | c :: cs => frz h lv c :: frzs h lv cs
end
mutual
def Frz (h : Heap) (lv : Nat) : AV → Prop
  | .agg cs => Frzs h lv cs
  | .tup cs => Frzs h lv cs
  | x => Frozen h lv x
def Frzs (h : Heap) (lv : Nat) : List AV → Prop
  | [] => True
  | c :: cs => Frz h lv c ∧ Frzs h lv cs
end

mutual
theorem rep_frz {w : World} {φ : PMap} {Λ Λ' : Lent} {h : Heap} (hs : HSim w φ Λ h) {lv out : Nat} (hle : lv ≤ out) (hm : ∀ l b, l ≤ lv → b < w.heap.size → may φ Λ l b → may (fun _ => none) Λ' l b)
    (hown : ∀ b, owned φ b → may (fun _ => none) Λ' out b) : ∀ {x : AV} {v : Value}, Frz h lv x → Rep w φ Λ x v → Rep w (fun _ => none) Λ' (frz h out x) v
  | .agg cs, v, hf, hr => by
    cases hr with
    | agg vf h1 h2 h3 =>
      have hl := frzs_length (h := h) (lv := out) cs
      exact .agg vf (by rw [hl]; exact h1) (fun j hj => h2 j (by rw [hl] at hj; exact hj)) (rep_frzs hs hle hm hown (by simpa [Frz] using hf) h3)
  | .tup cs, v, hf, hr => by
    cases hr with
    | tup vf h1 h2 h3 =>
      have hl := frzs_length (h := h) (lv := out) cs
      exact .tup vf (by rw [hl]; exact h1) (fun j hj => h2 j (by rw [hl] at hj; exact hj)) (rep_frzs hs hle hm hown (by simpa [Frz] using hf) h3)
  | .v _, v, hf, hr => rep_froz hs hle hm hown (by simpa [Frz] using hf) hr
  | .any, v, hf, hr => rep_froz hs hle hm hown (by simpa [Frz] using hf) hr
  | .bl, v, hf, hr => rep_froz hs hle hm hown (by simpa [Frz] using hf) hr
  | .ptr .., v, hf, hr => rep_froz hs hle hm hown (by simpa [Frz] using hf) hr
  | .sl .., v, hf, hr => rep_froz hs hle hm hown (by simpa [Frz] using hf) hr
  | .fz .., v, hf, hr => rep_froz hs hle hm hown (by simpa [Frz] using hf) hr
  | .fp .., v, hf, hr => rep_froz hs hle hm hown (by simpa [Frz] using hf) hr
  | .fn .., v, hf, hr => rep_froz hs hle hm hown (by simpa [Frz] using hf) hr
  | .ifc .., v, hf, hr => rep_froz hs hle hm hown (by simpa [Frz] using hf) hr
  | .mp .., v, hf, hr => rep_froz hs hle hm hown (by simpa [Frz] using hf) hr
  | .dp .., v, hf, hr => rep_froz hs hle hm hown (by simpa [Frz] using hf) hr
theorem rep_frzs {w : World} {φ : PMap} {Λ Λ' : Lent} {h : Heap} (hs : HSim w φ Λ h) {lv out : Nat} (hle : lv ≤ out) (hm : ∀ l b, l ≤ lv → b < w.heap.size → may φ Λ l b → may (fun _ => none) Λ' l b)
    (hown : ∀ b, owned φ b → may (fun _ => none) Λ' out b) : ∀ {cs : List AV} {vf : Nat → Value}, Frzs h lv cs → (∀ (j : Nat) c, cs[j]? = some c → Rep w φ Λ c (vf j)) →
    ∀ (j : Nat) c, (frzs h out cs)[j]? = some c → Rep w (fun _ => none) Λ' c (vf j)
  | [], vf, _, _, j, c, hj => by simp [frzs] at hj
  | a :: cs, vf, hf, hr, 0, c, hj => by
    simp only [frzs, List.getElem?_cons_zero, Option.some.injEq] at hj
    subst hj
    simp only [Frzs] at hf
    exact rep_frz hs hle hm hown hf.1 (hr 0 a rfl)
  | a :: cs, vf, hf, hr, j + 1, c, hj => by
    simp only [frzs, List.getElem?_cons_succ] at hj
    simp only [Frzs] at hf
    exact rep_frzs hs hle hm hown (vf := fun j => vf (j + 1)) hf.2 (fun j c hj => hr (j + 1) c (by simpa using hj)) j c hj
theorem frzs_length {h : Heap} {lv : Nat} : ∀ cs : List AV, (frzs h lv cs).length = cs.length
  | [] => rfl
  | a :: cs => by simp [frzs, frzs_length cs]
end

/-- All objects are let go; rows in the value are frozen. -/
theorem Sees.freeze {h : Heap} {r : AV} {lv : Nat} (hf : Frz h lv r) (hp : pinFree h = true) : Sees h r emp (frz h lv r) := fun w φ Λ v h1 h2 =>
  have g := goes_none w (φ := φ) fun id hi => h1.dom id (pinFree_iff hp hi)
  ⟨fun _ => none, hsim_none h1, rep_frz h1 (Nat.le_refl _) (fun l b _ hb hm => hm.goes g hb)
    (fun b hb => ⟨fun h => owned_none h, fun k _ => by obtain ⟨id, l, o, g1, g2⟩ := hb; exact (h1.lt _ _ _ _ g1 g2).2 k⟩) hf h2, g⟩

/-! ### Entry and end -/
section
variable {P : Program} {te : TE}

/-- A result variable stands for a value. -/
def ResOk (te : TE) (s : AS) : ResultVar → AV → Prop
  | .tmp t, x => s.t t = x
  | .cell a ty, x => ∃ id ver po ob cells ti, s.t a = .ptr id ver po ∧ s.h id = some ob ∧ ob.at ver = some cells ∧ te.get ty = some ti ∧
      ((cells.drop po).take ti.size).length = ti.size ∧ 0 < ti.size ∧ mkAV ti.k.agg ((cells.drop po).take ti.size) = x
def ResOks (te : TE) (s : AS) : List ResultVar → List AV → Prop
  | [], [] => True
  | r :: rs, x :: xs => ResOk te s r x ∧ ResOks te s rs xs
  | _, _ => False
def resVal : List AV → AV
  | [x] => x
  | xs => .tup xs

def resF (tmps : Array Value) : ResultVar → Sem Value
  | .tmp t => pure (tmps.getD t undef)
  | .cell ad t => do loadVar t (← asAddr (tmps.getD ad undef))
theorem results_eq (fn : Func) (tmps : Array Value) : results fn tmps = (do let vs ← fn.results.mapM (resF tmps); pure (if h : vs.size = 1 then vs[0] else .tuple vs)) := rfl

theorem run_result {n : Nat} {w : World} {φ : PMap} {Λ : Lent} {s : AS} {a : Act} (hte : TEok P te) (hs : Sim n w φ Λ s a) {r : ResultVar} {x : AV} (h : ResOk te s r x) :
    ∃ v, (resF a.tmps r).run P w = .ok v w ∧ Rep w φ Λ x v := by
  cases r with
  | tmp t => exact ⟨_, rfl, h ▸ hs.tmps t⟩
  | cell ad ty =>
    obtain ⟨id, ver, po, ob, cells, ti, h1, h2, h3, h4, h5, h6, h7⟩ := h
    have hlen : ((cells.drop po).take ti.size).length = min ti.size (cells.length - po) := by simp
    obtain ⟨l, b, oo, arr, T, lo, hi, g1, g2, g3, g4, g5, g6, g7⟩ := hs.hs.at h2 h3 (by omega)
    have hr := hs.tmps ad
    rw [h1] at hr
    generalize hv : a.tmps.getD ad undef = v at hr
    cases hr with
    | ptrx e1 e2 => rw [g1] at e1; cases e1; omega
    | ptr e1 e2 e3 =>
      rw [g1] at e1
      cases e1
      rw [g3] at e3
      cases e3
      obtain ⟨z, z1, z2⟩ := run_loadVar (P := P) (w := w) (φ := φ) (Λ := Λ) (hte.tells h4) b (oo + po) ((cells.drop po).take ti.size) (fun j => arr.getD (oo + po + j) undef) h5 h6
        (fun j hj => by
          have : oo + po + j < arr.size := by omega
          simp [World.cell?, g4, Array.getD, this])
        (fun j c hj => by
          rw [List.getElem?_take] at hj
          split at hj
          · rw [List.getElem?_drop] at hj
            obtain ⟨z, z1, z2⟩ := g7 (po + j) c hj
            rw [← Nat.add_assoc] at z1
            rw [Array.getD_eq_getD_getElem?, z1]
            exact z2
          · cases hj)
      refine ⟨z, ?_, h7 ▸ z2⟩
      simp only [resF, hv, asAddr, Sem.run_bind, Sem.run_pure, Result.andThen_ok]
      exact z1

theorem run_resultList {n : Nat} {w : World} {φ : PMap} {Λ : Lent} {s : AS} {a : Act} (hte : TEok P te) (hs : Sim n w φ Λ s a) : ∀ {rs : List ResultVar} {xs : List AV}, ResOks te s rs xs →
    ∃ vs : List Value, (rs.mapM (resF a.tmps)).run P w = .ok vs w ∧ vs.length = xs.length ∧
      ∀ (j : Nat) c, xs[j]? = some c → ∃ v, vs[j]? = some v ∧ Rep w φ Λ c v
  | [], [], _ => ⟨[], by simp, rfl, fun j c hj => by simp at hj⟩
  | r :: rs, x :: xs, h => by
    obtain ⟨v, h1, h2⟩ := run_result hte hs h.1
    obtain ⟨vs, h3, h4, h5⟩ := run_resultList hte hs h.2
    refine ⟨v :: vs, ?_, by simp [h4], fun j c hj => ?_⟩
    · rw [List.mapM_cons, Sem.run_bind, h1]
      simp only [Result.andThen_ok, Sem.run_bind, h3, Sem.run_pure]
    · cases j with
      | zero => simp at hj; subst hj; exact ⟨v, rfl, h2⟩
      | succ j => simpa using h5 j c (by simpa using hj)
  | [], _ :: _, h => h.elim
  | _ :: _, [], h => h.elim

/-- What a function's last state has to say. -/
def Fin (te : TE) (fn : Func) (R : AEnd → Heap → Prop) (s : AS) : Prop :=
  ∃ xs r h', ResOks te s fn.results.toList xs ∧ Sees s.h (resVal xs) h' r ∧ R (.ret r) h'
def Post (te : TE) (fn : Func) (R : AEnd → Heap → Prop) : APost
  | .normal, s => Fin te fn R s
  | .ret, s => Fin te fn R s
  | .panic x, s => ∃ h', Sees s.h .any h' .any ∧ R (.panic x) h'
  | _, _ => False

theorem AC.intro (hte : TEok P te) {f : FuncId} {fn : Func} {c : Code} {args : List AV} {h : Heap} {R : AEnd → Heap → Prop} (hb : Body P f fn c) (hn : args.length ≤ fn.ntmps)
    (hw : AWp P fn.ntmps c (Post te fn R) ⟨fun i => args.getD i (.v undef), h⟩) : AC P f args h R := by
  refine ⟨⟨fn, c, hb⟩, fun Λ w φ vals hs ha QQ hret hpan => ?_⟩
  have hs0 : Sim fn.ntmps w φ Λ ⟨fun i => args.getD i (.v undef), h⟩ { tmps := vals ++ Array.replicate (fn.ntmps - vals.size) undef, defers := [] } := by
    refine ⟨rfl, by simp [ha.1]; omega, fun i => ?_, hs⟩
    simp only [Array.getD_eq_getD_getElem?, List.getD_eq_getElem?_getD]
    by_cases hi : i < args.length
    · obtain ⟨v, h1, h2⟩ := ha.2 i args[i] (List.getElem?_eq_getElem hi)
      rw [Array.getElem?_append_left (by rw [ha.1]; exact hi), h1, List.getElem?_eq_getElem hi]
      exact h2
    · rw [List.getElem?_eq_none (by omega), Array.getElem?_append_right (by rw [ha.1]; omega)]
      have : ((Array.replicate (fn.ntmps - vals.size) undef)[i - vals.size]?).getD undef = undef := by
        rw [Array.getElem?_replicate]
        split <;> rfl
      rw [this]
      exact .v
  refine calls_of_wp hb.1 hb.2.1 (hw Λ w φ _ hs0 _ ?_)
  intro ae s' w' φ' a' q hs' g
  have fin : Fin te fn R s' → a'.defers = [] ∧ ∃ v, (results fn a'.tmps).run P w' = .ok v w' ∧ QQ (.returned v) w' := by
    rintro ⟨xs, r, h', h1, h2, h3⟩
    refine ⟨hs'.defs, ?_⟩
    obtain ⟨vs, v1, v2, v3⟩ := run_resultList hte hs' h1
    have hrun : (results fn a'.tmps).run P w' = .ok (if h : vs.toArray.size = 1 then vs.toArray[0] else .tuple vs.toArray) w' := by
      rw [results_eq, ← Array.toArray_toList (xs := fn.results), List.mapM_toArray]
      simp only [Sem.run_bind, Sem.run_map, v1, Result.andThen_ok, Sem.run_pure]
    have hrep : Rep w' φ' Λ (resVal xs) (if h : vs.toArray.size = 1 then vs.toArray[0] else .tuple vs.toArray) := by
      by_cases hx : ∃ x, xs = [x]
      · obtain ⟨x, rfl⟩ := hx
        have hvl : vs.length = 1 := by simpa using v2
        obtain ⟨v, hv1, hv2⟩ := v3 0 x rfl
        rw [dif_pos (by simpa using hvl)]
        simp only [resVal]
        have : vs.toArray[0]'(by simp; omega) = v := by
          have := (List.getElem?_eq_some_iff.1 hv1).2
          simpa using this
        rw [this]
        exact hv2
      · have hne : vs.length ≠ 1 := by
          intro h1
          rw [v2] at h1
          obtain ⟨x, hx2⟩ := List.length_eq_one_iff.1 h1
          exact hx ⟨x, hx2⟩
        rw [dif_neg (by simpa using hne)]
        have : resVal xs = .tup xs := by
          unfold resVal
          split
          · exact absurd ⟨_, rfl⟩ hx
          · rfl
        rw [this]
        refine .tup (fun j => vs.getD j undef) (by simp [v2]) (fun j hj => ?_) (fun j c hj => ?_)
        · rw [List.getElem?_toArray, List.getElem?_eq_getElem (by omega), List.getD_eq_getElem?_getD, List.getElem?_eq_getElem (by omega)]
          rfl
        · obtain ⟨v, k1, k2⟩ := v3 j c hj
          rw [List.getD_eq_getElem?_getD, k1]
          exact k2
    obtain ⟨φ2, k1, k2, k3⟩ := h2 w' φ' Λ _ hs'.hs hrep
    exact ⟨_, hrun, hret r h' w' φ2 _ h3 k1 (g.trans k3) k2⟩
  cases ae with
  | normal => exact fin q
  | ret => exact fin q
  | panic x =>
    obtain ⟨h', k1, k2⟩ := q
    obtain ⟨φ2, e1, _, e3⟩ := k1 w' φ' Λ undef hs'.hs .any
    exact ⟨hs'.defs, hpan x h' w' φ2 k2 e1 (g.trans e3)⟩
  | exit id => exact q.elim
  | goto l => exact q.elim
end

end Go.Proofs.Ytaemmklgofddmaa.Fw
