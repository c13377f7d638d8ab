/- Fw10: calls that leave the caller's objects alone; weakening of states; no condition. -/
import Derived.Test.YtaemmklgofddmaaFwI
set_option linter.unusedVariables false
set_option linter.unusedSimpArgs false
namespace Go.Proofs.Ytaemmklgofddmaa.Fw
open Go.RowKit

section rules
variable {P : Program} {n : Nat} {Q : APost} {s : AS} {te : TE} {o : Oper} {d : Option Tmp} {ops : Array Oper}

theorem run_callOp {a : Act} {w : World} {f : FuncId} {fn : Func} {c : Code} {fop : Operand} {argops : Array Operand} {tys : Array TypeId} {first caps : Array Value} (hb : Body P f fn c)
    (ho : o.op = .call { callee := .value fop, args := argops, argTypes := tys }) (hf : a.eval fop = .func (.func f) first caps) :
    (execOp a.eval o).run P w = .ok (.enter f (first ++ argops.map a.eval ++ caps)) w := by
  obtain ⟨h1, h2, h3⟩ := hb
  have h4 : fn.name ≠ "runtime.NumGoroutine" := by simpa using h3
  simp [execOp, ho, resolve, hf, Deferred.ofValue, invoke, callFunc, h1, h2, h4]

/-- The arguments of a call, as the callee sees them. -/
theorem callArgs {w : World} {φ : PMap} {Λ : Lent} {a : Act} (hs : Sim n w φ Λ s a) {fop : Operand} {argops : Array Operand} {f : Fn} {first caps : List AV} (hf : s.ev fop = .fn f first caps) {lv : Nat}
    (hfr : Frzs s.h lv (first ++ argops.toList.map s.ev ++ caps)) {Λ' : Lent} (hm : ∀ l b, l ≤ lv → b < w.heap.size → may φ Λ l b → may (fun _ => none) Λ' l b)
    (hown : ∀ b, owned φ b → may (fun _ => none) Λ' (lv + 1) b) :
    ∃ fv cv : Array Value, a.eval fop = .func f fv cv ∧ ArgsRep w (fun _ => none) Λ' (frzs s.h (lv + 1) (first ++ argops.toList.map s.ev ++ caps)) (fv ++ argops.map a.eval ++ cv) := by
  have hr := hs.ev fop
  rw [hf] at hr
  generalize hv : a.eval fop = v at hr
  cases hr with
  | fn vf wf h1 h2 h3 h4 h5 h6 =>
    rename_i fv cv
    refine ⟨fv, cv, rfl, ?_⟩
    have hall : ∀ (j : Nat) c, (first ++ argops.toList.map s.ev ++ caps)[j]? = some c → ∃ v, (fv ++ argops.map a.eval ++ cv)[j]? = some v ∧ Rep w φ Λ c v := by
      intro j c hj
      by_cases hj1 : j < first.length
      · rw [List.append_assoc, List.getElem?_append_left hj1] at hj
        refine ⟨vf j, ?_, h3 j c hj⟩
        rw [Array.append_assoc, Array.getElem?_append_left (by omega)]
        exact h2 j hj1
      · by_cases hj2 : j < first.length + argops.size
        · rw [List.append_assoc, List.getElem?_append_right (by omega), List.getElem?_append_left (by simp; omega), List.getElem?_map, Option.map_eq_some_iff] at hj
          obtain ⟨x, hx, rfl⟩ := hj
          refine ⟨a.eval x, ?_, hs.ev x⟩
          rw [Array.append_assoc, Array.getElem?_append_right (by omega), Array.getElem?_append_left (by simp; omega), h1, Array.getElem?_map]
          rw [Array.getElem?_toList] at hx
          rw [hx]
          rfl
        · rw [List.getElem?_append_right (by simp; omega)] at hj
          simp only [List.length_append, List.length_map, Array.length_toList] at hj
          have hlt := (List.getElem?_eq_some_iff.1 hj).1
          refine ⟨wf (j - (first.length + argops.size)), ?_, h6 _ c hj⟩
          rw [Array.getElem?_append_right (by simp; omega)]
          simp only [Array.size_append, Array.size_map, h1]
          exact h5 _ hlt
    have hlen : (frzs s.h (lv + 1) (first ++ argops.toList.map s.ev ++ caps)).length = (first ++ argops.toList.map s.ev ++ caps).length := frzs_length _
    refine ⟨?_, ?_⟩
    · rw [hlen]
      simp [h1, h4]
    · intro j c hj
      have hjl : j < (first ++ argops.toList.map s.ev ++ caps).length := by rw [← hlen]; exact (List.getElem?_eq_some_iff.1 hj).1
      obtain ⟨v, v1, _⟩ := hall j _ (List.getElem?_eq_getElem hjl)
      refine ⟨v, v1, ?_⟩
      have := rep_frzs hs.hs (Nat.le_succ lv) hm hown (vf := fun j => (fv ++ argops.map a.eval ++ cv).getD j undef) hfr (fun j c hj => by
        obtain ⟨v, k1, k2⟩ := hall j c hj
        rw [Array.getD_eq_getD_getElem?, k1]
        exact k2) j c hj
      rwa [Array.getD_eq_getD_getElem?, v1] at this

/-- An operation that goes on in one of several states, or panics. -/
def OpX (P : Program) (n : Nat) (o : Oper) (Q : APost) (s : AS) (K : AS → Prop) : Prop :=
  ∀ Λ w φ a, Sim n w φ Λ s a → ∀ (next : Act → World → Prop) (QQ : Exit → Act → World → Prop),
    (∀ s' w' φ' a', K s' → Sim n w' φ' Λ s' a' → Goes w φ w' φ' → next a' w') →
    (∀ x s' w' φ' a', Q (.panic x) s' → Sim n w' φ' Λ s' a' → Goes w φ w' φ' → QQ (.panic [{ v := x, recovered := false }]) a' w') → o.wp P a w next QQ

theorem OpOk.x {K : AS → Prop} {s' : AS} (h : OpOk P n o s s') (hk : K s') : OpX P n o Q s K :=
  fun Λ w φ a hs next QQ h1 _ => h Λ w φ a hs next QQ fun w' φ' a' hs' g => h1 s' w' φ' a' hk hs' g

theorem AOps.consx {i : Nat} {rest : List Nat} (ho : ops[i]? = some o) (hg : o.guard = none) (h : OpX P n o Q s (AOps P n ops Q rest)) : AOps P n ops Q (i :: rest) s := by
  intro Λ w φ a hs QQ hQ
  simp only [wpOps, ho, Region.wanted, hg, if_true]
  exact .inl (h Λ w φ a hs _ _ (fun s' w' φ' a' hk hs' g => hk Λ w' φ' a' hs' QQ fun ae s2 w2 φ2 a2 q2 hs2 g2 => hQ ae s2 w2 φ2 a2 q2 hs2 (g.trans g2))
    (fun x s' w' φ' a' q hs' g => hQ (.panic x) s' w' φ' a' q hs' g))

theorem AOps.gconsx {i : Nat} {rest : List Nat} {j : Nat} {want : Bool} {oj : Oper} {dd : Nat} (ho : ops[i]? = some o) (hg : o.guard = some (j, want)) (hj : ops[j]? = some oj)
    (hd : oj.dst = some dd) (hb : s.t dd = tf want) (h : OpX P n o Q s (AOps P n ops Q rest)) : AOps P n ops Q (i :: rest) s := by
  intro Λ w φ a hs QQ hQ
  have hy := hs.yielded hj hd hb
  simp only [wpOps, ho, Region.wanted, hg, hy, beq_self_eq_true, if_true]
  exact .inl (h Λ w φ a hs _ _ (fun s' w' φ' a' hk hs' g => hk Λ w' φ' a' hs' QQ fun ae s2 w2 φ2 a2 q2 hs2 g2 => hQ ae s2 w2 φ2 a2 q2 hs2 (g.trans g2))
    (fun x s' w' φ' a' q hs' g => hQ (.panic x) s' w' φ' a' q hs' g))

/-- A call that borrows no object of the caller's: its rows are lent to be read. -/
theorem OpX.call0 {K : AS → Prop} {fop : Operand} {argops : Array Operand} {tys : Array TypeId} {f : FuncId} {first caps A : List AV} {R : AEnd → Heap → Prop} (lv : Nat)
    (ho : o.op = .call { callee := .value fop, args := argops, argTypes := tys }) (hf : s.ev fop = .fn (.func f) first caps)
    (hfr : Frzs s.h lv (first ++ argops.toList.map s.ev ++ caps)) (hA : frzs s.h (lv + 1) (first ++ argops.toList.map s.ev ++ caps) = A) (hc : AC P f A emp R) (hdd : o.dst = d) (hd : d.all (Nat.blt · n) = true)
    (hret : ∀ r h', R (.ret r) h' → r.ok lv = true ∧ K (s.put d r)) (hpan : ∀ x h', R (.panic x) h' → Q (.panic x) s) : OpX P n o Q s K := by
  intro Λ w φ a hs next QQ hN hP
  subst hA
  subst hdd
  obtain ⟨⟨fn, c, hb⟩, hcall⟩ := hc
  let Λ' : Lent := fun k b => Λ k b ∨ (k = lv + 1 ∧ owned φ b)
  have hm : ∀ l b, l ≤ lv → b < w.heap.size → may φ Λ l b → may (fun _ => none) Λ' l b := fun l b hl _ h => ⟨fun h1 => owned_none h1, fun k hk h1 => by
    rcases h1 with h1 | ⟨_, h1⟩
    · exact h.2 k hk h1
    · exact h.1 h1⟩
  have hown : ∀ b, owned φ b → may (fun _ => none) Λ' (lv + 1) b := fun b hb => ⟨fun h1 => owned_none h1, fun k hk h1 => by
    rcases h1 with h1 | ⟨h1, _⟩
    · obtain ⟨id, l, oo, g1, g2⟩ := hb
      exact (hs.hs.lt _ _ _ _ g1 g2).2 k h1
    · omega⟩
  have hs0 : HSim w (fun _ => none) Λ' emp := by
    refine ⟨(fun id ob h => by cases h), fun _ _ => rfl, (fun id l b o h => by cases h), (fun id id' l l' b o o' h => by cases h), fun k b h => ?_⟩
    rcases h with h | ⟨_, id, l, oo, g1, g2⟩
    · exact hs.hs.lent k b h
    · exact (hs.hs.lt _ _ _ _ g1 g2).1
  obtain ⟨fv, cv, hfv, hargs⟩ := callArgs hs hf hfr hm hown
  unfold Oper.wp
  rw [run_callOp hb ho hfv]
  -- the caller's own objects behind the call
  have back : ∀ h' w' φ', HSim w' φ' Λ' h' → Goes w (fun _ => none) w' φ' → Goes w φ w' φ ∧ Stays w φ w' φ ∧ HSim w' φ Λ s.h := by
    intro h' w' φ' hs' g
    have hkeep : ∀ b, b < w.heap.size → w'.heap[b]? = w.heap[b]? := fun b hb => g.keep b hb fun h1 => owned_none h1
    have st : Stays w φ w' φ := ⟨fun id l h => ⟨l, h, .inl rfl⟩, fun id l h1 _ b oo arr T m h2 h3 => ⟨arr, T, m, by rw [hkeep b (hs.hs.lt _ _ _ _ h1 h2).1]; exact h3, Nat.le_refl _⟩⟩
    have g2 : Goes w φ w' φ := ⟨fun b hb _ => hkeep b hb, g.size, fun _ h => .inl h, g.os, g.tape, g.output, st.pin⟩
    refine ⟨g2, st, ⟨fun id ob h => ?_, hs.hs.dom, fun id l b oo h1 h2 => ?_, hs.hs.inj, fun k b h => Nat.lt_of_lt_of_le (hs.hs.lent k b h) g.size⟩⟩
    · obtain ⟨l, h1, h2⟩ := hs.hs.heap id ob h
      exact ⟨l, h1, h2.goes g2 st fun b oo h3 => hkeep b (hs.hs.lt _ _ _ _ h1 h3).1⟩
    · obtain ⟨h3, h4⟩ := hs.hs.lt id l b oo h1 h2
      exact ⟨Nat.lt_of_lt_of_le h3 g.size, h4⟩
  refine Calls.mono (hcall Λ' w (fun _ => none) _ hs0 hargs (fun e w' => match e with
      | .returned v => next (a.put o.dst v) w'
      | .panicked chain => QQ (.panic chain) a w'
      | .outgrown => False) ?_ ?_) ?_
  · intro r h' w' φ' v hR hs' g hr
    obtain ⟨hok, hrest⟩ := hret r h' hR
    obtain ⟨g2, st, hs2⟩ := back h' w' φ' hs' g
    have hr2 : Rep w' φ Λ r v := by
      refine hr.move (lv := lv) (fun l b hl hb hmay => ⟨fun h1 => ?_, fun k hk h1 => hmay.2 k hk (.inl h1)⟩) hok
      exact hmay.2 (lv + 1) (by omega) (.inr ⟨rfl, h1⟩)
    have hsa : Sim n w' φ Λ s a := ⟨hs.defs, hs.size, fun i => (hs.tmps i).goes g2 st, hs2⟩
    exact hN _ w' φ _ hrest (hsa.put o.dst hd hr2) g2
  · intro x h' w' φ' hR hs' g
    obtain ⟨g2, st, hs2⟩ := back h' w' φ' hs' g
    have hsa : Sim n w' φ Λ s a := ⟨hs.defs, hs.size, fun i => (hs.tmps i).goes g2 st, hs2⟩
    exact hP x s w' φ a (hpan x h' hR) hsa g2
  · intro e w' h
    cases e with
    | returned v => exact h
    | panicked chain => exact h
    | outgrown => exact h.elim

end rules
end Go.Proofs.Ytaemmklgofddmaa.Fw
