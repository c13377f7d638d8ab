/- Fw14: values built out of parts; comparisons; small builtins; no condition. -/
import Derived.Test.YtaemmklgofddmaaFwM
set_option linter.unusedVariables false
set_option linter.unusedSimpArgs false
namespace Go.Proofs.Ytaemmklgofddmaa.Fw
open Go.RowKit

/-! ### Parts -/
def fillAV (place : Nat → Option (Nat × Nat)) (cells : List AV) : List (Nat × AV) → Option (List AV)
  | [] => some cells
  | (i, x) :: rest =>
    match place i with
    | none => none
    | some (off, size) =>
      match x.flat with
      | none => none
      | some cs => bif Nat.beq cs.length size && Nat.ble (off + size) cells.length then fillAV place (cells.take off ++ cs ++ cells.drop (off + size)) rest else none

theorem fillAV_length {place : Nat → Option (Nat × Nat)} : ∀ {parts : List (Nat × AV)} {cells cs : List AV}, fillAV place cells parts = some cs → cs.length = cells.length
  | [], cells, cs, h => by
    simp only [fillAV, Option.some.injEq] at h
    rw [h]
  | (i, x) :: rest, cells, cs, h => by
    simp only [fillAV] at h
    split at h
    · cases h
    · split at h
      · cases h
      · rename_i off size _ _ c _
        cases hb : (Nat.beq c.length size && Nat.ble (off + size) cells.length) with
        | false => rw [hb] at h; cases h
        | true =>
          rw [hb] at h
          simp only [cond_true] at h
          simp only [Bool.and_eq_true] at hb
          have e1 := Nat.eq_of_beq_eq_true hb.1
          have e2 := Nat.le_of_ble_eq_true hb.2
          rw [fillAV_length h]
          simp
          omega

theorem foldl_set (off : Nat) : ∀ (l : List Value) (m : Nat) (cells : Array Value), off + m + l.length ≤ cells.size → ∀ k, ((l.zipIdx m).foldl (fun cs p => cs.setIfInBounds (off + p.2) p.1) cells)[k]? =
    if off + m ≤ k ∧ k < off + m + l.length then l[k - (off + m)]? else cells[k]?
  | [], m, cells, _, k => by
    simp only [List.zipIdx_nil, List.foldl_nil, List.length_nil]
    rw [if_neg (by omega)]
  | v :: l, m, cells, h, k => by
    simp only [List.length_cons] at h
    simp only [List.zipIdx_cons, List.foldl_cons]
    rw [foldl_set off l (m + 1) _ (by simp; omega) k]
    simp only [List.length_cons]
    by_cases h1 : k = off + m
    · subst h1
      rw [if_neg (by omega), if_pos (by omega), Array.getElem?_setIfInBounds_self_of_lt (by omega)]
      simp
    · by_cases h2 : off + (m + 1) ≤ k ∧ k < off + (m + 1) + l.length
      · rw [if_pos h2, if_pos (by omega)]
        rw [show k - (off + m) = (k - (off + (m + 1))) + 1 by omega, List.getElem?_cons_succ]
      · rw [if_neg h2, if_neg (by omega), Array.getElem?_setIfInBounds_ne (by omega)]
theorem foldl_set_size (off : Nat) : ∀ (l : List Value) (m : Nat) (cells : Array Value), ((l.zipIdx m).foldl (fun cs p => cs.setIfInBounds (off + p.2) p.1) cells).size = cells.size
  | [], m, cells => rfl
  | v :: l, m, cells => by
    simp only [List.zipIdx_cons, List.foldl_cons]
    rw [foldl_set_size off l (m + 1)]
    simp

def ListRep (w : World) (φ : PMap) (Λ : Lent) (arr : Array Value) (cells : List AV) : Prop := arr.size = cells.length ∧ CellsRep w φ Λ arr 0 cells

theorem fill_rep {w : World} {φ : PMap} {Λ : Lent} {place : Nat → Option (Nat × Nat)} : ∀ {parts : List (Nat × AV)} {vparts : List (Nat × Value)} {arr : Array Value} {cells cs' : List AV}, ListRep w φ Λ arr cells →
    vparts.length = parts.length → (∀ (j : Nat) p, parts[j]? = some p → ∃ q, vparts[j]? = some q ∧ q.1 = p.1 ∧ Rep w φ Λ p.2 q.2) → fillAV place cells parts = some cs' →
    ∃ arr', Instr.fill place arr vparts = some arr' ∧ ListRep w φ Λ arr' cs'
  | [], vparts, arr, cells, cs', h1, h2, h3, h4 => by
    simp only [fillAV, Option.some.injEq] at h4
    subst h4
    have : vparts = [] := List.eq_nil_of_length_eq_zero (by simpa using h2)
    subst this
    exact ⟨arr, rfl, h1⟩
  | (i, x) :: rest, [], arr, cells, cs', h1, h2, h3, h4 => by simp at h2
  | (i, x) :: rest, (i', v) :: vrest, arr, cells, cs', h1, h2, h3, h4 => by
    obtain ⟨q, hq1, hq2, hq3⟩ := h3 0 (i, x) rfl
    simp only [List.getElem?_cons_zero, Option.some.injEq] at hq1
    subst hq1
    simp only at hq2 hq3
    subst hq2
    simp only [fillAV] at h4
    cases hp : place i' with
    | none => rw [hp] at h4; cases h4
    | some p =>
      obtain ⟨off, size⟩ := p
      simp only [hp] at h4
      cases hf : x.flat with
      | none => rw [hf] at h4; cases h4
      | some cs =>
        simp only [hf] at h4
        cases hb : (Nat.beq cs.length size && Nat.ble (off + size) cells.length) with
        | false => rw [hb] at h4; cases h4
        | true =>
          rw [hb] at h4
          simp only [cond_true] at h4
          simp only [Bool.and_eq_true] at hb
          have e1 := Nat.eq_of_beq_eq_true hb.1
          have e2 := Nat.le_of_ble_eq_true hb.2
          obtain ⟨f1, f2⟩ := hq3.flat hf
          have hcond : ¬ (v.cells.size ≠ size ∨ off + v.cells.size > arr.size) := by
            rw [h1.1, f1, e1]
            omega
          have hcond2 : (v.cells.size ≠ size || off + v.cells.size > arr.size) = false := by
            simp only [Bool.or_eq_false_iff, decide_eq_false_iff_not]
            exact ⟨fun h => hcond (.inl h), fun h => hcond (.inr h)⟩
          have hstep : Instr.fill place arr ((i', v) :: vrest) = Instr.fill place (v.cells.zipIdx.foldl (fun cs (c, j) => cs.setIfInBounds (off + j) c) arr) vrest := by
            simp only [Instr.fill, hp]
            rw [if_neg (by simpa using hcond2)]
          have hfold : v.cells.zipIdx.foldl (fun cs (c, j) => cs.setIfInBounds (off + j) c) arr = (v.cells.toList.zipIdx 0).foldl (fun cs p => cs.setIfInBounds (off + p.2) p.1) arr := by
            rw [← Array.foldl_toList, Array.toList_zipIdx]
          rw [hstep, hfold]
          refine fill_rep (parts := rest) (vparts := vrest) (place := place) ?_ (by simpa using h2) (fun j p hj => h3 (j + 1) p (by simpa using hj)) h4
          refine ⟨by rw [foldl_set_size, h1.1]; simp; omega, fun j c hj => ?_⟩
          have hsz := h1.1
          rw [Nat.zero_add, foldl_set off _ 0 arr (by simp; omega)]
          by_cases hj1 : j < off
          · rw [List.append_assoc, List.getElem?_append_left (by simp; omega), List.getElem?_take, if_pos hj1] at hj
            obtain ⟨y, y1, y2⟩ := h1.2 j c hj
            rw [if_neg (by omega)]
            rw [Nat.zero_add] at y1
            exact ⟨y, y1, y2⟩
          · by_cases hj2 : j < off + cs.length
            · rw [List.append_assoc, List.getElem?_append_right (by simp; omega), List.getElem?_append_left (by simp; omega)] at hj
              simp only [List.length_take] at hj
              rw [Nat.min_eq_left (by omega)] at hj
              obtain ⟨y, y1, y2⟩ := f2 _ c hj
              rw [if_pos (by simp; omega)]
              simp only [Nat.add_zero, Array.getElem?_toList]
              exact ⟨y, y1, y2⟩
            · rw [List.getElem?_append_right (by simp; omega), List.getElem?_drop] at hj
              simp only [List.length_append, List.length_take] at hj
              rw [Nat.min_eq_left (by omega), show off + size + (j - (off + cs.length)) = j by omega] at hj
              obtain ⟨y, y1, y2⟩ := h1.2 j c hj
              rw [if_neg (by simp; omega)]
              rw [Nat.zero_add] at y1
              exact ⟨y, y1, y2⟩

section rules
variable {P : Program} {n : Nat} {Q : APost} {s : AS} {te : TE} {o : Oper} {d : Option Tmp}

def structPlace (te : TE) (l : List (Nat × TypeId)) : Nat → Option (Nat × Nat) := fun i =>
  match l[i]? with
  | none => none
  | some (off, ft) => match te.get ft with
    | none => none
    | some j => some (off, j.size)
def arrPlace (size : Nat) : Nat → Option (Nat × Nat) := fun i => some (i * size, size)

theorem zeros_rep {w : World} {φ : PMap} {Λ : Lent} (zs : List ZC) : ListRep w φ Λ (zs.map ZC.val).toArray (zs.map fun z => AV.v z.val) := by
  refine ⟨by simp, fun j c hj => ?_⟩
  rw [List.getElem?_map, Option.map_eq_some_iff] at hj
  obtain ⟨z, h1, rfl⟩ := hj
  exact ⟨z.val, by simp [h1], .v⟩

theorem parts_rep {w : World} {φ : PMap} {Λ : Lent} {a : Act} (hs : Sim n w φ Λ s a) (parts : Array (Nat × Operand)) :
    (parts.map fun (i, x) => (i, a.eval x)).toList.length = (parts.toList.map fun p => (p.1, s.ev p.2)).length ∧
    ∀ (j : Nat) p, (parts.toList.map fun p => (p.1, s.ev p.2))[j]? = some p → ∃ q, (parts.map fun (i, x) => (i, a.eval x)).toList[j]? = some q ∧ q.1 = p.1 ∧ Rep w φ Λ p.2 q.2 := by
  refine ⟨by simp, fun j p hj => ?_⟩
  rw [List.getElem?_map, Option.map_eq_some_iff] at hj
  obtain ⟨r, h1, rfl⟩ := hj
  refine ⟨(r.1, a.eval r.2), ?_, rfl, hs.ev r.2⟩
  rw [Array.toList_map, List.getElem?_map, h1]
  rfl

theorem run_places {fs : Array Field} {l : List (Nat × TypeId)} (hte : TEok P te) (hl : fs.toList.map (fun f => (f.offset, f.type)) = l) (hk : (l.all fun p => (te.get p.2).isSome) = true) (w : World) :
    ∃ ps : Array (Nat × Nat), (fs.mapM fun f => do pure (f.offset, ← sizeOf f.type) : Sem (Array (Nat × Nat))).run P w = .ok ps w ∧ (fun i => ps[i]?) = structPlace te l := by
  have key : ∀ (L : List Field), (∀ f ∈ L, (te.get f.type).isSome = true) → ∃ ps : List (Nat × Nat), (L.mapM fun f => do pure (f.offset, ← sizeOf f.type) : Sem (List (Nat × Nat))).run P w = .ok ps w ∧
      ∀ i : Nat, ps[i]? = structPlace te (L.map fun f => (f.offset, f.type)) i := by
    intro L
    induction L with
    | nil => intro _; exact ⟨[], by simp, fun i => by simp [structPlace]⟩
    | cons f L ih =>
      intro h
      obtain ⟨ps, h1, h2⟩ := ih fun g hg => h g (List.mem_cons_of_mem _ hg)
      have hf := h f List.mem_cons_self
      obtain ⟨j, hj⟩ := Option.isSome_iff_exists.1 hf
      refine ⟨(f.offset, j.size) :: ps, ?_, fun i => ?_⟩
      · rw [List.mapM_cons]
        simp only [Sem.run_bind, (hte.tells hj).run_sizeOf, Result.andThen_ok, Sem.run_pure, h1]
      · cases i with
        | zero => simp [structPlace, hj]
        | succ i =>
          have := h2 i
          simp only [List.getElem?_cons_succ, structPlace, List.map_cons] at this ⊢
          exact this
  obtain ⟨ps, h1, h2⟩ := key fs.toList (fun f hf => by
    have hm : (f.offset, f.type) ∈ l := by rw [← hl]; exact List.mem_map_of_mem hf
    exact List.all_eq_true.1 hk _ hm)
  refine ⟨ps.toArray, ?_, ?_⟩
  · rw [← Array.toArray_toList (xs := fs), List.mapM_toArray]
    simp only [Sem.run_map, h1, Result.andThen_ok]
  · funext i
    rw [← hl]
    simpa using h2 i

theorem ok_build_struct (hte : TEok P te) {t : TypeId} {parts : Array (Nat × Operand)} {l : List (Nat × TypeId)} {ti : TI} {cs : List AV} (ho : o.op = .build t parts) (ht : te.get t = some ti) (hk : ti.k = .struct l)
    (hall : (l.all fun p => (te.get p.2).isSome) = true) (hcs : fillAV (structPlace te l) (ti.zero.map fun z => AV.v z.val) (parts.toList.map fun p => (p.1, s.ev p.2)) = some cs)
    (hdd : o.dst = d) (hd : d.all (Nat.blt · n) = true) : OpOk P n o s (s.put d (.agg cs)) :=
  .val hdd hd fun Λ w φ a hs => by
    obtain ⟨z, z1, z2, _⟩ := (hte.tells ht).run_zero w
    obtain ⟨fs, f1, f2⟩ := (hte.tells ht).struct hk
    obtain ⟨ps, p1, p2⟩ := run_places hte f2 hall w
    obtain ⟨q1, q2⟩ := parts_rep hs parts
    obtain ⟨arr', r1, r2, r3⟩ := fill_rep (zeros_rep ti.zero) q1 q2 hcs
    rw [← z2, ← p2] at r1
    refine ⟨.agg arr', ?_, .agg (fun j => arr'.getD j undef) r2 (fun j hj => ?_) (fun j c hj => ?_)⟩
    · have h : (Instr.build t (parts.map fun (i, x) => (i, a.eval x))).run P w = .ok (.agg arr') w := by
        simp only [Instr.build, Sem.run_bind, z1, Result.andThen_ok, run_underlying f1, p1, r1, Sem.run_pure]
      simp [execOp, ho, h]
    · have : j < arr'.size := by omega
      simp [Array.getD, this]
    · obtain ⟨y, y1, y2⟩ := r3 j c hj
      rw [Nat.zero_add] at y1
      rw [Array.getD_eq_getD_getElem?, y1]
      exact y2

theorem ok_build_arr (hte : TEok P te) {t e : TypeId} {m : Nat} {parts : Array (Nat × Operand)} {ti tj : TI} {cs : List AV} (ho : o.op = .build t parts) (ht : te.get t = some ti) (hk : ti.k = .arr m e) (he : te.get e = some tj)
    (hcs : fillAV (arrPlace tj.size) (ti.zero.map fun z => AV.v z.val) (parts.toList.map fun p => (p.1, s.ev p.2)) = some cs)
    (hdd : o.dst = d) (hd : d.all (Nat.blt · n) = true) : OpOk P n o s (s.put d (.agg cs)) :=
  .val hdd hd fun Λ w φ a hs => by
    obtain ⟨z, z1, z2, _⟩ := (hte.tells ht).run_zero w
    have f1 := (hte.tells ht).arr hk
    obtain ⟨q1, q2⟩ := parts_rep hs parts
    obtain ⟨arr', r1, r2, r3⟩ := fill_rep (zeros_rep ti.zero) q1 q2 hcs
    rw [← z2] at r1
    refine ⟨.agg arr', ?_, .agg (fun j => arr'.getD j undef) r2 (fun j hj => ?_) (fun j c hj => ?_)⟩
    · have h : (Instr.build t (parts.map fun (i, x) => (i, a.eval x))).run P w = .ok (.agg arr') w := by
        have r1' : Instr.fill (fun i => some (i * tj.size, tj.size)) z.cells (parts.map fun (i, x) => (i, a.eval x)).toList = some arr' := r1
        simp only [Instr.build, Sem.run_bind, z1, Result.andThen_ok, run_underlying f1, (hte.tells he).run_sizeOf, r1', Sem.run_pure]
      simp [execOp, ho, h]
    · have : j < arr'.size := by omega
      simp [Array.getD, this]
    · obtain ⟨y, y1, y2⟩ := r3 j c hj
      rw [Nat.zero_add] at y1
      rw [Array.getD_eq_getD_getElem?, y1]
      exact y2

def repZ (zs : List ZC) : Nat → List AV
  | 0 => []
  | k + 1 => zs.map (fun z => AV.v z.val) ++ repZ zs k
theorem repZ_length (zs : List ZC) : ∀ k, (repZ zs k).length = k * zs.length
  | 0 => by simp [repZ]
  | k + 1 => by simp [repZ, repZ_length zs k, Nat.add_mul]; omega
theorem repZ_get (zs : List ZC) : ∀ (k i : Nat), i < k * zs.length → (repZ zs k)[i]? = (zs[i % zs.length]?).map fun z => AV.v z.val
  | 0, i, h => by simp at h
  | k + 1, i, h => by
    simp only [repZ]
    by_cases h1 : i < zs.length
    · rw [List.getElem?_append_left (by simpa using h1), List.getElem?_map, Nat.mod_eq_of_lt h1]
    · rw [List.getElem?_append_right (by simpa using h1), List.length_map, repZ_get zs k (i - zs.length) (by rw [Nat.add_mul] at h; omega)]
      rw [← Nat.mod_eq_sub_mod (by omega)]

theorem zeros_many {w : World} {φ : PMap} {Λ : Lent} {zs : List ZC} {z : Array Value} (hz : z = (zs.map ZC.val).toArray) (k : Nat) (m : Nat) (hm : m = k * zs.length) :
    ListRep w φ Λ ((Array.range m).map (z[· % z.size]!)) (repZ zs k) := by
  have hzs : z.size = zs.length := by rw [hz]; simp
  refine ⟨by rw [repZ_length, ← hm]; simp, fun j c hj => ?_⟩
  have hlt : j < m := by rw [hm, ← repZ_length]; exact (List.getElem?_eq_some_iff.1 hj).1
  rw [repZ_get zs k j (by omega), Option.map_eq_some_iff] at hj
  obtain ⟨q, h1, rfl⟩ := hj
  refine ⟨q.val, ?_, .v⟩
  have h0 : 0 < zs.length := by
    rcases Nat.eq_zero_or_pos zs.length with h | h
    · rw [h] at hm; omega
    · exact h
  have hmod : j % zs.length < zs.length := Nat.mod_lt _ h0
  rw [Nat.zero_add, Array.getElem?_map, Array.getElem?_range, if_pos hlt]
  simp only [Option.map_some, Option.some.injEq, hzs]
  rw [getElem!_pos z (j % zs.length) (by rw [hzs]; exact hmod)]
  subst hz
  have := (List.getElem?_eq_some_iff.1 h1).2
  simp [this]

theorem ok_buildSlice (hte : TEok P te) {t e : TypeId} {m id : Nat} {parts : Array (Nat × Operand)} {ti tj : TI} {cs : List AV} (ho : o.op = .buildSlice t m parts) (ht : te.get t = some ti) (hk : ti.k = .slice e) (he : te.get e = some tj)
    (hid : s.h id = none) (hcs : fillAV (arrPlace tj.size) (repZ tj.zero m) (parts.toList.map fun p => (p.1, s.ev p.2)) = some cs) (hz : Nat.beq tj.zero.length tj.size = true) (hsm : Nat.ble (m * tj.size) 1000 = true)
    (hdd : o.dst = d) (hd : d.all (Nat.blt · n) = true) : OpOk P n o s ((s.seth id (some (.row cs tj.size 0))).put d (.sl id 0 0 m tj.size)) :=
  .chg hdd hd fun Λ w φ a hs => by
    have hu := (hte.tells ht).slice hk
    obtain ⟨z, z1, z2, _⟩ := (hte.tells he).run_zero w
    obtain ⟨q1, q2⟩ := parts_rep hs parts
    have hzl := Nat.eq_of_beq_eq_true hz
    have hle := Nat.le_of_ble_eq_true hsm
    have hsmall : ¬ (m * tj.size > 2 ^ 24) := by omega
    -- the zero cells, where there are any
    have hzero : ∃ zc : Array Value, ((if m * tj.size = 0 then pure #[] else do pure (← zeroValue e).cells : Sem (Array Value)).run P w = .ok zc w) ∧ ListRep w φ Λ ((Array.range (m * tj.size)).map (zc[· % zc.size]!)) (repZ tj.zero m) := by
      by_cases h0 : m * tj.size = 0
      · refine ⟨#[], by rw [if_pos h0]; rfl, ?_⟩
        have hn : repZ tj.zero m = [] := List.eq_nil_of_length_eq_zero (by rw [repZ_length, hzl, h0])
        rw [hn, h0]
        exact ⟨by simp, fun j c hj => by simp at hj⟩
      · refine ⟨z.cells, by rw [if_neg h0]; simp [z1], ?_⟩
        exact zeros_many z2 m _ (by rw [hzl])
    obtain ⟨zc, zc1, zc2⟩ := hzero
    obtain ⟨arr', r1, r2, r3⟩ := fill_rep zc2 q1 q2 hcs
    have hc := Chg.alloc hs.hs hid (.cells arr' e) 0 0
    have hrun : (Instr.buildSlice t m (parts.map fun (i, x) => (i, a.eval x))).run P w = .ok (.slice (some ⟨w.heap.size, 0, none⟩) m m) (w.alloc (.cells arr' e)) := by
      have r1' : Instr.fill (fun i => some (i * tj.size, tj.size)) ((Array.range (m * tj.size)).map (zc[· % zc.size]!)) (parts.map fun (i, x) => (i, a.eval x)).toList = some arr' := r1
      by_cases h0 : m * tj.size = 0
      · rw [if_pos h0] at zc1
        simp only [Sem.run_pure, Result.ok.injEq, and_true] at zc1
        subst zc1
        simp only [Instr.buildSlice, Sem.run_bind, run_underlying hu, Result.andThen_ok, (hte.tells he).run_sizeOf, hsmall, if_false]
        rw [if_pos h0]
        simp only [Sem.run_bind, Sem.run_pure, Result.andThen_ok, r1', newRow, run_newObj]
        rfl
      · rw [if_neg h0] at zc1
        simp only [Sem.run_bind, z1, Result.andThen_ok, Sem.run_pure, Result.ok.injEq, and_true] at zc1
        subst zc1
        simp only [Instr.buildSlice, Sem.run_bind, run_underlying hu, Result.andThen_ok, (hte.tells he).run_sizeOf, hsmall, if_false]
        rw [if_neg h0]
        simp only [Sem.run_bind, Sem.run_pure, Result.andThen_ok, z1, r1', newRow, run_newObj]
        rfl
    refine ⟨_, _, _, ?_, hc, objRep_row (w0 := w) (by omega) (fun j c hj => ?_), .slice (some ⟨w.heap.size, 0, none⟩) m m, .inl rfl, ?_⟩
    · simp [execOp, ho, hrun]
    · obtain ⟨y, y1, y2⟩ := r3 j c hj
      rw [Nat.zero_add] at y1
      exact ⟨y, y1, hc.rep y2⟩
    · have hlen : cs.length = m * tj.size := by
        have := fillAV_length hcs
        rw [this, repZ_length, hzl]
      exact Rep.sl (off := 0) (upd_same _ _ _) rfl rfl (heap_alloc_new w _) (by omega) (Nat.le_refl _)

end rules
end Go.Proofs.Ytaemmklgofddmaa.Fw
