/- Fw7: own objects are made, and stored into; no condition. -/
import Derived.Test.YtaemmklgofddmaaFwF
set_option linter.unusedVariables false
set_option linter.unusedSimpArgs false
namespace Go.Proofs.Ytaemmklgofddmaa.Fw
open Go.RowKit

def AV.one : AV → Bool
  | .v x => x.oneCell'
  | .any | .agg _ | .tup _ => false
  | _ => true
def AV.flat : AV → Option (List AV)
  | .agg cs => some cs
  | x => bif x.one then some [x] else none

section
variable {P : Program} {w : World} {φ : PMap} {Λ : Lent}

theorem Rep.one {x : AV} {v : Value} (h : Rep w φ Λ x v) (h1 : x.one = true) : v.oneCell' = true := by
  cases h <;> simp_all [AV.one, Value.oneCell']

theorem Rep.flat {x : AV} {v : Value} {cs : List AV} (h : Rep w φ Λ x v) (h1 : x.flat = some cs) :
    v.cells.size = cs.length ∧ ∀ (j : Nat) c, cs[j]? = some c → ∃ y, v.cells[j]? = some y ∧ Rep w φ Λ c y := by
  by_cases hx : ∃ l, x = .agg l
  · obtain ⟨l, rfl⟩ := hx
    simp only [AV.flat, Option.some.injEq] at h1
    subst h1
    cases h with
    | agg vf h1 h2 h3 =>
      refine ⟨h1, fun j c hj => ?_⟩
      have hlt := (List.getElem?_eq_some_iff.1 hj).1
      exact ⟨vf j, h2 j hlt, h3 j c hj⟩
  · have hf : x.flat = bif x.one then some [x] else none := by cases x <;> first | rfl | exact absurd ⟨_, rfl⟩ hx
    rw [hf] at h1
    cases ho : x.one with
    | false => rw [ho] at h1; cases h1
    | true =>
      rw [ho] at h1
      simp only [cond_true, Option.some.injEq] at h1
      subst h1
      have hv := h.one ho
      have hc : v.cells = #[v] := by cases v <;> simp_all [Value.cells, Value.oneCell']
      rw [hc]
      refine ⟨rfl, fun j c hj => ?_⟩
      cases j with
      | zero => simp at hj; subst hj; exact ⟨v, rfl, h⟩
      | succ j => simp at hj

theorem Rep.flat_one {x : AV} {v : Value} {cs : List AV} (h : Rep w φ Λ x v) (h1 : x.flat = some cs) (ha : cs.all AV.one = true) : ∀ y ∈ v.cells.toList, y.oneCell' = true := by
  obtain ⟨h2, h3⟩ := h.flat h1
  intro y hy
  obtain ⟨j, hj, rfl⟩ := List.getElem_of_mem hy
  have hj' : j < cs.length := by rw [← h2]; simpa using hj
  obtain ⟨z, z1, z2⟩ := h3 j cs[j] (List.getElem?_eq_getElem hj')
  have : z = v.cells.toList[j] := by
    have hjs : j < v.cells.size := by simpa using hj
    rw [Array.getElem?_eq_getElem hjs] at z1
    cases z1
    simp
  rw [← this]
  exact z2.one (List.all_eq_true.1 ha _ (List.getElem_mem hj'))

theorem Chg.alloc {h : Nat → Option AObj} {id : Nat} (hs : HSim w φ Λ h) (hid : h id = none) (ob : Obj) (oo ver : Nat) : Chg w φ Λ h id ⟨some (w.heap.size, oo), ver⟩ (w.alloc ob) := by
  have hn := hs.dom id hid
  refine ⟨hs, by simp, rfl, rfl, rfl, fun k hk _ => Below.heap_alloc w ob k hk, fun b' o' hb => ?_, fun l hl => ?_, fun l hl => ?_⟩
  · simp only [Option.some.injEq, Prod.mk.injEq] at hb
    obtain ⟨rfl, rfl⟩ := hb
    exact ⟨by simp, .inl (Nat.le_refl _)⟩
  · rw [hn] at hl; cases hl
  · rw [hn] at hl; cases hl

theorem objRep_box {cells : List AV} {arr : Array Value} {T : TypeId} {φ' : PMap} {w0 : World} (hl : arr.size = cells.length) (hr : ∀ (j : Nat) c, cells[j]? = some c → ∃ y, arr[j]? = some y ∧ Rep (w0.alloc (.cells arr T)) φ' Λ c y) :
    ObjRep (w0.alloc (.cells arr T)) φ' Λ (.box cells) ⟨some (w0.heap.size, 0), 0⟩ :=
  ⟨w0.heap.size, arr, T, rfl, rfl, heap_alloc_new w0 _, hl, fun j c hj => by rw [Nat.zero_add]; exact hr j c hj⟩
theorem objRep_row {cells : List AV} {arr : Array Value} {T : TypeId} {φ' : PMap} {w0 : World} {esz ver : Nat} (hl : cells.length ≤ arr.size) (hr : ∀ (j : Nat) c, cells[j]? = some c → ∃ y, arr[j]? = some y ∧ Rep (w0.alloc (.cells arr T)) φ' Λ c y) :
    ObjRep (w0.alloc (.cells arr T)) φ' Λ (.row cells esz ver) ⟨some (w0.heap.size, 0), ver⟩ :=
  ⟨rfl, .inr ⟨w0.heap.size, 0, arr, T, 0, 0, rfl, heap_alloc_new w0 _, .inr (Nat.le_refl _), by omega, fun j c hj => by rw [Nat.zero_add]; exact hr j c hj⟩⟩
end

section rules
variable {P : Program} {n : Nat} {Q : APost} {s : AS} {te : TE} {o : Oper} {d : Option Tmp}

theorem OpOk.chg {id : Nat} {ob' : AObj} {x : AV} (hdd : o.dst = d) (hd : d.all (Nat.blt · n) = true)
    (h : ∀ Λ w φ a, Sim n w φ Λ s a → ∃ nx w' l', (execOp a.eval o).run P w = .ok nx w' ∧ Chg w φ Λ s.h id l' w' ∧ ObjRep w' (upd φ id (some l')) Λ ob' l' ∧
      ∃ y, (nx = .value y ∨ (nx = .skip ∧ y = undef)) ∧ Rep w' (upd φ id (some l')) Λ x y) : OpOk P n o s ((s.seth id (some ob')).put d x) := by
  intro Λ w φ a hs next QQ hn
  obtain ⟨nx, w', l', h1, h2, h3, y, h4, h5⟩ := h Λ w φ a hs
  subst hdd
  have hs' : Sim n w' (upd φ id (some l')) Λ (s.seth id (some ob')) a := ⟨hs.defs, hs.size, fun i => h2.rep (hs.tmps i), h2.hsim h3⟩
  have := hn w' _ _ (hs'.put o.dst hd h5) h2.goes
  unfold Oper.wp
  rw [h1]
  rcases h4 with rfl | ⟨rfl, rfl⟩
  · exact this
  · exact this

theorem ok_alloc (hte : TEok P te) {t : TypeId} {ti : TI} {id : Nat} {zs : List AV} (ho : o.op = .alloc t) (ht : te.get t = some ti) (hid : s.h id = none) (hz : ti.zero.map (fun z => AV.v z.val) = zs)
    (hdd : o.dst = d) (hd : d.all (Nat.blt · n) = true) : OpOk P n o s ((s.seth id (some (.box zs))).put d (.ptr id 0 0)) :=
  .chg hdd hd fun Λ w φ a hs => by
    obtain ⟨z, h1, h2, _⟩ := (hte.tells ht).run_zero w
    have hc := Chg.alloc hs.hs hid (.cells z.cells t) 0 0
    refine ⟨_, _, _, ?_, hc, ?_, .pointer (some ⟨w.heap.size, 0, none⟩), .inl rfl, ?_⟩
    · simp [execOp, ho, Instr.alloc, h1, newVar, newRow]
    · refine objRep_box (by rw [h2, ← hz]; simp) fun j c hj => ?_
      rw [← hz, List.getElem?_map, Option.map_eq_some_iff] at hj
      obtain ⟨q, q1, rfl⟩ := hj
      exact ⟨q.val, by rw [h2]; simp [q1], .v⟩
    · exact .ptr (upd_same _ _ _) rfl rfl

theorem ok_box (hte : TEok P te) {t : TypeId} {x : Operand} {id : Nat} {y : AV} {cs : List AV} (ho : o.op = .box t x) (hx : s.ev x = y) (hf : y.flat = some cs) (hid : s.h id = none)
    (hdd : o.dst = d) (hd : d.all (Nat.blt · n) = true) : OpOk P n o s ((s.seth id (some (.box cs))).put d (.ptr id 0 0)) :=
  .chg hdd hd fun Λ w φ a hs => by
    have hr := hs.ev x
    rw [hx] at hr
    obtain ⟨h1, h2⟩ := hr.flat hf
    have hc := Chg.alloc hs.hs hid (.cells (a.eval x).cells t) 0 0
    refine ⟨_, _, _, ?_, hc, ?_, .pointer (some ⟨w.heap.size, 0, none⟩), .inl rfl, ?_⟩
    · simp [execOp, ho, Instr.box, newVar, newRow]
    · refine objRep_box h1 fun j c hj => ?_
      obtain ⟨z, z1, z2⟩ := h2 j c hj
      exact ⟨z, z1, hc.rep z2⟩
    · exact .ptr (upd_same _ _ _) rfl rfl

def AObj.withCells : AObj → List AV → AObj
  | .box _, c => .box c
  | .row _ e v, c => .row c e v
  | .map es, _ => .map es

/-- Cells of an object are written: what becomes of the world. -/
theorem run_store_obj {w : World} {φ : PMap} {Λ : Lent} {h : Nat → Option AObj} (hs : HSim w φ Λ h) {id ver : Nat} {ob : AObj} {cells cs c' : List AV} (hob : h id = some ob) (hc : ob.at ver = some cells)
    {po : Nat} (vs : List Value) (hv : vs.length = cs.length) (hvr : ∀ (j : Nat) c, cs[j]? = some c → ∃ y, vs[j]? = some y ∧ Rep w φ Λ c y) (h1 : ∀ y ∈ vs, y.oneCell' = true) (hb : po + cs.length ≤ cells.length) (hp : 0 < cells.length)
    (hc' : cells.take po ++ cs ++ cells.drop (po + cs.length) = c') {l : Loc} (hl : φ id = some l) {b oo : Nat} (hbo : l.bo = some (b, oo)) :
    l.ver = ver ∧ ∃ w', (storeCells ⟨b, oo + po, none⟩ vs).run P w = .ok () w' ∧ Chg w φ Λ h id l w' ∧ ObjRep w' (upd φ id (some l)) Λ (ob.withCells c') l := by
  obtain ⟨l0, b0, oo0, arr, T, lo, hi, g1, g2, g3, g4, g5, g6, g7⟩ := hs.at hob hc hp
  rw [hl] at g1
  cases g1
  rw [hbo] at g3
  cases g3
  refine ⟨g2, ?_⟩
  have hrun := run_storeCells_un (P := P) b (oo + po) T lo hi vs 0 arr w g4 g5 (by omega) h1
  simp only [Nat.add_zero] at hrun
  refine ⟨_, hrun, ?_, ?_⟩
  · have hlt := hs.lt id l b oo hl hbo
    refine ⟨hs, by simp, rfl, rfl, rfl, fun k hk hne => setRow_other w b k _ (hne l b oo hl hbo), fun b' o' hb' => ?_, fun l2 hl2 => ?_, fun l2 hl2 _ b2 o2 arr2 T2 m2 hb2 hh2 => ?_⟩
    · rw [hbo] at hb'
      cases hb'
      exact ⟨by simpa using hlt.1, .inr ⟨l, oo, hl, hbo⟩⟩
    · rw [hl] at hl2; cases hl2; exact .inl rfl
    · rw [hl] at hl2
      cases hl2
      rw [hbo] at hb2
      cases hb2
      rw [g4] at hh2
      cases hh2
      exact ⟨_, _, _, setRow_heap w b arr _ T (lo, hi) g4, by simp; omega⟩
  · have hlt : oo + po + vs.length ≤ arr.size := by omega
    have hsz : (arr.toList.take (oo + po) ++ vs ++ arr.toList.drop (oo + po + vs.length)).toArray.size = arr.size := by simp; omega
    have hcl : c'.length = cells.length := by rw [← hc']; simp; omega
    have hstays : Stays w φ (w.setRow b (arr.toList.take (oo + po) ++ vs ++ arr.toList.drop (oo + po + vs.length)).toArray) φ := by
      refine ⟨fun i l2 h2 => ⟨l2, h2, .inl rfl⟩, fun i l2 h2 _ b2 o2 arr2 T2 m2 hb2 hh2 => ?_⟩
      by_cases hbb : b2 = b
      · subst hbb
        rw [g4] at hh2
        cases hh2
        exact ⟨_, _, _, setRow_heap w b2 arr _ T (lo, hi) g4, by rw [hsz]; exact Nat.le_refl _⟩
      · exact ⟨arr2, T2, m2, by rw [setRow_other w b b2 _ hbb]; exact hh2, Nat.le_refl _⟩
    have hgoes : Goes w φ (w.setRow b (arr.toList.take (oo + po) ++ vs ++ arr.toList.drop (oo + po + vs.length)).toArray) φ := by
      refine ⟨fun k hk hno => setRow_other w b k _ (fun e => hno ⟨id, l, oo, hl, by rw [hbo, e]⟩), by simp, fun _ h => .inl h, rfl, rfl, rfl, hstays.pin⟩
    have hupd : upd φ id (some l) = φ := by
      funext i
      by_cases hi : i = id
      · subst hi; rw [upd_same, hl]
      · rw [upd_other _ _ _ _ hi]
    rw [hupd]
    have hcells : CellsRep (w.setRow b (arr.toList.take (oo + po) ++ vs ++ arr.toList.drop (oo + po + vs.length)).toArray) φ Λ (arr.toList.take (oo + po) ++ vs ++ arr.toList.drop (oo + po + vs.length)).toArray oo c' := by
      intro j c hj
      rw [← hc'] at hj
      simp only [List.getElem?_toArray]
      by_cases hj1 : j < po
      · have hj2 : cells[j]? = some c := by
          rw [List.append_assoc, List.getElem?_append_left (by simp; omega), List.getElem?_take, if_pos hj1] at hj
          exact hj
        obtain ⟨y, y1, y2⟩ := g7 j c hj2
        refine ⟨y, ?_, y2.goes hgoes hstays⟩
        rw [List.append_assoc, List.getElem?_append_left (by simp; omega), List.getElem?_take, if_pos (by omega)]
        simpa using y1
      · by_cases hj3 : j < po + cs.length
        · have hj4 : cs[j - po]? = some c := by
            rw [List.append_assoc, List.getElem?_append_right (by simp; omega), List.getElem?_append_left (by simp; omega)] at hj
            simp only [List.length_take] at hj
            rwa [Nat.min_eq_left (by omega)] at hj
          obtain ⟨y, y1, y2⟩ := hvr _ c hj4
          refine ⟨y, ?_, y2.goes hgoes hstays⟩
          rw [List.append_assoc, List.getElem?_append_right (by simp; omega), List.getElem?_append_left (by simp; omega)]
          simp only [List.length_take, Array.length_toList]
          rw [Nat.min_eq_left (by omega), show oo + j - (oo + po) = j - po by omega]
          exact y1
        · have hj5 : cells[j]? = some c := by
            rw [List.getElem?_append_right (by simp; omega), List.getElem?_drop] at hj
            simp only [List.length_append, List.length_take] at hj
            rwa [Nat.min_eq_left (by omega), show po + cs.length + (j - (po + cs.length)) = j by omega] at hj
          obtain ⟨y, y1, y2⟩ := g7 j c hj5
          refine ⟨y, ?_, y2.goes hgoes hstays⟩
          rw [List.getElem?_append_right (by simp; omega), List.getElem?_drop]
          simp only [List.length_append, List.length_take, Array.length_toList]
          rw [Nat.min_eq_left (by omega), show oo + po + vs.length + (oo + j - (oo + po + vs.length)) = oo + j by omega]
          simpa using y1
    cases ob with
    | box c =>
      simp only [AObj.at] at hc
      obtain ⟨l3, g8, g9⟩ := hs.heap id _ hob
      rw [hl] at g8
      cases g8
      obtain ⟨b4, arr4, T4, k1, k2, k3, k4, k5⟩ := g9
      rw [hbo] at k1
      cases k1
      rw [g4] at k3
      cases k3
      have hcc : c.length = cells.length := by
        cases hb : Nat.beq ver 0 with
        | false => rw [hb] at hc; cases hc
        | true => rw [hb] at hc; simp only [cond_true, Option.some.injEq] at hc; rw [hc]
      exact ⟨b, _, T, hbo, k2, setRow_heap w b arr _ T (0, 0) g4, by rw [hsz, k4, hcc, hcl], hcells⟩
    | row c e v =>
      simp only [AObj.at] at hc
      have hv2 : ver = v := by
        cases hb : Nat.beq ver v with
        | false => rw [hb] at hc; cases hc
        | true => exact Nat.eq_of_beq_eq_true hb
      refine ⟨by omega, .inr ⟨b, oo, _, T, lo, hi, hbo, setRow_heap w b arr _ T (lo, hi) g4, by rw [hsz]; exact g5, by rw [hsz, hcl]; exact g6, hcells⟩⟩
    | map es => simp [AObj.at] at hc

theorem ok_store_ptr (hte : TEok P te) {t : TypeId} {x y : Operand} {id ver po : Nat} {ob : AObj} {cells cs c' : List AV} {ti : TI} {v : AV} (ho : o.op = .store t x y) (hx : s.ev x = .ptr id ver po)
    (hy : s.ev y = v) (hf : v.flat = some cs) (h1 : cs.all AV.one = true) (hob : s.h id = some ob) (hc : ob.at ver = some cells) (ht : te.get t = some ti) (hl : cs.length = ti.size)
    (hb : po + cs.length ≤ cells.length) (hp : 0 < cells.length) (hc' : cells.take po ++ cs ++ cells.drop (po + cs.length) = c') (hdd : o.dst = d) (hd : d.all (Nat.blt · n) = true) :
    OpOk P n o s ((s.seth id (some (ob.withCells c'))).put d (.v undef)) :=
  .chg hdd hd fun Λ w φ a hs => by
    have hr := hs.ev x
    rw [hx] at hr
    have hry := hs.ev y
    rw [hy] at hry
    obtain ⟨f1, f2⟩ := hry.flat hf
    obtain ⟨l, hl1, _⟩ := hs.hs.heap id ob hob
    obtain ⟨l0, b0, oo0, arr, T, lo, hi, g1, g2, g3, g4, g5, g6, g7⟩ := hs.hs.at hob hc hp
    generalize hv : a.eval x = xv at hr
    cases hr with
    | ptrx e1 e2 => rw [g1] at e1; cases e1; omega
    | ptr e1 e2 e3 =>
      rw [g1] at e1
      cases e1
      rw [g3] at e3
      cases e3
      obtain ⟨_, w', r1, r2, r3⟩ := run_store_obj (P := P) hs.hs hob hc (po := po) (a.eval y).cells.toList (by simpa using f1) (fun j c hj => by simpa using f2 j c hj) (hry.flat_one hf h1) hb hp hc' g1 g3
      refine ⟨.skip, w', l0, ?_, r2, r3, undef, .inr ⟨rfl, rfl⟩, .v⟩
      have hsz : (a.eval y).cells.size = ti.size := by rw [f1, hl]
      simp [execOp, ho, hv, Instr.storeAt, Instr.sureAddr, storeVar, (hte.tells ht).run_sizeOf, hsz, r1]

end rules
end Go.Proofs.Ytaemmklgofddmaa.Fw
