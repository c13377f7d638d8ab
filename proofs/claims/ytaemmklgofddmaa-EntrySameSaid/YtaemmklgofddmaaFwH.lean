/- Fw8: append; no condition. -/
import Derived.Test.YtaemmklgofddmaaFwG
set_option linter.unusedVariables false
set_option linter.unusedSimpArgs false
namespace Go.Proofs.Ytaemmklgofddmaa.Fw
open Go.RowKit

section run
variable {P : Program} {w : World}

def SliceOrStr (d : TypeDesc) : Prop := (∃ e, d = .slice e) ∨ d = .string

set_option maxHeartbeats 1000000 in
theorem run_append_in {t t2 ty e : TypeId} {d2 : TypeDesc} {f : TypeInfo} (ht : P.underlying t = some (.slice e)) (h2 : P.underlying t2 = some d2) (hd2 : SliceOrStr d2) (hi : P.info? e = some f)
    {ad : Addr} {sLen sCap m : Nat} {yv : Value} {vs : List Value} (hlen : (Builtin.lenOf yv).run P w = .ok m w) (hnew : (Builtin.firstCells f.size m yv).run P w = .ok vs.toArray w) (hroom : sLen + m ≤ sCap)
    {w' : World} (hst : (storeCells (ad.add (sLen * f.size)) vs).run P w = .ok () w') :
    (Builtin.append_ #[t, t2] ty #[.slice (some ad) sLen sCap, yv]).run P w = .ok (.slice (some ad) (sLen + m) sCap) w' := by
  rcases hd2 with ⟨e2, rfl⟩ | rfl
  · simp [Builtin.append_, run_underlying ht, run_underlying h2, sizeOf, typeInfo, hi, hlen, hnew, hroom, hst]
  · simp [Builtin.append_, run_underlying ht, run_underlying h2, sizeOf, typeInfo, hi, hlen, hnew, hroom, hst]

set_option maxHeartbeats 1000000 in
theorem run_append_nil0 {t t2 ty e : TypeId} {d2 : TypeDesc} {f : TypeInfo} (ht : P.underlying t = some (.slice e)) (h2 : P.underlying t2 = some d2) (hd2 : SliceOrStr d2) (hi : P.info? e = some f)
    {yv : Value} (hlen : (Builtin.lenOf yv).run P w = .ok 0 w) (hnew : (Builtin.firstCells f.size 0 yv).run P w = .ok [].toArray w) :
    (Builtin.append_ #[t, t2] ty #[.slice none 0 0, yv]).run P w = .ok (.slice none 0 0) w := by
  rcases hd2 with ⟨e2, rfl⟩ | rfl
  · simp [Builtin.append_, run_underlying ht, run_underlying h2, sizeOf, typeInfo, hi, hlen, hnew]
  · simp [Builtin.append_, run_underlying ht, run_underlying h2, sizeOf, typeInfo, hi, hlen, hnew]

set_option maxHeartbeats 1000000 in
theorem run_append_out {t t2 ty e : TypeId} {d2 : TypeDesc} {f : TypeInfo} {z : Value} (ht : P.underlying t = some (.slice e)) (h2 : P.underlying t2 = some d2) (hd2 : SliceOrStr d2) (hi : P.info? e = some f)
    (hz : f.zero = some z) {base : Option Addr} {sLen sCap m : Nat} {yv : Value} {vs olds : List Value} (hlen : ∀ w' : World, (Builtin.lenOf yv).run P w' = .ok m w')
    (hnew : ∀ w' : World, w'.heap = w.heap → (Builtin.firstCells f.size m yv).run P w' = .ok vs.toArray w')
    (hold : ∀ w' : World, w'.heap = w.heap → (Builtin.firstCells f.size sLen (.slice base sLen sCap)).run P w' = .ok olds.toArray w') (hroom : sCap < sLen + m) (hb : (sLen + m) * f.bytes ≤ 140737488355328)
    (h63 : sLen + m ≤ 9223372036854775807) :
    (Builtin.append_ #[t, t2] ty #[.slice base sLen sCap, yv]).run P w = .ok (.slice (some ⟨w.heap.size, 0, none⟩) (sLen + m) (grownCap w (sLen + m) sCap e))
      (w.drew.alloc (.cells (olds.toArray ++ vs.toArray ++ Builtin.zeroCells z.cells (grownCap w (sLen + m) sCap e - (sLen + m))) e)) := by
  have hn : ¬ (sLen + m ≤ sCap) := by omega
  have h63' : ¬ (9223372036854775807 < ((sLen : Int) + (m : Int))) := by omega
  have h48 := growslice_fits hroom hb
  have h48' : ¬ (281474976710656 < Builtin.nextslicecap (sLen + m) sCap * f.bytes) := by omega
  have e1 := hnew w.drew rfl
  have e2 := hold w.drew rfl
  have e3 := hlen w
  rcases hd2 with ⟨e2', rfl⟩ | rfl
  · simp [Builtin.append_, run_underlying ht, run_underlying h2, sizeOf, typeInfo, zeroValue, hi, hz, e3, hn, h63', h48', Question.forced, e1, e2, newRow, grownCap]
    congr 2
    apply Array.ext'
    simp
  · simp [Builtin.append_, run_underlying ht, run_underlying h2, sizeOf, typeInfo, zeroValue, hi, hz, e3, hn, h63', h48', Question.forced, e1, e2, newRow, grownCap]
    congr 2
    apply Array.ext'
    simp
end run

section rules
variable {P : Program} {n : Nat} {Q : APost} {s : AS} {te : TE} {o : Oper} {d : Option Tmp}

/-- What may be appended: m elements that read as these cells. -/
def Src (P : Program) (n : Nat) (s : AS) (y : Operand) (esz m : Nat) (cs : List AV) : Prop :=
  ∀ Λ w φ a, Sim n w φ Λ s a → (∀ w', (Builtin.lenOf (a.eval y)).run P w' = .ok m w') ∧ ∃ vs : List Value, vs.length = m * esz ∧ cs.length = m * esz ∧
    (∀ w' : World, w'.heap = w.heap → (Builtin.firstCells esz m (a.eval y)).run P w' = .ok vs.toArray w') ∧ (∀ (j : Nat) c, cs[j]? = some c → ∃ u, vs[j]? = some u ∧ Rep w φ Λ c u)

theorem src_str {y : Operand} {l : List UInt8} {cs : List AV} (hy : s.ev y = str l) (hc : l.map (fun b => u8 b.toNat) = cs) : Src P n s y 1 l.length cs := fun Λ w φ a hs => by
  have hv := ev_v hs hy
  rw [hv]
  refine ⟨fun w' => by simp [Builtin.lenOf, mk_size], l.map (fun b => .int .u8 b.toNat), by simp, by rw [← hc]; simp, fun w' _ => ?_, fun j c hj => ?_⟩
  · simp only [Builtin.firstCells, mk_extract, Sem.run_pure]
    congr 1
    apply Array.ext'
    simp
  · rw [← hc, List.getElem?_map, Option.map_eq_some_iff] at hj
    obtain ⟨b, h1, rfl⟩ := hj
    exact ⟨_, by rw [List.getElem?_map, h1]; rfl, .v⟩

theorem src_nil {y : Operand} {esz k : Nat} (hy : s.ev y = .v (.slice none 0 k)) : Src P n s y esz 0 [] := fun Λ w φ a hs => by
  have hv := ev_v hs hy
  rw [hv]
  exact ⟨fun w' => by simp [Builtin.lenOf], [], by simp, by simp, fun w' _ => by simp [Builtin.firstCells], fun j c hj => by simp at hj⟩

theorem src_fz {y : Operand} {lv esz m : Nat} {cs : List AV} (hy : s.ev y = .fz lv m cs) (hl : cs.length = m * esz) : Src P n s y esz m cs := fun Λ w φ a hs => by
  have hr := hs.ev y
  rw [hy] at hr
  generalize a.eval y = v at hr
  cases hr with
  | @fz0 _ ad cap =>
    refine ⟨fun w' => by simp [Builtin.lenOf], [], by simp, by simp, fun w' _ => ?_, fun j c hj => by simp at hj⟩
    cases ad with
    | none => simp [Builtin.firstCells]
    | some ad => simp [Builtin.firstCells, loadCells, loadCellsFrom]
  | @fz _ _ _ b oo cap vf hm hn hok hc hr hp =>
    refine ⟨fun w' => by simp [Builtin.lenOf], (List.range (m * esz)).map vf, by simp, hl, fun w' hw => ?_, fun j c hj => ?_⟩
    · simp only [Builtin.firstCells]
      refine run_loadCells w' _ _ vf fun j hj => ?_
      rw [Addr.add_lit]
      have := hc j (by rw [hl]; exact hj)
      simpa [World.cell?, hw] using this
    · have hlt := (List.getElem?_eq_some_iff.1 hj).1
      exact ⟨vf j, by rw [hl] at hlt; simp [hlt], hr j c hj⟩

theorem src_sl {y : Operand} {id ver off len esz : Nat} {ob : AObj} {cells cs : List AV} (hy : s.ev y = .sl id ver off len esz) (hob : s.h id = some ob) (hat : ob.at ver = some cells)
    (hc : (cells.drop off).take (len * esz) = cs) (hl : cs.length = len * esz) : Src P n s y esz len cs := fun Λ w φ a hs => by
  have hr := hs.ev y
  rw [hy] at hr
  generalize a.eval y = v at hr
  by_cases hp : 0 < cells.length
  · obtain ⟨l0, b0, oo0, arr, T, lo, hi, g1, g2, g3, g4, g5, g6, g7⟩ := hs.hs.at hob hat hp
    have hlen : cs.length = min (len * esz) (cells.length - off) := by rw [← hc]; simp
    cases hr with
    | slx e1 e2 => rw [g1] at e1; cases e1; omega
    | @sl0 _ _ _ _ _ ad e1 e2 =>
      have : cs = [] := List.eq_nil_of_length_eq_zero (by simpa using hl)
      subst this
      refine ⟨fun w' => by simp [Builtin.lenOf], [], by simp, by simp, fun w' _ => ?_, fun j c hj => by simp at hj⟩
      cases ad with
      | none => simp [Builtin.firstCells]
      | some ad => simp [Builtin.firstCells, loadCells, loadCellsFrom]
    | sl e1 e2 e3 e4 e5 e6 =>
      rw [g1] at e1
      cases e1
      rw [g3] at e3
      cases e3
      rw [g4] at e4
      cases e4
      refine ⟨fun w' => by simp [Builtin.lenOf], (List.range (len * esz)).map (fun j => arr.getD (oo0 + off + j) undef), by simp, hl, fun w' hw => ?_, fun j c hj => ?_⟩
      · simp only [Builtin.firstCells]
        refine run_loadCells w' _ _ _ fun j hj => ?_
        rw [Addr.add_lit]
        have : oo0 + off + j < arr.size := by omega
        simp [World.cell?, hw, g4, Array.getD, this]
      · have hlt := (List.getElem?_eq_some_iff.1 hj).1
        rw [← hc, List.getElem?_take] at hj
        split at hj
        · rw [List.getElem?_drop] at hj
          obtain ⟨z, z1, z2⟩ := g7 (off + j) c hj
          rw [← Nat.add_assoc] at z1
          refine ⟨z, ?_, z2⟩
          rw [List.getElem?_map, List.getElem?_range (by omega)]
          simp [Array.getD_eq_getD_getElem?, z1]
        · cases hj
  · have hc0 : cells = [] := List.eq_nil_of_length_eq_zero (by omega)
    subst hc0
    have hcs : cs = [] := by rw [← hc]; simp
    subst hcs
    simp only [List.length_nil] at hl
    have hv : ∃ ad cap, v = .slice ad len cap := rep_len hr rfl
    obtain ⟨ad, cap, rfl⟩ := hv
    refine ⟨fun w' => by simp [Builtin.lenOf], [], by simp [← hl], by simp [← hl], fun w' _ => ?_, fun j c hj => by simp at hj⟩
    cases ad with
    | none => simp [Builtin.firstCells]
    | some ad => simp [Builtin.firstCells, loadCells, ← hl, loadCellsFrom]

/-- What the table tells of an element type, for append. -/
theorem te_elem (hte : TEok P te) {e : TypeId} {tj : TI} (he : te.get e = some tj) : ∃ f z, P.info? e = some f ∧ f.size = tj.size ∧ f.bytes = tj.bytes ∧ f.zero = some z := by
  obtain ⟨f, z, h1, h2, h3, h4, _⟩ := (hte.tells he).info
  exact ⟨f, z, h1, h2, h3, h4⟩
theorem te_notInt (hte : TEok P te) {t : TypeId} {ti : TI} (ht : te.get t = some ti) (hk : (match ti.k with | .slice _ | .str => true | _ => false) = true) : ∃ d2, P.underlying t = some d2 ∧ SliceOrStr d2 := by
  obtain ⟨d2, h1, h2⟩ := (hte.tells ht).desc
  refine ⟨d2, h1, ?_⟩
  obtain ⟨k, _, _, _⟩ := ti
  cases k <;> simp at hk <;> cases d2 <;> simp_all [TK.chk, SliceOrStr]

theorem ok_append_nil (hte : TEok P te) {t t2 e : TypeId} {x y : Operand} {id m : Nat} {cs : List AV} {ti tj tk : TI} (ho : o.op = .call { callee := .builtin .append, args := #[x, y], argTypes := #[t, t2] })
    (hx : s.ev x = .v (.slice none 0 0)) (ht : te.get t = some ti) (hk : ti.k = .slice e) (he : te.get e = some tj) (ht2 : te.get t2 = some tk) (hk2 : (match tk.k with | .slice _ | .str => true | _ => false) = true)
    (hsrc : Src P n s y tj.size m cs) (hid : s.h id = none) (hb : m * tj.bytes ≤ 140737488355328) (hm : m ≤ 9223372036854775807) (hdd : o.dst = d) (hd : d.all (Nat.blt · n) = true) :
    OpOk P n o s ((s.seth id (some (.row cs tj.size 0))).put d (.sl id 0 0 m tj.size)) :=
  .chg hdd hd fun Λ w φ a hs => by
    obtain ⟨hl, vs, v1, v2, v3, v4⟩ := hsrc Λ w φ a hs
    obtain ⟨f, z, f1, f2, f3, f4⟩ := te_elem hte he
    obtain ⟨d2, u1, u2⟩ := te_notInt hte ht2 hk2
    have hu := (hte.tells ht).slice hk
    have hxv := ev_v hs hx
    by_cases hm0 : m = 0
    · subst hm0
      simp only [Nat.zero_mul] at v1 v2
      have hcs : cs = [] := List.eq_nil_of_length_eq_zero v2
      have hvs : vs = [] := List.eq_nil_of_length_eq_zero v1
      subst hcs
      subst hvs
      have hn := hs.hs.dom id hid
      refine ⟨.value (.slice none 0 0), w, ⟨none, 0⟩, ?_, ?_, ⟨rfl, .inl ⟨rfl, rfl⟩⟩, .slice none 0 0, .inl rfl, .sl0 (upd_same _ _ _) rfl⟩
      · have hrun := run_append_nil0 (P := P) (w := w) (ty := o.type) hu u1 u2 f1 (hl w) (by rw [f2]; exact v3 w rfl)
        simp [execOp, ho, resolve, invoke, builtin, hxv, hrun]
      · exact ⟨hs.hs, Nat.le_refl _, rfl, rfl, rfl, fun k _ _ => rfl, (fun b' o' hb' => by cases hb'), (fun l hl => by rw [hn] at hl; cases hl), (fun l hl => by rw [hn] at hl; cases hl)⟩
    · have hrun := run_append_out (P := P) (w := w) (ty := o.type) hu u1 u2 f1 f4 (base := none) (sLen := 0) (sCap := 0) (m := m) (olds := []) hl (by rw [f2]; exact v3) (fun w' _ => by simp [Builtin.firstCells]) (by omega) (by rw [f3, Nat.zero_add]; exact hb) (by omega)
      simp only [Nat.zero_add] at hrun
      have hsw := hs.hs.drew
      have hc := Chg.alloc hsw hid (.cells ([].toArray ++ vs.toArray ++ Builtin.zeroCells z.cells (grownCap w m 0 e - m)) e) 0 0
      have hc2 : Chg w φ Λ s.h id ⟨some (w.heap.size, 0), 0⟩ (w.drew.alloc (.cells ([].toArray ++ vs.toArray ++ Builtin.zeroCells z.cells (grownCap w m 0 e - m)) e)) :=
        ⟨hs.hs, hc.size, hc.os, hc.tape, hc.output, hc.other, hc.loc, hc.ver, hc.sizes⟩
      have hcell : ∀ (j : Nat) c, cs[j]? = some c → ∃ y, ([].toArray ++ vs.toArray ++ Builtin.zeroCells z.cells (grownCap w m 0 e - m))[j]? = some y ∧
          Rep (w.drew.alloc (.cells ([].toArray ++ vs.toArray ++ Builtin.zeroCells z.cells (grownCap w m 0 e - m)) e)) (upd φ id (some ⟨some (w.heap.size, 0), 0⟩)) Λ c y := by
        intro j c hj
        obtain ⟨u, q1, q2⟩ := v4 j c hj
        refine ⟨u, ?_, hc2.rep q2⟩
        have hlt := (List.getElem?_eq_some_iff.1 q1).1
        rw [Array.getElem?_append_left (by simp; omega)]
        simpa using q1
      have hsz : cs.length ≤ ([].toArray ++ vs.toArray ++ Builtin.zeroCells z.cells (grownCap w m 0 e - m)).size := by simp; omega
      refine ⟨_, _, _, ?_, hc2, objRep_row (w0 := w.drew) hsz hcell, .slice (some ⟨w.heap.size, 0, none⟩) m (grownCap w m 0 e), .inl rfl, ?_⟩
      · simp [execOp, ho, resolve, invoke, builtin, hxv, hrun]
      · have hgz := grownCap_ge w m 0 e
        have := Rep.sl (w := w.drew.alloc (.cells ([].toArray ++ vs.toArray ++ Builtin.zeroCells z.cells (grownCap w m 0 e - m)) e)) (φ := upd φ id (some ⟨some (w.heap.size, 0), 0⟩)) (Λ := Λ)
          (id := id) (ver := 0) (off := 0) (len := m) (esz := tj.size) (cap := grownCap w m 0 e) (upd_same _ _ _) rfl rfl (heap_alloc_new w.drew _) ?_ hgz
        · exact this
        · obtain ⟨f', z', g1, g2, g3, g4, g5, g6, g7⟩ := (hte.tells he).info
          rw [f1] at g1
          cases g1
          rw [f4] at g4
          cases g4
          simp only [Array.size_append, List.size_toArray, List.length_nil, size_zeroCells, v1, g5, List.length_map, g6, Nat.zero_add]
          rw [← Nat.add_mul]
          exact Nat.mul_le_mul_right _ (by omega)

theorem ok_append_sl (hte : TEok P te) {t t2 e : TypeId} {x y : Operand} {id ver off len m esz : Nat} {cells cs c' : List AV} {ti tj tk : TI} (ho : o.op = .call { callee := .builtin .append, args := #[x, y], argTypes := #[t, t2] })
    (hx : s.ev x = .sl id ver off len esz) (hob : s.h id = some (.row cells esz ver)) (hlen : off + len * esz = cells.length) (ht : te.get t = some ti) (hk : ti.k = .slice e) (he : te.get e = some tj) (hesz : tj.size = esz)
    (ht2 : te.get t2 = some tk) (hk2 : (match tk.k with | .slice _ | .str => true | _ => false) = true) (hsrc : Src P n s y esz m cs) (h1 : ∀ c ∈ cs, c.one = true) (hc' : cells.drop off ++ cs = c')
    (hb : (len + m) * tj.bytes ≤ 140737488355328) (hm : len + m ≤ 9223372036854775807) (hdd : o.dst = d) (hd : d.all (Nat.blt · n) = true) :
    OpOk P n o s ((s.seth id (some (.row c' esz (ver + 1)))).put d (.sl id (ver + 1) 0 (len + m) esz)) :=
  .chg hdd hd fun Λ w φ a hs => by
    subst hesz
    obtain ⟨hl, vs, v1, v2, v3, v4⟩ := hsrc Λ w φ a hs
    have hone : ∀ u ∈ vs, u.oneCell' = true := by
      intro u hu
      obtain ⟨j, hj, rfl⟩ := List.getElem_of_mem hu
      obtain ⟨z, z1, z2⟩ := v4 j cs[j] (List.getElem?_eq_getElem (by omega))
      rw [List.getElem?_eq_getElem hj] at z1
      cases z1
      exact z2.one (h1 _ (List.getElem_mem _))
    obtain ⟨f, z, f1, f2, f3, f4⟩ := te_elem hte he
    obtain ⟨d2, u1, u2⟩ := te_notInt hte ht2 hk2
    have hu := (hte.tells ht).slice hk
    obtain ⟨l, hloc, hor⟩ := hs.hs.heap id _ hob
    obtain ⟨hver, hor⟩ := hor
    have hr := hs.ev x
    rw [hx] at hr
    generalize hxv : a.eval x = xv at hr
    -- what a new block comes to
    have grown : ∀ (base : Option Addr) (cap : Nat) (olds : List Value), xv = .slice base len cap → olds.length = len * tj.size → cap < len + m →
        (∀ w' : World, w'.heap = w.heap → (Builtin.firstCells f.size len (.slice base len cap)).run P w' = .ok olds.toArray w') →
        (∀ (j : Nat) c, (cells.drop off)[j]? = some c → ∃ u, olds[j]? = some u ∧ Rep w φ Λ c u) →
        ∃ nx w' l', (execOp a.eval o).run P w = .ok nx w' ∧ Chg w φ Λ s.h id l' w' ∧ ObjRep w' (upd φ id (some l')) Λ (.row c' tj.size (ver + 1)) l' ∧
          ∃ y, (nx = .value y ∨ (nx = .skip ∧ y = undef)) ∧ Rep w' (upd φ id (some l')) Λ (.sl id (ver + 1) 0 (len + m) tj.size) y := by
      intro base cap olds hbase hol hcap hold holr
      have hrun := run_append_out (P := P) (w := w) (ty := o.type) hu u1 u2 f1 f4 (base := base) (sLen := len) (sCap := cap) (m := m) (olds := olds) hl (by rw [f2]; exact v3) hold hcap (by rw [f3]; exact hb) hm
      have hc2 : Chg w φ Λ s.h id ⟨some (w.heap.size, 0), ver + 1⟩ (w.drew.alloc (.cells (olds.toArray ++ vs.toArray ++ Builtin.zeroCells z.cells (grownCap w (len + m) cap e - (len + m))) e)) := by
        refine ⟨hs.hs, by simp, rfl, rfl, rfl, fun k hk _ => Below.heap_alloc w.drew _ k hk, fun b' o' hb' => ?_, fun l2 hl2 => ?_, fun l2 hl2 he2 => ?_⟩
        · simp only [Option.some.injEq, Prod.mk.injEq] at hb'
          obtain ⟨rfl, rfl⟩ := hb'
          exact ⟨by simp, .inl (Nat.le_refl _)⟩
        · rw [hloc] at hl2
          cases hl2
          exact .inr (by show l.ver < ver + 1; omega)
        · rw [hloc] at hl2
          cases hl2
          rw [← he2] at hver
          simp at hver
      have hcell : ∀ (j : Nat) c, c'[j]? = some c → ∃ y, (olds.toArray ++ vs.toArray ++ Builtin.zeroCells z.cells (grownCap w (len + m) cap e - (len + m)))[j]? = some y ∧
          Rep (w.drew.alloc (.cells (olds.toArray ++ vs.toArray ++ Builtin.zeroCells z.cells (grownCap w (len + m) cap e - (len + m))) e)) (upd φ id (some ⟨some (w.heap.size, 0), ver + 1⟩)) Λ c y := by
        intro j c hj
        rw [← hc'] at hj
        have hdl : (cells.drop off).length = len * tj.size := by simp; omega
        by_cases hj1 : j < len * tj.size
        · rw [List.getElem?_append_left (by omega)] at hj
          obtain ⟨u, q1, q2⟩ := holr j c hj
          refine ⟨u, ?_, hc2.rep q2⟩
          rw [Array.append_assoc, Array.getElem?_append_left (by simp; omega)]
          simpa using q1
        · rw [List.getElem?_append_right (by omega), hdl] at hj
          obtain ⟨u, q1, q2⟩ := v4 _ c hj
          have hlt := (List.getElem?_eq_some_iff.1 q1).1
          refine ⟨u, ?_, hc2.rep q2⟩
          rw [Array.append_assoc, Array.getElem?_append_right (by simp; omega), Array.getElem?_append_left (by simp; omega)]
          simp only [List.size_toArray, hol, List.getElem?_toArray]
          exact q1
      have hsz : c'.length ≤ (olds.toArray ++ vs.toArray ++ Builtin.zeroCells z.cells (grownCap w (len + m) cap e - (len + m))).size := by
        rw [← hc']
        simp
        omega
      refine ⟨_, _, _, ?_, hc2, objRep_row (w0 := w.drew) hsz hcell, .slice (some ⟨w.heap.size, 0, none⟩) (len + m) (grownCap w (len + m) cap e), .inl rfl, ?_⟩
      · simp [execOp, ho, resolve, invoke, builtin, hxv, hbase, hrun]
      · have hgz := grownCap_ge w (len + m) cap e
        refine Rep.sl (w := w.drew.alloc (.cells (olds.toArray ++ vs.toArray ++ Builtin.zeroCells z.cells (grownCap w (len + m) cap e - (len + m))) e)) (φ := upd φ id (some ⟨some (w.heap.size, 0), ver + 1⟩)) (Λ := Λ)
          (id := id) (ver := ver + 1) (off := 0) (len := len + m) (esz := tj.size) (cap := grownCap w (len + m) cap e) (upd_same _ _ _) rfl rfl (heap_alloc_new w.drew _) ?_ hgz
        obtain ⟨f', z', g1, g2, g3, g4, g5, g6, g7⟩ := (hte.tells he).info
        rw [f1] at g1
        cases g1
        rw [f4] at g4
        cases g4
        simp only [Array.size_append, List.size_toArray, size_zeroCells, v1, hol, g5, List.length_map, g6, Nat.zero_add]
        rw [← Nat.add_mul, ← Nat.add_mul]
        exact Nat.mul_le_mul_right _ (by omega)
    cases hr with
    | slx e1 e2 => rw [hloc] at e1; cases e1; omega
    | @sl0 _ _ _ _ _ ad e1 e2 =>
      have hdrop : cells.drop off = [] := by rw [List.drop_eq_nil_iff]; omega
      by_cases hm0 : m = 0
      · subst hm0
        simp only [Nat.zero_mul] at v1 v2
        have hcs : cs = [] := List.eq_nil_of_length_eq_zero v2
        have hvs : vs = [] := List.eq_nil_of_length_eq_zero v1
        subst hcs
        subst hvs
        have hc0 : c' = [] := by rw [← hc', hdrop]; rfl
        subst hc0
        refine ⟨.value (.slice ad 0 0), w, ⟨none, ver + 1⟩, ?_, ?_, ⟨rfl, .inl ⟨rfl, rfl⟩⟩, .slice ad 0 0, .inl rfl, .sl0 (upd_same _ _ _) rfl⟩
        · cases ad with
          | none =>
            have hrun := run_append_nil0 (P := P) (w := w) (ty := o.type) hu u1 u2 f1 (hl w) (by rw [f2]; exact v3 w rfl)
            simp [execOp, ho, resolve, invoke, builtin, hxv, hrun]
          | some ad =>
            have hrun := run_append_in (P := P) (w := w) (ty := o.type) hu u1 u2 f1 (ad := ad) (sLen := 0) (sCap := 0) (m := 0) (hl w) (by rw [f2]; exact v3 w rfl) (Nat.le_refl _) (w' := w) (by simp [storeCells])
            simp [execOp, ho, resolve, invoke, builtin, hxv, hrun]
        · refine ⟨hs.hs, Nat.le_refl _, rfl, rfl, rfl, fun k _ _ => rfl, (fun b' o' hb' => by cases hb'), fun l2 hl2 => ?_, fun l2 hl2 he2 => ?_⟩
          · rw [hloc] at hl2
            cases hl2
            exact .inr (by show l.ver < ver + 1; omega)
          · rw [hloc] at hl2
            cases hl2
            rw [← he2] at hver
            simp at hver
      · refine grown ad 0 [] rfl (by simp) (by omega) (fun w' _ => ?_) (fun j c hj => by rw [hdrop] at hj; simp at hj)
        cases ad with
        | none => simp [Builtin.firstCells]
        | some ad => simp [Builtin.firstCells, loadCells, loadCellsFrom]
    | @sl _ _ _ _ _ _ b oo cap arr T mk e1 e2 e3 e4 e5 e6 =>
      rw [hloc] at e1
      cases e1
      rcases hor with ⟨g1, g2⟩ | ⟨b2, oo2, arr2, T2, lo, hi, g3, g4, g5, g6, g7⟩
      · rw [e3] at g1; cases g1
      · rw [e3] at g3
        cases g3
        rw [e4] at g4
        cases g4
        have hcapz : len * tj.size ≤ cap * tj.size := Nat.mul_le_mul_right _ e6
        by_cases hroom : len + m ≤ cap
        · have hmz : (len + m) * tj.size ≤ cap * tj.size := Nat.mul_le_mul_right _ hroom
          rw [Nat.add_mul] at hmz
          have hst := run_storeCells_un (P := P) b (oo + off + len * tj.size) T lo hi vs 0 arr w e4 g5 (by omega) hone
          simp only [Nat.add_zero] at hst
          have hrun := run_append_in (P := P) (w := w) (ty := o.type) hu u1 u2 f1 (ad := ⟨b, oo + off, none⟩) (sLen := len) (sCap := cap) (m := m) (hl w) (by rw [f2]; exact v3 w rfl) hroom (by rw [Addr.add_lit, f2]; exact hst)
          have hsz : (arr.toList.take (oo + off + len * tj.size) ++ vs ++ arr.toList.drop (oo + off + len * tj.size + vs.length)).toArray.size = arr.size := by simp; omega
          have hc2 : Chg w φ Λ s.h id ⟨some (b, oo + off), ver + 1⟩ (w.setRow b (arr.toList.take (oo + off + len * tj.size) ++ vs ++ arr.toList.drop (oo + off + len * tj.size + vs.length)).toArray) := by
            have hlt := hs.hs.lt id l b oo hloc e3
            refine ⟨hs.hs, by simp, rfl, rfl, rfl, fun k hk hne => setRow_other w b k _ (hne l b oo hloc e3), fun b' o' hb' => ?_, fun l2 hl2 => ?_, fun l2 hl2 he2 => ?_⟩
            · simp only [Option.some.injEq, Prod.mk.injEq] at hb'
              obtain ⟨rfl, rfl⟩ := hb'
              exact ⟨by simpa using hlt.1, .inr ⟨l, oo, hloc, e3⟩⟩
            · rw [hloc] at hl2
              cases hl2
              exact .inr (by show l.ver < ver + 1; omega)
            · rw [hloc] at hl2
              cases hl2
              rw [← he2] at hver
              simp at hver
          have hdl : (cells.drop off).length = len * tj.size := by simp; omega
          have hheap := setRow_heap w b arr (arr.toList.take (oo + off + len * tj.size) ++ vs ++ arr.toList.drop (oo + off + len * tj.size + vs.length)).toArray T (lo, hi) e4
          refine ⟨.value (.slice (some ⟨b, oo + off, none⟩) (len + m) cap), _, _, ?_, hc2, ⟨rfl, .inr ⟨b, oo + off, _, T, lo, hi, rfl, hheap, by rw [hsz]; exact g5, ?_, fun j c hj => ?_⟩⟩, _, .inl rfl, ?_⟩
          · simp [execOp, ho, resolve, invoke, builtin, hxv, hrun]
          · rw [hsz, ← hc', List.length_append, hdl, v2]
            omega
          · rw [← hc'] at hj
            simp only [List.getElem?_toArray]
            by_cases hj1 : j < len * tj.size
            · rw [List.getElem?_append_left (by omega), List.getElem?_drop] at hj
              obtain ⟨u, q1, q2⟩ := g7 _ c hj
              refine ⟨u, ?_, hc2.rep q2⟩
              rw [List.append_assoc, List.getElem?_append_left (by simp; omega), List.getElem?_take, if_pos (by omega)]
              rw [← Nat.add_assoc] at q1
              simpa using q1
            · rw [List.getElem?_append_right (by omega), hdl] at hj
              obtain ⟨u, q1, q2⟩ := v4 _ c hj
              have hlt := (List.getElem?_eq_some_iff.1 q1).1
              refine ⟨u, ?_, hc2.rep q2⟩
              rw [List.append_assoc, List.getElem?_append_right (by simp; omega), List.getElem?_append_left (by simp; omega)]
              simp only [List.length_take, Array.length_toList]
              rw [Nat.min_eq_left (by omega), show oo + off + j - (oo + off + len * tj.size) = j - len * tj.size by omega]
              exact q1
          · exact Rep.sl (off := 0) (upd_same _ _ _) rfl rfl hheap (by rw [hsz]; omega) hroom
        · refine grown (some ⟨b, oo + off, none⟩) cap ((List.range (len * tj.size)).map fun j => arr.getD (oo + off + j) undef) rfl (by simp) (by omega) (fun w' hw => ?_) (fun j c hj => ?_)
          · simp only [Builtin.firstCells, f2]
            refine run_loadCells w' _ _ _ fun j hj => ?_
            rw [Addr.add_lit]
            have : oo + off + j < arr.size := by omega
            simp [World.cell?, hw, e4, Array.getD, this]
          · have hlt := (List.getElem?_eq_some_iff.1 hj).1
            simp only [List.length_drop] at hlt
            rw [List.getElem?_drop] at hj
            obtain ⟨u, q1, q2⟩ := g7 _ c hj
            rw [← Nat.add_assoc] at q1
            refine ⟨u, ?_, q2⟩
            rw [List.getElem?_map, List.getElem?_range (by omega)]
            simp [Array.getD_eq_getD_getElem?, q1]

end rules
end Go.Proofs.Ytaemmklgofddmaa.Fw
