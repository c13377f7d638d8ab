/- Fw6: strings, frozen slices, places and loads; no condition. -/
import Derived.Test.YtaemmklgofddmaaFwE
set_option linter.unusedVariables false
set_option linter.unusedSimpArgs false
namespace Go.Proofs.Ytaemmklgofddmaa.Fw
open Go.RowKit

section rules
variable {P : Program} {n : Nat} {Q : APost} {s : AS} {te : TE} {o : Oper} {d : Option Tmp}

/-! ### Strings -/
theorem mk_size (l : List UInt8) : (⟨⟨l⟩⟩ : ByteArray).size = l.length := rfl
theorem mk_get (l : List UInt8) (i : Nat) : (⟨⟨l⟩⟩ : ByteArray)[i]? = l[i]? := by
  by_cases h : i < l.length
  · rw [getElem?_pos (⟨⟨l⟩⟩ : ByteArray) i (by rw [mk_size]; exact h), getElem?_pos l i h]
    rfl
  · rw [getElem?_neg (⟨⟨l⟩⟩ : ByteArray) i (by rw [mk_size]; exact h), getElem?_neg l i h]
theorem mk_extract (l : List UInt8) (a b : Nat) : (⟨⟨l⟩⟩ : ByteArray).extract a b = ⟨⟨(l.take b).drop a⟩⟩ := by
  apply ByteArray.ext
  rw [ByteArray.data_extract]
  apply Array.ext'
  simp only [Array.toList_extract, List.extract_eq_take_drop, List.drop_take]

theorem ok_index_str (hte : TEok P te) {t : TypeId} {x y : Operand} {l : List UInt8} {k : IntKind} {i : Int} {c : UInt8} {ti : TI} (ho : o.op = .index t x y) (hx : s.ev x = str l) (hy : s.ev y = .v (.int k i))
    (ht : te.get t = some ti) (hk : ti.k = .str) (h0 : 0 ≤ i) (hc : l[i.toNat]? = some c) (hdd : o.dst = d) (hd : d.all (Nat.blt · n) = true) : OpOk P n o s (s.put d (u8 c.toNat)) :=
  .val hdd hd fun Λ w φ a hs => ⟨.int .u8 c.toNat, by
    have hu := (hte.tells ht).str hk
    simp [execOp, ho, ev_v hs hx, ev_v hs hy, Instr.index, asIntOf, run_underlying hu, h0, mk_get, hc], .v⟩

theorem run_sliceBound {k : IntKind} {i : Int} {y : Nat} {c : BoundsCode} (h0 : 0 ≤ i) (h1 : i ≤ y) (w : World) : (Instr.sliceBound (.int k i) y c).run P w = .ok i.toNat w := by
  simp [Instr.sliceBound, asIntOf, h0, h1]

/-- The bounds of a slice expression: the values of its operands as numbers. -/
def Bnd (s : AS) : Option Operand → Nat → Nat → Prop
  | none, d, r => r = d
  | some x, _, r => ∃ k i, s.ev x = .v (.int k i) ∧ 0 ≤ i ∧ i.toNat = r
theorem bnd_none {s : AS} {r : Nat} : Bnd s none r r := rfl
theorem bnd_some {s : AS} {x : Operand} {k : IntKind} {i : Int} {dflt r : Nat} (h : s.ev x = .v (.int k i)) (h0 : 0 ≤ i) (hr : i.toNat = r) : Bnd s (some x) dflt r := ⟨k, i, h, h0, hr⟩

theorem run_sliceBounds {w : World} {φ : PMap} {Λ : Lent} {a : Act} (hs : Sim n w φ Λ s a) {sl : Bool} {len cap : Nat} {lo hi mx : Option Operand} {l h m : Nat}
    (hm : Bnd s mx cap m) (hh : Bnd s hi len h) (hl : Bnd s lo 0 l) (hmh : mx.isSome = true → hi.isSome = true) (h1 : l ≤ h) (h2 : h ≤ m) (h3 : m ≤ cap) :
    (Instr.sliceBounds sl len cap (lo.map a.eval) (hi.map a.eval) (mx.map a.eval)).run P w = .ok (l, h, m) w := by
  unfold Instr.sliceBounds
  cases mx with
  | none =>
    simp only [Bnd] at hm
    subst hm
    cases hi with
    | none =>
      simp only [Bnd] at hh
      subst hh
      cases lo with
      | none => simp only [Bnd] at hl; subst hl; simp
      | some x =>
        obtain ⟨k, i, e1, e2, e3⟩ := hl
        simp [ev_v hs e1, run_sliceBound e2 (show i ≤ (h : Int) by omega), e3]
    | some y =>
      obtain ⟨k', i', f1, f2, f3⟩ := hh
      cases lo with
      | none => simp only [Bnd] at hl; subst hl; simp [ev_v hs f1, run_sliceBound f2 (show i' ≤ (m : Int) by omega), f3]
      | some x =>
        obtain ⟨k, i, e1, e2, e3⟩ := hl
        subst f3
        simp [ev_v hs f1, run_sliceBound f2 (show i' ≤ (m : Int) by omega), ev_v hs e1, run_sliceBound e2 (show i ≤ (i'.toNat : Int) by omega), e3]
  | some z =>
    obtain ⟨k2, i2, g1, g2, g3⟩ := hm
    cases hi with
    | none => simp at hmh
    | some y =>
      obtain ⟨k', i', f1, f2, f3⟩ := hh
      cases lo with
      | none =>
        simp only [Bnd] at hl
        subst hl
        subst g3
        simp [ev_v hs g1, run_sliceBound g2 (show i2 ≤ (cap : Int) by omega), ev_v hs f1, run_sliceBound f2 (show i' ≤ (i2.toNat : Int) by omega), f3]
      | some x =>
        obtain ⟨k, i, e1, e2, e3⟩ := hl
        subst f3
        subst g3
        simp [ev_v hs g1, run_sliceBound g2 (show i2 ≤ (cap : Int) by omega), ev_v hs f1, run_sliceBound f2 (show i' ≤ (i2.toNat : Int) by omega), ev_v hs e1, run_sliceBound e2 (show i ≤ (i'.toNat : Int) by omega), e3]

theorem ok_slice_str (hte : TEok P te) {t : TypeId} {x : Operand} {lo hi : Option Operand} {l : List UInt8} {p q : Nat} {ti : TI} {r : List UInt8} (ho : o.op = .slice t x lo hi none) (hx : s.ev x = str l)
    (ht : te.get t = some ti) (hk : ti.k = .str) (hh : Bnd s hi l.length q) (hl : Bnd s lo 0 p) (h1 : p ≤ q) (h2 : q ≤ l.length) (hr : (l.take q).drop p = r) (hdd : o.dst = d) (hd : d.all (Nat.blt · n) = true) :
    OpOk P n o s (s.put d (str r)) :=
  .val hdd hd fun Λ w φ a hs => ⟨.string ⟨⟨r⟩⟩, by
    have hu := (hte.tells ht).str hk
    have hb := run_sliceBounds (P := P) hs (sl := false) (len := l.length) (cap := l.length) (mx := none) (m := l.length) rfl hh hl (by simp) h1 h2 (Nat.le_refl _)
    simp only [Option.map_none] at hb
    simp [execOp, ho, ev_v hs hx, Instr.sliceAt, Instr.slice, run_underlying hu, mk_size, hb, mk_extract, hr], .v⟩

theorem ok_len_str (hte : TEok P te) {t u : TypeId} {x : Operand} {l : List UInt8} {ti : TI} (ho : o.op = .call { callee := .builtin .len, args := #[x], argTypes := #[t] }) (hx : s.ev x = str l)
    (ht : te.get t = some ti) (hk : ti.k = .str) (hdd : o.dst = d) (hd : d.all (Nat.blt · n) = true) : OpOk P n o s (s.put d (i64 l.length)) :=
  .val hdd hd fun Λ w φ a hs => ⟨.int .i64 l.length, by
    have hu := (hte.tells ht).str hk
    simp [execOp, ho, resolve, invoke, builtin, ev_v hs hx, Builtin.len_, run_underlying hu, mk_size, goInt], .v⟩

/-! ### Slices -/
def AV.len? : AV → Option Nat
  | .fz _ k _ => some k
  | .sl _ _ _ k _ => some k
  | .v (.slice _ k _) => some k
  | _ => none
theorem rep_len {w : World} {φ : PMap} {Λ : Lent} {x : AV} {v : Value} {m : Nat} (h : Rep w φ Λ x v) (hx : x.len? = some m) : ∃ ad cap, v = .slice ad m cap := by
  cases h with
  | v =>
    cases v <;> simp [AV.len?] at hx
    subst hx
    exact ⟨_, _, rfl⟩
  | fz0 => simp [AV.len?] at hx; subst hx; exact ⟨_, _, rfl⟩
  | fz => simp [AV.len?] at hx; subst hx; exact ⟨_, _, rfl⟩
  | sl => simp [AV.len?] at hx; subst hx; exact ⟨_, _, rfl⟩
  | sl0 => simp [AV.len?] at hx; subst hx; exact ⟨_, _, rfl⟩
  | slx => simp [AV.len?] at hx; subst hx; exact ⟨_, _, rfl⟩
  | _ => simp [AV.len?] at hx

theorem ok_len_sl (hte : TEok P te) {t e : TypeId} {x : Operand} {m : Nat} {y : AV} {ti : TI} (ho : o.op = .call { callee := .builtin .len, args := #[x], argTypes := #[t] }) (hx : s.ev x = y)
    (hm : y.len? = some m) (ht : te.get t = some ti) (hk : ti.k = .slice e) (hdd : o.dst = d) (hd : d.all (Nat.blt · n) = true) : OpOk P n o s (s.put d (i64 m)) :=
  .val hdd hd fun Λ w φ a hs => ⟨.int .i64 m, by
    have hu := (hte.tells ht).slice hk
    have hr := hs.ev x
    rw [hx] at hr
    obtain ⟨ad, cap, hv⟩ := rep_len hr hm
    simp [execOp, ho, resolve, invoke, builtin, hv, Builtin.len_, run_underlying hu, goInt], .v⟩

/-- A part of a frozen row. -/
theorem rep_fz_part {w : World} {φ : PMap} {Λ : Lent} {lv m : Nat} {cells cs : List AV} {v : Value} (h : Rep w φ Λ (.fz lv m cells) v) (i k : Nat) (hcs : (cells.drop i).take k = cs) (h0 : 0 < cs.length) :
    ∃ b o cap, v = .slice (some ⟨b, o, none⟩) m cap ∧ m ≤ cap ∧ ∃ vf : Nat → Value, may φ Λ lv b ∧ (∀ c ∈ cs, c.ok lv = true) ∧ (∀ j, j < cs.length → w.cell? ⟨b, o + i + j, none⟩ = some (vf j)) ∧
      (∀ j c, cs[j]? = some c → Rep w φ Λ c (vf j)) := by
  cases h with
  | fz0 => subst hcs; simp at h0
  | @fz _ _ _ b o cap vf hm hn hok hc hr hp =>
    have hlen : cs.length = min k (cells.length - i) := by rw [← hcs]; simp
    refine ⟨b, o, cap, rfl, hn, fun j => vf (i + j), hm, fun c hc' => ?_, fun j hj => ?_, fun j c hj => ?_⟩
    · rw [← hcs] at hc'
      exact hok c (List.mem_of_mem_drop (List.mem_of_mem_take hc'))
    · rw [Nat.add_assoc]
      exact hc (i + j) (by omega)
    · refine hr (i + j) c ?_
      rw [← hcs] at hj
      rw [List.getElem?_take] at hj
      split at hj
      · rw [List.getElem?_drop] at hj
        exact hj
      · cases hj

theorem ok_indexAddr_fz (hte : TEok P te) {t e : TypeId} {x y : Operand} {lv m : Nat} {cells cs : List AV} {k : IntKind} {i : Int} {ti tj : TI} (ho : o.op = .indexAddr t x y) (hx : s.ev x = .fz lv m cells)
    (hy : s.ev y = .v (.int k i)) (ht : te.get t = some ti) (hk : ti.k = .slice e) (he : te.get e = some tj) (h0 : 0 ≤ i) (h1 : i < m) (hcs : (cells.drop (i.toNat * tj.size)).take tj.size = cs)
    (hl : cs.length = tj.size) (hp : 0 < tj.size) (hdd : o.dst = d) (hd : d.all (Nat.blt · n) = true) : OpOk P n o s (s.put d (.fp lv cs)) :=
  .val hdd hd fun Λ w φ a hs => by
    have hu := (hte.tells ht).slice hk
    have hr := hs.ev x
    rw [hx] at hr
    obtain ⟨b, of, cap, hv, _, vf, r1, r2, r3, r4⟩ := rep_fz_part hr (i.toNat * tj.size) tj.size hcs (by omega)
    refine ⟨.pointer (some ⟨b, of + i.toNat * tj.size, none⟩), ?_, .fp vf r1 r2 r3 r4 (by omega)⟩
    simp [execOp, ho, hv, ev_v hs hy, Instr.indexAt, asIntOf, run_underlying hu, h0, h1, (hte.tells he).run_sizeOf, Addr.add_lit]

theorem ok_slice_fz (hte : TEok P te) {t e : TypeId} {x : Operand} {lo hi mx : Option Operand} {lv m : Nat} {cells cs : List AV} {p q : Nat} {ti tj : TI} (ho : o.op = .slice t x lo hi mx)
    (hx : s.ev x = .fz lv m cells) (ht : te.get t = some ti) (hk : ti.k = .slice e) (he : te.get e = some tj) (hmx : mx = none ∨ mx = hi ∧ mx.isSome = true) (hh : Bnd s hi m q) (hl : Bnd s lo 0 p) (h1 : p ≤ q) (h2 : q ≤ m)
    (hcl : cells.length = m * tj.size) (hcs : (cells.drop (p * tj.size)).take ((q - p) * tj.size) = cs) (hp : 0 < tj.size) (hdd : o.dst = d) (hd : d.all (Nat.blt · n) = true) :
    OpOk P n o s (s.put d (.fz lv (q - p) cs)) :=
  .val hdd hd fun Λ w φ a hs => by
    have hu := (hte.tells ht).slice hk
    have hr := hs.ev x
    rw [hx] at hr
    have hlen : cs.length = (q - p) * tj.size := by
      rw [← hcs, List.length_take, List.length_drop, hcl, ← Nat.sub_mul]
      exact Nat.min_eq_left (Nat.mul_le_mul_right _ (by omega))
    have hb : ∀ cap, m ≤ cap → ∃ mm, q ≤ mm ∧ mm ≤ cap ∧ (Instr.sliceBounds true m cap (lo.map a.eval) (hi.map a.eval) (mx.map a.eval)).run P w = .ok (p, q, mm) w := by
      intro cap hcap
      rcases hmx with rfl | ⟨rfl, hsome⟩
      · exact ⟨cap, by omega, Nat.le_refl _, run_sliceBounds hs rfl hh hl (by simp) h1 (by omega) (Nat.le_refl _)⟩
      · refine ⟨q, Nat.le_refl _, by omega, run_sliceBounds hs ?_ hh hl (fun h => h) h1 (Nat.le_refl _) (by omega)⟩
        cases mx with
        | none => simp at hsome
        | some z => exact hh
    by_cases hz : q - p = 0
    · have hcs0 : cs = [] := List.eq_nil_of_length_eq_zero (by rw [hlen, hz]; simp)
      subst hcs0
      rw [hz]
      obtain ⟨ad, cap, hv⟩ := rep_len (m := m) hr rfl
      have hcap : m ≤ cap := by
        rw [hv] at hr
        cases hr with
        | fz0 => exact Nat.zero_le _
        | fz => assumption
      obtain ⟨mm, g1, g2, g3⟩ := hb cap hcap
      refine ⟨.slice (if mm = p then ad else ad.map (·.add (p * tj.size))) 0 (mm - p), ?_, .fz0⟩
      · simp [execOp, ho, hv, Instr.sliceAt, Instr.slice, run_underlying hu, g3, (hte.tells he).run_sizeOf, hz]
    · obtain ⟨b, of, cap, hv, hcap, vf, r1, r2, r3, r4⟩ := rep_fz_part hr (p * tj.size) ((q - p) * tj.size) hcs (by rw [hlen]; exact Nat.mul_pos (by omega) hp)
      obtain ⟨mm, g1, g2, g3⟩ := hb cap hcap
      have hne : mm ≠ p := by omega
      refine ⟨.slice (some ⟨b, of + p * tj.size, none⟩) (q - p) (mm - p), ?_, .fz vf r1 (by omega) r2 r3 r4 (by rw [hlen]; exact Nat.mul_pos (by omega) hp)⟩
      simp [execOp, ho, hv, Instr.sliceAt, Instr.slice, run_underlying hu, g3, (hte.tells he).run_sizeOf, hne, Addr.add_lit]

/-! ### Places -/
theorem run_fieldPlace {w : World} {f : Field} {tj : TI} (hf : Tells P f.type tj) (hp : 0 < tj.size) (b oo : Nat) : (fieldPlace ⟨b, oo, none⟩ f).run P w = .ok ⟨b, oo + f.offset, none⟩ w := by
  have : tj.size ≠ 0 := by omega
  simp [fieldPlace, hf.run_sizeOf, this, Addr.add_lit]

theorem struct_field {t : TypeId} {ti : TI} {l : List (Nat × TypeId)} (h : Tells P t ti) (hk : ti.k = .struct l) {f off : Nat} {ft : TypeId} (hf : l[f]? = some (off, ft)) :
    ∃ (fs : Array Field) (fd : Field), P.underlying t = some (.struct fs) ∧ fs[f]? = some fd ∧ fd.offset = off ∧ fd.type = ft := by
  obtain ⟨fs, h1, h2⟩ := h.struct hk
  subst h2
  simp only [List.getElem?_map, Array.getElem?_toList, Option.map_eq_some_iff, Prod.mk.injEq] at hf
  obtain ⟨fd, h3, h4, h5⟩ := hf
  exact ⟨fs, fd, h1, h3, h4, h5⟩

theorem ok_fieldAddr_ptr (hte : TEok P te) {t ft : TypeId} {x : Operand} {f off id ver po : Nat} {l : List (Nat × TypeId)} {ti tj : TI} (ho : o.op = .fieldAddr t x f) (hx : s.ev x = .ptr id ver po)
    (ht : te.get t = some ti) (hk : ti.k = .struct l) (hf : l[f]? = some (off, ft)) (hj : te.get ft = some tj) (hp : 0 < tj.size) (hv : ∃ ob, s.h id = some ob ∧ (match ob with | .box _ => ver = 0 | .row _ _ v => v = ver | .map _ => False))
    (hdd : o.dst = d) (hd : d.all (Nat.blt · n) = true) : OpOk P n o s (s.put d (.ptr id ver (po + off))) :=
  .val hdd hd fun Λ w φ a hs => by
    obtain ⟨fs, fd, h1, h2, h3, h4⟩ := struct_field (hte.tells ht) hk hf
    subst h4
    have hr := hs.ev x
    rw [hx] at hr
    obtain ⟨ob, hob, hver⟩ := hv
    obtain ⟨loc, hl, hor⟩ := hs.hs.heap id ob hob
    have hlv : loc.ver = ver := by
      cases ob with
      | box c => obtain ⟨_, _, _, _, h, _⟩ := hor; simp at hver; omega
      | row c e v => simp at hver; obtain ⟨h, _⟩ := hor; omega
      | map _ => simp at hver
    generalize hv : a.eval x = v at hr
    cases hr with
    | ptr g1 g2 g3 =>
      rename_i l' b oo
      refine ⟨.pointer (some ⟨b, oo + (po + off), none⟩), ?_, .ptr g1 g2 g3⟩
      simp [execOp, ho, hv, Instr.fieldAt, run_underlying h1, h2, Instr.sureAddr, run_fieldPlace (hte.tells hj) hp, h3, Nat.add_assoc]
    | ptrx g1 g2 =>
      rw [hl] at g1
      cases g1
      omega

theorem ok_fieldAddr_fp (hte : TEok P te) {t ft : TypeId} {x : Operand} {f off lv : Nat} {cells cs : List AV} {l : List (Nat × TypeId)} {ti tj : TI} (ho : o.op = .fieldAddr t x f) (hx : s.ev x = .fp lv cells)
    (ht : te.get t = some ti) (hk : ti.k = .struct l) (hf : l[f]? = some (off, ft)) (hj : te.get ft = some tj) (hp : 0 < tj.size) (hcs : (cells.drop off).take tj.size = cs) (hl : cs.length = tj.size)
    (hdd : o.dst = d) (hd : d.all (Nat.blt · n) = true) : OpOk P n o s (s.put d (.fp lv cs)) :=
  .val hdd hd fun Λ w φ a hs => by
    obtain ⟨fs, fd, h1, h2, h3, h4⟩ := struct_field (hte.tells ht) hk hf
    subst h4
    have hr := hs.ev x
    rw [hx] at hr
    generalize hv : a.eval x = v at hr
    cases hr with
    | @fp _ _ b oo vf hm hok hc hr hpp =>
      have hlen : cs.length = min tj.size (cells.length - off) := by rw [← hcs]; simp
      refine ⟨.pointer (some ⟨b, oo + off, none⟩), ?_, .fp (fun j => vf (off + j)) hm (fun c hc' => ?_) (fun j hj => ?_) (fun j c hj => ?_) (by omega)⟩
      · simp [execOp, ho, hv, Instr.fieldAt, run_underlying h1, h2, Instr.sureAddr, run_fieldPlace (hte.tells hj) hp, h3]
      · rw [← hcs] at hc'
        exact hok c (List.mem_of_mem_drop (List.mem_of_mem_take hc'))
      · rw [Nat.add_assoc]
        exact hc (off + j) (by omega)
      · refine hr (off + j) c ?_
        rw [← hcs] at hj
        rw [List.getElem?_take] at hj
        split at hj
        · rw [List.getElem?_drop] at hj
          exact hj
        · cases hj

theorem ok_load_fp (hte : TEok P te) {t : TypeId} {x : Operand} {lv : Nat} {cs : List AV} {ti : TI} {y : AV} (ho : o.op = .load t x) (hx : s.ev x = .fp lv cs) (ht : te.get t = some ti) (hl : cs.length = ti.size)
    (hp : 0 < ti.size) (hy : mkAV ti.k.agg cs = y) (hdd : o.dst = d) (hd : d.all (Nat.blt · n) = true) : OpOk P n o s (s.put d y) :=
  .val hdd hd fun Λ w φ a hs => by
    have hr := hs.ev x
    rw [hx] at hr
    generalize hv : a.eval x = v at hr
    cases hr with
    | @fp _ _ b oo vf hm hok hc hr hpp =>
      obtain ⟨z, h1, h2⟩ := run_loadVar (P := P) (hte.tells ht) b oo cs vf hl hp hc hr
      refine ⟨z, ?_, hy ▸ h2⟩
      simp [execOp, ho, hv, Instr.loadAt, Instr.sureAddr, h1]

/-- The cells of an object that a pointer of this version reaches. -/
def AObj.at (ver : Nat) : AObj → Option (List AV)
  | .box cells => bif Nat.beq ver 0 then some cells else none
  | .row cells _ v => bif Nat.beq ver v then some cells else none
  | .map _ => none

theorem HSim.at {w : World} {φ : PMap} {Λ : Lent} {h : Nat → Option AObj} (hs : HSim w φ Λ h) {id ver : Nat} {ob : AObj} {cells : List AV} (ho : h id = some ob) (hc : ob.at ver = some cells) (hp : 0 < cells.length) :
    ∃ l b oo arr T lo hi, φ id = some l ∧ l.ver = ver ∧ l.bo = some (b, oo) ∧ w.heap[b]? = some (.cells arr T (lo, hi)) ∧ (arr.size ≤ lo ∨ hi ≤ lo) ∧ oo + cells.length ≤ arr.size ∧ CellsRep w φ Λ arr oo cells := by
  obtain ⟨l, hl, hor⟩ := hs.heap id ob ho
  cases ob with
  | box c =>
    simp only [AObj.at] at hc
    cases hb : Nat.beq ver 0 with
    | false => rw [hb] at hc; cases hc
    | true =>
      rw [hb] at hc
      simp only [cond_true, Option.some.injEq] at hc
      subst hc
      obtain ⟨b, arr, T, h1, h2, h3, h4, h5⟩ := hor
      exact ⟨l, b, 0, arr, T, 0, 0, hl, by rw [h2, Nat.eq_of_beq_eq_true hb], h1, h3, .inr (Nat.le_refl _), by omega, h5⟩
  | row c e v =>
    simp only [AObj.at] at hc
    cases hb : Nat.beq ver v with
    | false => rw [hb] at hc; cases hc
    | true =>
      rw [hb] at hc
      simp only [cond_true, Option.some.injEq] at hc
      subst hc
      obtain ⟨h1, h2⟩ := hor
      rcases h2 with ⟨_, h2⟩ | ⟨b, oo, arr, T, lo, hi, h2, h3, h4, h5, h6⟩
      · subst h2
        simp at hp
      · exact ⟨l, b, oo, arr, T, lo, hi, hl, by rw [h1, Nat.eq_of_beq_eq_true hb], h2, h3, h4, h5, h6⟩
  | map es => simp [AObj.at] at hc

theorem ok_load_ptr (hte : TEok P te) {t : TypeId} {x : Operand} {id ver po : Nat} {ob : AObj} {cells cs : List AV} {ti : TI} {y : AV} (ho : o.op = .load t x) (hx : s.ev x = .ptr id ver po) (hob : s.h id = some ob)
    (hc : ob.at ver = some cells) (ht : te.get t = some ti) (hcs : (cells.drop po).take ti.size = cs) (hl : cs.length = ti.size) (hp : 0 < ti.size) (hy : mkAV ti.k.agg cs = y)
    (hdd : o.dst = d) (hd : d.all (Nat.blt · n) = true) : OpOk P n o s (s.put d y) :=
  .val hdd hd fun Λ w φ a hs => by
    have hlen : cs.length = min ti.size (cells.length - po) := by rw [← hcs]; simp
    obtain ⟨l, b, oo, arr, T, lo, hi, h1, h2, h3, h4, h5, h6, h7⟩ := hs.hs.at hob hc (by omega)
    have hr := hs.ev x
    rw [hx] at hr
    generalize hv : a.eval x = v at hr
    cases hr with
    | ptrx g1 g2 => rw [h1] at g1; cases g1; omega
    | ptr g1 g2 g3 =>
      rw [h1] at g1
      cases g1
      rw [h3] at g3
      cases g3
      have hcell : ∀ j, j < cs.length → w.cell? ⟨b, oo + po + j, none⟩ = some (arr.getD (oo + po + j) undef) := by
        intro j hj
        have : oo + po + j < arr.size := by omega
        simp [World.cell?, h4, Array.getD, this]
      have hrep : ∀ j c, cs[j]? = some c → Rep w φ Λ c (arr.getD (oo + po + j) undef) := by
        intro j c hj
        rw [← hcs, List.getElem?_take] at hj
        split at hj
        · rw [List.getElem?_drop] at hj
          obtain ⟨z, z1, z2⟩ := h7 (po + j) c hj
          rw [← Nat.add_assoc] at z1
          rw [Array.getD_eq_getD_getElem?, z1]
          exact z2
        · cases hj
      obtain ⟨z, z1, z2⟩ := run_loadVar (P := P) (hte.tells ht) b (oo + po) cs (fun j => arr.getD (oo + po + j) undef) hl hp hcell hrep
      refine ⟨z, ?_, hy ▸ z2⟩
      simp [execOp, ho, hv, Instr.loadAt, Instr.sureAddr, z1]

end rules
end Go.Proofs.Ytaemmklgofddmaa.Fw
