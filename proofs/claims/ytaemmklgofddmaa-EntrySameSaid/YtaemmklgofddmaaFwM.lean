/- Fw13: further operations; no condition. -/
import Derived.Test.YtaemmklgofddmaaFwL
import Derived.Laws.BytesArg
set_option linter.unusedVariables false
set_option linter.unusedSimpArgs false
namespace Go.Proofs.Ytaemmklgofddmaa.Fw
open Go.RowKit

/-- The cells of a list of elements. -/
def cl {α : Type} (f : α → List AV) (l : List α) : List AV := l.flatMap f
theorem cl_nil {α : Type} {f : α → List AV} : cl f [] = [] := rfl
theorem cl_cons {α : Type} {f : α → List AV} {a : α} {l : List α} : cl f (a :: l) = f a ++ cl f l := rfl
theorem cl_append {α : Type} {f : α → List AV} {l m : List α} : cl f (l ++ m) = cl f l ++ cl f m := by simp [cl]
theorem cl_length {α : Type} {f : α → List AV} {e : Nat} (hf : ∀ x, (f x).length = e) : ∀ l : List α, (cl f l).length = l.length * e
  | [] => by simp [cl]
  | a :: l => by
    rw [cl_cons, List.length_append, hf, cl_length hf l, List.length_cons, Nat.add_mul, Nat.one_mul, Nat.add_comm]
theorem cl_drop {α : Type} {f : α → List AV} {e : Nat} (hf : ∀ x, (f x).length = e) : ∀ (l : List α) (k : Nat), (cl f l).drop (k * e) = cl f (l.drop k)
  | [], k => by simp [cl]
  | a :: l, 0 => by simp
  | a :: l, k + 1 => by
    rw [cl_cons, List.drop_append, hf, List.drop_succ_cons, ← cl_drop hf l k, List.drop_of_length_le (by rw [hf, Nat.add_mul]; omega), List.nil_append]
    congr 1
    rw [Nat.add_mul]
    omega
theorem cl_take {α : Type} {f : α → List AV} {e : Nat} (hf : ∀ x, (f x).length = e) : ∀ (l : List α) (k : Nat), (cl f l).take (k * e) = cl f (l.take k)
  | [], k => by simp [cl]
  | a :: l, 0 => by simp [cl]
  | a :: l, k + 1 => by
    rw [cl_cons, List.take_append, hf, List.take_succ_cons, cl_cons, ← cl_take hf l k, List.take_of_length_le (by rw [hf, Nat.add_mul]; omega)]
    congr 2
    rw [Nat.add_mul]
    omega
theorem cl_mem {α : Type} {f : α → List AV} {l : List α} {p : AV → Prop} (h : ∀ x ∈ l, ∀ c ∈ f x, p c) : ∀ c ∈ cl f l, p c := by
  intro c hc
  obtain ⟨x, hx, hc⟩ := List.mem_flatMap.1 hc
  exact h x hx c hc
/-- The cell of a byte. -/
def bc (b : UInt8) : List AV := [u8 b.toNat]
theorem bs_map (l : List UInt8) : cl bc l = l.map fun b => u8 b.toNat := by
  induction l with
  | nil => rfl
  | cons a l ih => rw [cl_cons, ih]; rfl
theorem bs_length (l : List UInt8) : (cl bc l).length = l.length := by simp [bs_map]
theorem bs_ok (l : List UInt8) : ∀ c ∈ cl bc l, c.ok 0 = true := by
  intro c hc
  rw [bs_map] at hc
  obtain ⟨b, _, rfl⟩ := List.mem_map.1 hc
  rfl
theorem bs_okl (lv : Nat) (l : List UInt8) : ∀ c ∈ cl bc l, c.ok lv = true := fun c hc => AV.ok_mono (Nat.zero_le _) (bs_ok l c hc)
theorem bs_one (l : List UInt8) : ∀ c ∈ cl bc l, c.one = true := by
  intro c hc
  rw [bs_map] at hc
  obtain ⟨b, _, rfl⟩ := List.mem_map.1 hc
  rfl
theorem bs_append (l m : List UInt8) : cl bc (l ++ m) = cl bc l ++ cl bc m := cl_append
theorem bs_drop (l : List UInt8) (k : Nat) : (cl bc l).drop k = cl bc (l.drop k) := by simp [bs_map]
theorem bs_take (l : List UInt8) (k : Nat) : (cl bc l).take k = cl bc (l.take k) := by simp [bs_map]
theorem bs_nil : cl bc ([] : List UInt8) = [] := rfl
theorem bs_cons (a : UInt8) (l : List UInt8) : cl bc (a :: l) = u8 a.toNat :: cl bc l := rfl

section rules
variable {P : Program} {n : Nat} {Q : APost} {s : AS} {te : TE} {o : Oper} {d : Option Tmp}

/-! ### Scopes -/
def AExit.noGoto (Q : APost) : APost
  | .goto _, _ => False
  | e, s => Q e s
theorem AWp.scope {c : Code} (h : AWp P n c (AExit.noGoto Q) s) : AWp P n (.scope c) Q s := by
  intro Λ w φ a hs QQ hQ
  refine wp_scope_straight (h Λ w φ a hs _ ?_)
  intro ae s' w' φ' a' q hs' g
  cases ae with
  | goto l => exact q.elim
  | normal => exact hQ .normal s' w' φ' a' q hs' g
  | exit id => exact hQ (.exit id) s' w' φ' a' q hs' g
  | ret => exact hQ .ret s' w' φ' a' q hs' g
  | panic x => exact hQ (.panic x) s' w' φ' a' q hs' g

/-! ### Places -/
theorem HSim.ver {w : World} {φ : PMap} {Λ : Lent} {h : Heap} (hs : HSim w φ Λ h) {id ver : Nat} {ob : AObj} {cells : List AV} (ho : h id = some ob) (hc : ob.at ver = some cells) :
    ∃ l, φ id = some l ∧ l.ver = ver := by
  obtain ⟨l, hl, hor⟩ := hs.heap id ob ho
  cases ob with
  | box c =>
    simp only [AObj.at] at hc
    cases hb : Nat.beq ver 0 with
    | false => rw [hb] at hc; cases hc
    | true =>
      obtain ⟨b, arr, T, h1, h2, h3, h4, h5⟩ := hor
      exact ⟨l, hl, by rw [h2, Nat.eq_of_beq_eq_true hb]⟩
  | row c e v =>
    simp only [AObj.at] at hc
    cases hb : Nat.beq ver v with
    | false => rw [hb] at hc; cases hc
    | true =>
      obtain ⟨h1, h2⟩ := hor
      exact ⟨l, hl, by rw [h1, Nat.eq_of_beq_eq_true hb]⟩
  | map es => simp [AObj.at] at hc

theorem ok_indexAddr_ptr (hte : TEok P te) {t e : TypeId} {x y : Operand} {id ver po len : Nat} {k : IntKind} {i : Int} {ob : AObj} {cells : List AV} {ti tj : TI} (ho : o.op = .indexAddr t x y)
    (hx : s.ev x = .ptr id ver po) (hy : s.ev y = .v (.int k i)) (ht : te.get t = some ti) (hk : ti.k = .arr len e) (he : te.get e = some tj) (h0 : 0 ≤ i) (h1 : i < len) (hob : s.h id = some ob) (hc : ob.at ver = some cells)
    (hdd : o.dst = d) (hd : d.all (Nat.blt · n) = true) : OpOk P n o s (s.put d (.ptr id ver (po + i.toNat * tj.size))) :=
  .val hdd hd fun Λ w φ a hs => by
    have hu := (hte.tells ht).arr hk
    obtain ⟨l, hl, hv⟩ := hs.hs.ver hob hc
    have hr := hs.ev x
    rw [hx] at hr
    generalize hxv : a.eval x = xv at hr
    cases hr with
    | ptrx g1 g2 => rw [hl] at g1; cases g1; omega
    | ptr g1 g2 g3 =>
      rename_i l' b oo
      refine ⟨.pointer (some ⟨b, oo + (po + i.toNat * tj.size), none⟩), ?_, .ptr g1 g2 g3⟩
      simp [execOp, ho, hxv, ev_v hs hy, Instr.indexAt, asIntOf, run_underlying hu, Instr.sureAddr, h0, h1, (hte.tells he).run_sizeOf, Addr.add_lit, Nat.add_assoc]

theorem ok_indexAddr_sl (hte : TEok P te) {t e : TypeId} {x y : Operand} {id ver off len esz : Nat} {k : IntKind} {i : Int} {ob : AObj} {cells : List AV} {ti tj : TI} (ho : o.op = .indexAddr t x y)
    (hx : s.ev x = .sl id ver off len esz) (hy : s.ev y = .v (.int k i)) (ht : te.get t = some ti) (hk : ti.k = .slice e) (he : te.get e = some tj) (h0 : 0 ≤ i) (h1 : i < len) (hob : s.h id = some ob) (hc : ob.at ver = some cells)
    (hdd : o.dst = d) (hd : d.all (Nat.blt · n) = true) : OpOk P n o s (s.put d (.ptr id ver (off + i.toNat * tj.size))) :=
  .val hdd hd fun Λ w φ a hs => by
    have hu := (hte.tells ht).slice hk
    obtain ⟨l, hl, hv⟩ := hs.hs.ver hob hc
    have hr := hs.ev x
    rw [hx] at hr
    generalize hxv : a.eval x = xv at hr
    cases hr with
    | slx g1 g2 g3 => rw [hl] at g1; cases g1; omega
    | sl0 g1 g2 => omega
    | sl g1 g2 g3 g4 g5 g6 =>
      rename_i l' b oo cap arr T m
      refine ⟨.pointer (some ⟨b, oo + (off + i.toNat * tj.size), none⟩), ?_, .ptr g1 g2 g3⟩
      simp [execOp, ho, hxv, ev_v hs hy, Instr.indexAt, asIntOf, run_underlying hu, h0, h1, (hte.tells he).run_sizeOf, Addr.add_lit, Nat.add_assoc]

theorem ok_slice_sl (hte : TEok P te) {t e : TypeId} {x : Operand} {lo hi : Option Operand} {id ver off len esz : Nat} {p q : Nat} {ob : AObj} {cells : List AV} {ti tj : TI} (ho : o.op = .slice t x lo hi none)
    (hx : s.ev x = .sl id ver off len esz) (ht : te.get t = some ti) (hk : ti.k = .slice e) (he : te.get e = some tj) (hes : tj.size = esz) (hh : Bnd s hi len q) (hl : Bnd s lo 0 p) (h1 : p ≤ q) (h2 : q ≤ len)
    (hob : s.h id = some ob) (hc : ob.at ver = some cells) (hdd : o.dst = d) (hd : d.all (Nat.blt · n) = true) : OpOk P n o s (s.put d (.sl id ver (off + p * esz) (q - p) esz)) :=
  .val hdd hd fun Λ w φ a hs => by
    subst hes
    have hu := (hte.tells ht).slice hk
    obtain ⟨l, hloc, hv⟩ := hs.hs.ver hob hc
    have hr := hs.ev x
    rw [hx] at hr
    generalize hxv : a.eval x = xv at hr
    have hb : ∀ cap, len ≤ cap → (Instr.sliceBounds true len cap (lo.map a.eval) (hi.map a.eval) none).run P w = .ok (p, q, cap) w := fun cap hcap => by
      have := run_sliceBounds (P := P) hs (sl := true) (len := len) (cap := cap) (mx := none) (m := cap) rfl hh hl (by simp) h1 (by omega) (Nat.le_refl _)
      simpa using this
    cases hr with
    | slx g1 g2 g3 => rw [hloc] at g1; cases g1; omega
    | @sl0 _ _ _ _ _ ad g1 g2 =>
      have hq : q = 0 := by omega
      have hp : p = 0 := by omega
      subst hq
      subst hp
      refine ⟨.slice ad 0 0, ?_, .sl0 g1 g2⟩
      have := hb 0 (Nat.le_refl _)
      simp [execOp, ho, hxv, Instr.sliceAt, Instr.slice, run_underlying hu, this, (hte.tells he).run_sizeOf]
    | @sl _ _ _ _ _ _ b oo cap arr T m g1 g2 g3 g4 g5 g6 =>
      have := hb cap g6
      by_cases hcp : cap = p
      · have hq : q = p := by omega
        subst hcp
        subst hq
        refine ⟨.slice (some ⟨b, oo + off, none⟩) 0 0, ?_, ?_⟩
        · simp [execOp, ho, hxv, Instr.sliceAt, Instr.slice, run_underlying hu, this, (hte.tells he).run_sizeOf]
        · rw [Nat.sub_self]
          exact .sl0 g1 g2
      · refine ⟨.slice (some ⟨b, oo + (off + p * tj.size), none⟩) (q - p) (cap - p), ?_, .sl g1 g2 g3 g4 ?_ (by omega)⟩
        · simp [execOp, ho, hxv, Instr.sliceAt, Instr.slice, run_underlying hu, this, (hte.tells he).run_sizeOf, hcp, Addr.add_lit, Nat.add_assoc]
        · have : p * tj.size + (cap - p) * tj.size = cap * tj.size := by rw [← Nat.add_mul]; congr 1; omega
          omega

theorem ok_slice_arr (hte : TEok P te) {t e : TypeId} {x : Operand} {lo hi : Option Operand} {id ver po len p q : Nat} {ob : AObj} {cells : List AV} {ti tj : TI} (ho : o.op = .slice t x lo hi none)
    (hx : s.ev x = .ptr id ver po) (ht : te.get t = some ti) (hk : ti.k = .arr len e) (he : te.get e = some tj) (hh : Bnd s hi len q) (hl : Bnd s lo 0 p) (h1 : p ≤ q) (h2 : q ≤ len) (h3 : p < len)
    (hob : s.h id = some ob) (hc : ob.at ver = some cells) (hsz : po + len * tj.size ≤ cells.length) (hp : 0 < cells.length) (hdd : o.dst = d) (hd : d.all (Nat.blt · n) = true) :
    OpOk P n o s (s.put d (.sl id ver (po + p * tj.size) (q - p) tj.size)) :=
  .val hdd hd fun Λ w φ a hs => by
    have hu := (hte.tells ht).arr hk
    have hr := hs.ev x
    rw [hx] at hr
    generalize hxv : a.eval x = xv at hr
    have hb := run_sliceBounds (P := P) hs (sl := false) (len := len) (cap := len) (mx := none) (m := len) rfl hh hl (by simp) h1 h2 (Nat.le_refl _)
    simp only [Option.map_none] at hb
    obtain ⟨l, hloc, hv⟩ := hs.hs.ver hob hc
    obtain ⟨l0, b0, oo0, arr, T, lo', hi', g1, g2, g3, g4, g5, g6, g7⟩ := hs.hs.at hob hc hp
    cases hr with
    | ptrx e1 e2 => rw [hloc] at e1; cases e1; omega
    | ptr e1 e2 e3 =>
      rw [g1] at e1
      cases e1
      rw [g3] at e3
      cases e3
      have hne : ¬ (len = p) := by omega
      refine ⟨.slice (some ⟨b0, oo0 + (po + p * tj.size), none⟩) (q - p) (len - p), ?_, .sl g1 g2 g3 g4 ?_ (by omega)⟩
      · simp [execOp, ho, hxv, Instr.sliceAt, run_underlying hu, Instr.sureAddr, hb, (hte.tells he).run_sizeOf, hne, Addr.add_lit, Nat.add_assoc]
      · have : p * tj.size + (len - p) * tj.size = len * tj.size := by rw [← Nat.add_mul]; congr 1; omega
        omega

theorem ok_arrPtr (hte : TEok P te) {t e : TypeId} {x : Operand} {id ver off len esz m : Nat} {ob : AObj} {cells : List AV} {ti : TI} (ho : o.op = .sliceToArrayPointer t x) (hx : s.ev x = .sl id ver off len esz)
    (ht : te.get t = some ti) (hk : ti.k = .arr m e) (hm : m ≤ len) (hm0 : 0 < m) (hob : s.h id = some ob) (hc : ob.at ver = some cells) (hdd : o.dst = d) (hd : d.all (Nat.blt · n) = true) : OpOk P n o s (s.put d (.ptr id ver off)) :=
  .val hdd hd fun Λ w φ a hs => by
    have hu := (hte.tells ht).arr hk
    obtain ⟨l, hloc, hv⟩ := hs.hs.ver hob hc
    have hr := hs.ev x
    rw [hx] at hr
    generalize hxv : a.eval x = xv at hr
    cases hr with
    | slx g1 g2 g3 => rw [hloc] at g1; cases g1; omega
    | sl0 g1 g2 => omega
    | @sl _ _ _ _ _ _ b oo cap arr T mm g1 g2 g3 g4 g5 g6 =>
      refine ⟨.pointer (some ⟨b, oo + off, none⟩), ?_, .ptr g1 g2 g3⟩
      have : ¬ (len < m) := by omega
      simp [execOp, ho, hxv, Instr.arrayAt, run_underlying hu, this]

/-! ### Strings and bytes -/
theorem strOfNums_bs (l : List UInt8) : strOfNums (l.map fun b => (b.toNat : Int)) = ⟨⟨l⟩⟩ := by
  unfold strOfNums
  congr 1
  apply Array.ext'
  simp only [List.map_map]
  have : (fun n : Int => UInt8.ofNat n.toNat) ∘ (fun b : UInt8 => (b.toNat : Int)) = id := by
    funext b
    simp
  rw [this]
  simp

theorem ok_conv_bytes (hte : TEok P te) {t u e : TypeId} {x : Operand} {y : AV} {l : List UInt8} {ti tj tk : TI} (ho : o.op = .convert t u x) (hx : s.ev x = y)
    (hy : (y = .v (.slice none 0 0) ∧ l = []) ∨ (∃ lv, y = .fz lv l.length (cl bc l)) ∨ (∃ id ver off ob cells, y = .sl id ver off l.length 1 ∧ s.h id = some ob ∧ ob.at ver = some cells ∧ (cells.drop off).take l.length = cl bc l))
    (ht : te.get t = some ti) (hk : ti.k = .slice e) (he : te.get e = some tj) (hk2 : tj.k = .int .u8) (hu : te.get u = some tk) (hk3 : tk.k = .str) (hdd : o.dst = d) (hd : d.all (Nat.blt · n) = true) :
    OpOk P n o s (s.put d (str l)) :=
  .val hdd hd fun Λ w φ a hs => by
    have h1 := (hte.tells ht).slice hk
    have h2 := (hte.tells he).int hk2
    have h3 := (hte.tells hu).str hk3
    have hr := hs.ev x
    rw [hx] at hr
    refine ⟨.string ⟨⟨l⟩⟩, ?_, .v⟩
    suffices h : (convert t u (a.eval x)).run P w = .ok (.string ⟨⟨l⟩⟩) w by simp [execOp, ho, h]
    have hz : ∀ ad cap, l = [] → (convert t u (.slice ad 0 cap)).run P w = .ok (.string ⟨⟨l⟩⟩) w := by
      intro ad cap hl
      subst hl
      cases ad with
      | none => exact run_convert_bytes_nil w t e h1 h2 0 cap u h3
      | some ad => rw [run_convert_bytes_string w t u e _ 0 cap h1 h2 h3]; simp [Conv.bytesToString, loadCells, loadCellsFrom]; rfl
    generalize hxv : a.eval x = xv at hr
    rcases hy with ⟨rfl, hl⟩ | ⟨lv, rfl⟩ | ⟨id, ver, off, ob, cells, rfl, hob, hat, hcs⟩
    · cases hr
      exact hz _ _ hl
    · generalize hm : l.length = m at hr
      generalize hbl : cl bc l = bcl at hr
      cases hr with
      | fz0 => exact hz _ _ (List.eq_nil_of_length_eq_zero hm)
      | @fz _ _ _ b oo cap vf hm' hn hok hc hr hp =>
        subst hm
        subst hbl
        have := run_convert_bytes_arg (P := P) w t e h1 h2 b oo l.length cap (l.map fun b => (b.toNat : Int)) (by simp) (fun i hi => by
          rw [hc i (by rw [bs_length]; simpa using hi)]
          have := hr i (u8 l[i].toNat) (by simp [bs_map, hi])
          generalize vf i = q at this
          cases this
          simp [hi]) u h3
        rw [strOfNums_bs] at this
        exact this
    · generalize hm : l.length = m at hr
      cases hr with
      | sl0 => exact hz _ _ (List.eq_nil_of_length_eq_zero hm)
      | slx g1 g2 g3 =>
        obtain ⟨l0, q1, q2⟩ := hs.hs.ver hob hat
        rw [q1] at g1
        cases g1
        omega
      | @sl _ _ _ _ _ _ b oo cap arr T mm g1 g2 g3 g4 g5 g6 =>
        subst hm
        by_cases hl0 : l = []
        · subst hl0
          exact hz _ _ rfl
        · have hlp : 0 < l.length := List.length_pos_iff.2 hl0
          have hclen : ((cells.drop off).take l.length).length = l.length := by rw [hcs, bs_length]
          simp only [List.length_take, List.length_drop] at hclen
          obtain ⟨l0, b0, oo0, arr0, T0, lo, hi, k1, k2, k3, k4, k5, k6, k7⟩ := hs.hs.at hob hat (by omega)
          rw [k1] at g1
          cases g1
          rw [k3] at g3
          cases g3
          rw [k4] at g4
          cases g4
          have := run_convert_bytes_arg (P := P) w t e h1 h2 b (oo + off) l.length cap (l.map fun b => (b.toNat : Int)) (by simp) (fun i hi => by
            have hci : ((cells.drop off).take l.length)[i]? = some (u8 l[i].toNat) := by rw [hcs]; simp [bs_map, hi]
            rw [List.getElem?_take, if_pos hi, List.getElem?_drop] at hci
            obtain ⟨z, z1, z2⟩ := k7 _ _ hci
            cases z2
            rw [← Nat.add_assoc] at z1
            simp [World.cell?, k4, z1, hi]) u h3
          rw [strOfNums_bs] at this
          exact this

end rules
end Go.Proofs.Ytaemmklgofddmaa.Fw
