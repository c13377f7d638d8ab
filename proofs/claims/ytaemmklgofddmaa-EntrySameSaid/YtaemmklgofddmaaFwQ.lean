/- Fw17: rules for scripts that a program prints; no condition. -/
import Derived.Test.YtaemmklgofddmaaFwN
set_option linter.unusedVariables false
set_option linter.unusedSimpArgs false
namespace Go.Proofs.Ytaemmklgofddmaa.Fw
open Go.RowKit

section
variable {P : Program} {n : Nat} {Q : APost} {s : AS} {ops : Array Oper} {te : TE} {o : Oper} {d : Option Tmp}

/-- An operation that tells whether p holds: two ways. -/
theorem AOps.dec {i : Nat} {rest : List Nat} {p : Prop} {hp : Decidable p} {d : Option Tmp} (ho : ops[i]? = some o) (hg : o.guard = none) (h : OpOk P n o s (s.put d (tf (decide p))))
    (ht : p → AOps P n ops Q rest (s.put d (tf true))) (hf : ¬ p → AOps P n ops Q rest (s.put d (tf false))) : AOps P n ops Q (i :: rest) s := by
  by_cases hx : p
  · rw [decide_eq_true hx] at h
    exact AOps.cons ho hg h (ht hx)
  · rw [decide_eq_false hx] at h
    exact AOps.cons ho hg h (hf hx)
theorem AOps.gdec {i : Nat} {rest : List Nat} {p : Prop} {hp : Decidable p} {d : Option Tmp} {j : Nat} {want : Bool} {oj : Oper} {dj : Nat} (ho : ops[i]? = some o) (hg : o.guard = some (j, want)) (hj : ops[j]? = some oj)
    (hd : oj.dst = some dj) (hb : s.t dj = tf want) (h : OpOk P n o s (s.put d (tf (decide p))))
    (ht : p → AOps P n ops Q rest (s.put d (tf true))) (hf : ¬ p → AOps P n ops Q rest (s.put d (tf false))) : AOps P n ops Q (i :: rest) s := by
  by_cases hx : p
  · rw [decide_eq_true hx] at h
    exact AOps.gcons ho hg hj hd hb h (ht hx)
  · rw [decide_eq_false hx] at h
    exact AOps.gcons ho hg hj hd hb h (hf hx)
/-- An operation that comes to a bool: two ways. -/
theorem AOps.bool {i : Nat} {rest : List Nat} {b : Bool} {d : Option Tmp} (ho : ops[i]? = some o) (hg : o.guard = none) (h : OpOk P n o s (s.put d (tf b)))
    (ht : b = true → AOps P n ops Q rest (s.put d (tf true))) (hf : b = false → AOps P n ops Q rest (s.put d (tf false))) : AOps P n ops Q (i :: rest) s := by
  cases b with
  | true => exact AOps.cons ho hg h (ht rfl)
  | false => exact AOps.cons ho hg h (hf rfl)
theorem AOps.gbool {i : Nat} {rest : List Nat} {b : Bool} {d : Option Tmp} {j : Nat} {want : Bool} {oj : Oper} {dj : Nat} (ho : ops[i]? = some o) (hg : o.guard = some (j, want)) (hj : ops[j]? = some oj)
    (hd : oj.dst = some dj) (hb : s.t dj = tf want) (h : OpOk P n o s (s.put d (tf b)))
    (ht : b = true → AOps P n ops Q rest (s.put d (tf true))) (hf : b = false → AOps P n ops Q rest (s.put d (tf false))) : AOps P n ops Q (i :: rest) s := by
  cases b with
  | true => exact AOps.gcons ho hg hj hd hb h (ht rfl)
  | false => exact AOps.gcons ho hg hj hd hb h (hf rfl)

theorem AWp.cond_t {c : Operand} {x y : Code} (hc : s.ev c = tf true) (h : AWp P n x Q s) : AWp P n (.cond c x y) Q s := AWp.cond hc (fun _ => h) (fun e => by cases e)
theorem AWp.cond_f {c : Operand} {x y : Code} (hc : s.ev c = tf false) (h : AWp P n y Q s) : AWp P n (.cond c x y) Q s := AWp.cond hc (fun e => by cases e) (fun _ => h)
theorem AWp.cond_b {c : Operand} {x y : Code} {b : Bool} (hc : s.ev c = tf b) (ht : b = true → AWp P n x Q s) (hf : b = false → AWp P n y Q s) : AWp P n (.cond c x y) Q s := AWp.cond hc ht hf

/-! ### Numbers -/
theorem wrap64 {a : Int} (h1 : -9223372036854775808 ≤ a) (h2 : a ≤ 9223372036854775807) : IntKind.i64.wrap a = a := by
  have e1 : IntKind.i64.bits = 64 := rfl
  have e2 : IntKind.i64.min = -9223372036854775808 := by decide
  unfold IntKind.wrap
  first
    | (simp only [e1, e2]; omega)
    | (simp [IntKind.signed, IntKind.bits] ; omega)
def byte (a : Int) : UInt8 := UInt8.ofNat (a % 256).toNat
theorem byte_toNat (a : Int) : ((byte a).toNat : Int) = a % 256 := by
  unfold byte
  have : (a % 256).toNat < 256 := by omega
  simp [UInt8.toNat_ofNat_of_lt' this]
  omega
theorem wrap_u8 (a : Int) : IntKind.u8.wrap a = ((byte a).toNat : Int) := by
  rw [byte_toNat]
  unfold IntKind.wrap
  first
    | rfl
    | (simp [IntKind.signed, IntKind.bits])
theorem byte_mod (a : Int) : byte (a % 256) = byte a := by
  unfold byte
  rw [Int.emod_emod_of_dvd a (Int.dvd_refl 256)]
theorem byte_of_toNat (b : UInt8) : byte (b.toNat : Int) = b := by
  apply UInt8.toNat_inj.1
  have := byte_toNat (b.toNat : Int)
  have h := b.toNat_lt
  omega

section bin
variable {t : TypeId} {x y : Operand} {k : IntKind} {a b : Int}
theorem bi_add (h1 : -9223372036854775808 ≤ a + b) (h2 : a + b ≤ 9223372036854775807) : BinRes P .add t x y (.int .i64 a) (.int .i64 b) (.int .i64 (a + b)) := by
  have := br_add (P := P) (t := t) (x := x) (y := y) (k := .i64) (a := a) (b := b)
  rwa [wrap64 h1 h2] at this
theorem bi_sub (h1 : -9223372036854775808 ≤ a - b) (h2 : a - b ≤ 9223372036854775807) : BinRes P .sub t x y (.int .i64 a) (.int .i64 b) (.int .i64 (a - b)) := by
  have := br_sub (P := P) (t := t) (x := x) (y := y) (k := .i64) (a := a) (b := b)
  rwa [wrap64 h1 h2] at this
theorem bi_mul (h1 : -9223372036854775808 ≤ a * b) (h2 : a * b ≤ 9223372036854775807) : BinRes P .mul t x y (.int .i64 a) (.int .i64 b) (.int .i64 (a * b)) := by
  have := br_mul (P := P) (t := t) (x := x) (y := y) (k := .i64) (a := a) (b := b)
  rwa [wrap64 h1 h2] at this
/-- A quotient of numbers that are not negative. -/
theorem bi_quo (h : 0 < b) (h0 : 0 ≤ a) (h1 : a ≤ 9223372036854775807) : BinRes P .quo t x y (.int .i64 a) (.int .i64 b) (.int .i64 (a / b)) := by
  have := br_quo (P := P) (t := t) (x := x) (y := y) (k := .i64) (a := a) (b := b) (by omega)
  rw [Int.tdiv_eq_ediv_of_nonneg h0] at this
  have h2 : a / b ≤ a := Int.ediv_le_self b h0
  have h3 : 0 ≤ a / b := Int.ediv_nonneg h0 (by omega)
  rwa [wrap64 (by omega) (by omega)] at this
theorem bi_rem (h : 0 < b) (h0 : 0 ≤ a) : BinRes P .rem t x y (.int k a) (.int k b) (.int k (a % b)) := by
  have := br_rem (P := P) (t := t) (x := x) (y := y) (k := k) (a := a) (b := b) (by omega)
  rwa [Int.tmod_eq_emod_of_nonneg h0] at this
theorem bi_shr {k' : IntKind} {m : Nat} (hm : b = (m : Int)) (h : m ≤ k.bits) : BinRes P .shr t x y (.int k a) (.int k' b) (.int k (a / 2 ^ m)) := by
  subst hm
  have := br_shr (P := P) (t := t) (x := x) (y := y) (k := k) (k' := k') (a := a) (b := m) (by omega)
  simp only [Int.toNat_natCast, Nat.min_eq_left h] at this
  have e : a.fdiv (2 ^ m) = a / 2 ^ m := Int.fdiv_eq_ediv_of_nonneg a (by exact Int.le_of_lt (Int.pow_pos (by omega)))
  rwa [e] at this
theorem bi_shl {k' : IntKind} {m : Nat} (hm : b = (m : Int)) (h : m ≤ 64) (h1 : -9223372036854775808 ≤ a * 2 ^ m) (h2 : a * 2 ^ m ≤ 9223372036854775807) : BinRes P .shl t x y (.int .i64 a) (.int k' b) (.int .i64 (a * 2 ^ m)) := by
  subst hm
  have := br_shl (P := P) (t := t) (x := x) (y := y) (k := .i64) (k' := k') (a := a) (b := m) (by omega)
  simp only [Int.toNat_natCast, Nat.min_eq_left (show m ≤ IntKind.i64.bits from h)] at this
  rwa [wrap64 h1 h2] at this
theorem bd_eql : BinRes P .eql t x y (.int k a) (.int k b) (.bool (decide (a = b))) := br_eql
theorem bd_neq : BinRes P .neq t x y (.int k a) (.int k b) (.bool (decide (¬ a = b))) := by
  have := br_neq (P := P) (t := t) (x := x) (y := y) (k := k) (a := a) (b := b)
  have e : (a != b) = decide (¬ a = b) := by by_cases h : a = b <;> simp [h]
  rwa [e] at this
variable {l m : List UInt8}
theorem bd_seql : BinRes P .eql t x y (.string ⟨⟨l⟩⟩) (.string ⟨⟨m⟩⟩) (.bool (decide (l = m))) := by
  have := br_seql (P := P) (t := t) (x := x) (y := y) (l := l) (m := m)
  have e : (l == m) = decide (l = m) := by by_cases h : l = m <;> simp [h]
  rwa [e] at this
theorem bd_sneq : BinRes P .neq t x y (.string ⟨⟨l⟩⟩) (.string ⟨⟨m⟩⟩) (.bool (decide (¬ l = m))) := by
  have := br_sneq (P := P) (t := t) (x := x) (y := y) (l := l) (m := m)
  have e : (!(l == m)) = decide (¬ l = m) := by by_cases h : l = m <;> simp [h]
  rwa [e] at this
end bin

theorem ok_conv_u8 (hte : TEok P te) {src dst : TypeId} {x : Operand} {k : IntKind} {a : Int} {i j : TI} (ho : o.op = .convert src dst x) (hx : s.ev x = .v (.int k a))
    (hi : te.get src = some i) (hj : te.get dst = some j) (hk : j.k = .int .u8) (hdd : o.dst = d) (hd : d.all (Nat.blt · n) = true) : OpOk P n o s (s.put d (u8 (byte a).toNat)) := by
  have := ok_conv_int (P := P) (n := n) (s := s) hte ho hx hi hj hk hdd hd
  rwa [wrap_u8] at this
theorem ok_conv_i64 (hte : TEok P te) {src dst : TypeId} {x : Operand} {k : IntKind} {a : Int} {i j : TI} (ho : o.op = .convert src dst x) (hx : s.ev x = .v (.int k a))
    (hi : te.get src = some i) (hj : te.get dst = some j) (hk : j.k = .int .i64) (h1 : -9223372036854775808 ≤ a) (h2 : a ≤ 9223372036854775807) (hdd : o.dst = d) (hd : d.all (Nat.blt · n) = true) : OpOk P n o s (s.put d (i64 a)) := by
  have := ok_conv_int (P := P) (n := n) (s := s) hte ho hx hi hj hk hdd hd
  rwa [wrap64 h1 h2] at this

/-! ### Slices that are nil -/
/-- A slice that is nil, seen as an empty frozen row. -/
theorem ok_nilfz (lv : Nat) {x : Operand} {k : Nat} (ho : o.op = .assign x ∨ o.op = .move x) (hx : s.ev x = .v (.slice none 0 k)) (hdd : o.dst = d) (hd : d.all (Nat.blt · n) = true) : OpOk P n o s (s.put d (.fz lv 0 [])) :=
  .val hdd hd fun Λ w φ a hs => by
    refine ⟨a.eval x, ?_, by rw [ev_v hs hx]; exact .fz0⟩
    rcases ho with ho | ho <;> simp [execOp, ho]
/-- .. seen as an empty row of one's own. -/
theorem ok_nilrow (id esz : Nat) {x : Operand} (ho : o.op = .assign x ∨ o.op = .move x) (hx : s.ev x = .v (.slice none 0 0)) (hid : s.h id = none) (hdd : o.dst = d) (hd : d.all (Nat.blt · n) = true) :
    OpOk P n o s ((s.seth id (some (.row [] esz 0))).put d (.sl id 0 0 0 esz)) :=
  .chg hdd hd fun Λ w φ a hs => by
    have hn := hs.hs.dom id hid
    have hc : Chg w φ Λ s.h id ⟨none, 0⟩ w := ⟨hs.hs, Nat.le_refl _, rfl, rfl, rfl, fun _ _ _ => rfl, (fun b' o' h => by cases h), (fun l hl => by rw [hn] at hl; cases hl), (fun l hl => by rw [hn] at hl; cases hl)⟩
    refine ⟨.value (.slice none 0 0), w, ⟨none, 0⟩, ?_, hc, ⟨rfl, .inl ⟨rfl, rfl⟩⟩, _, .inl rfl, .sl0 (upd_same _ _ _) rfl⟩
    have := ev_v hs hx
    rcases ho with ho | ho <;> simp [execOp, ho, this]

/-! ### Values that are handed on -/
theorem may.up {φ : PMap} {Λ : Lent} {l l' b : Nat} (hl : l ≤ l') (h : may φ Λ l b) : may φ Λ l' b := ⟨h.1, fun k hk => h.2 k (by omega)⟩
theorem Rep.up_fz {w : World} {φ : PMap} {Λ : Lent} {l l' n : Nat} {cs : List AV} {v : Value} (hl : l ≤ l') (h : Rep w φ Λ (.fz l n cs) v) : Rep w φ Λ (.fz l' n cs) v := by
  cases h with
  | fz0 => exact .fz0
  | fz vf h1 h2 h3 h4 h5 h6 => exact .fz vf (h1.up hl) h2 (fun c hc => AV.ok_mono hl (h3 c hc)) h4 h5 h6
theorem Rep.up_fp {w : World} {φ : PMap} {Λ : Lent} {l l' : Nat} {cs : List AV} {v : Value} (hl : l ≤ l') (h : Rep w φ Λ (.fp l cs) v) : Rep w φ Λ (.fp l' cs) v := by
  cases h with
  | fp vf h1 h3 h4 h5 h6 => exact .fp vf (h1.up hl) (fun c hc => AV.ok_mono hl (h3 c hc)) h4 h5 h6

/-- What a value of one's own becomes where it is lent (lo: the level of what lies in it; hi: the level lent at). -/
def FVal (h : Heap) (lo hi : Nat) (a b : AV) : Prop := lo ≤ hi → ∀ (w : World) (φ : PMap) (Λ Λ' : Lent) (v : Value), HSim w φ Λ h → (∀ l b, l ≤ lo → b < w.heap.size → may φ Λ l b → may (fun _ => none) Λ' l b) →
  (∀ b, owned φ b → may (fun _ => none) Λ' hi b) → Rep w φ Λ a v → Rep w (fun _ => none) Λ' b v
theorem fv_ok {h : Heap} {lo hi : Nat} {a : AV} (e : a.ok lo = true) : FVal h lo hi a a := fun _ _ _ _ _ _ _ hm _ hr => hr.move (lv := lo) hm e
theorem fv_up {h : Heap} {lo hi l l' n : Nat} {cs : List AV} (e : l ≤ lo) (e2 : l ≤ l') : FVal h lo hi (.fz l n cs) (.fz l' n cs) :=
  fun _ _ _ _ _ _ _ hm _ hr => (hr.move (lv := lo) hm (Nat.ble_eq_true_of_le e)).up_fz e2
theorem fv_row {h : Heap} {lo hi id ver off len esz : Nat} {ob : AObj} {cells cs : List AV} (h1 : h id = some ob) (h2 : ob.at ver = some cells) (h3 : AV.oks lo cells = true) (h4 : off + len * esz ≤ cells.length) (h5 : 0 < esz)
    (h6 : (cells.drop off).take (len * esz) = cs) : FVal h lo hi (.sl id ver off len esz) (.fz hi len cs) := by
  intro hle w φ Λ Λ' v hs hm hown hr
  have := rep_froz hs hle hm hown (x := .sl id ver off len esz) ⟨ob, cells, h1, h2, AV.oks_iff.1 h3, h4, h5⟩ hr
  simpa only [froz, h1, h2, h6] using this
theorem fv_ptr {h : Heap} {lo hi id ver off : Nat} {ob : AObj} {cells cs : List AV} (h1 : h id = some ob) (h2 : ob.at ver = some cells) (h3 : AV.oks lo cells = true) (h4 : off < cells.length)
    (h6 : cells.drop off = cs) : FVal h lo hi (.ptr id ver off) (.fp hi cs) := by
  intro hle w φ Λ Λ' v hs hm hown hr
  have := rep_froz hs hle hm hown (x := .ptr id ver off) ⟨ob, cells, h1, h2, AV.oks_iff.1 h3, h4⟩ hr
  simpa only [froz, h1, h2, h6] using this
def FVals (h : Heap) (lo hi : Nat) : List AV → List AV → Prop
  | [], [] => True
  | a :: l, b :: m => FVal h lo hi a b ∧ FVals h lo hi l m
  | _, _ => False
theorem FVals.length {h : Heap} {lo hi : Nat} : ∀ {l m : List AV}, FVals h lo hi l m → l.length = m.length
  | [], [], _ => rfl
  | a :: l, b :: m, e => by simp [FVals.length e.2]
  | [], _ :: _, e => e.elim
  | _ :: _, [], e => e.elim
theorem FVals.get {h : Heap} {lo hi : Nat} : ∀ {l m : List AV}, FVals h lo hi l m → ∀ (j : Nat) b, m[j]? = some b → ∃ a, l[j]? = some a ∧ FVal h lo hi a b
  | [], [], _, j, b, hj => by simp at hj
  | a :: l, b :: m, e, 0, c, hj => by simp at hj; subst hj; exact ⟨a, rfl, e.1⟩
  | a :: l, b :: m, e, j + 1, c, hj => by simpa using FVals.get e.2 j c (by simpa using hj)
  | [], _ :: _, e, _, _, _ => e.elim
  | _ :: _, [], e, _, _, _ => e.elim
theorem fv_tup {h : Heap} {lo hi : Nat} {l m : List AV} (e : FVals h lo hi l m) : FVal h lo hi (.tup l) (.tup m) := by
  intro hle w φ Λ Λ' v hs hm hown hr
  cases hr with
  | tup vf h1 h2 h3 =>
    refine .tup vf (by rw [h1, e.length]) (fun j hj => h2 j (by rw [e.length]; exact hj)) (fun j c hj => ?_)
    obtain ⟨a, h4, h5⟩ := e.get j c hj
    exact h5 hle w φ Λ Λ' _ hs hm hown (h3 j a h4)
theorem fv_agg {h : Heap} {lo hi : Nat} {l m : List AV} (e : FVals h lo hi l m) : FVal h lo hi (.agg l) (.agg m) := by
  intro hle w φ Λ Λ' v hs hm hown hr
  cases hr with
  | agg vf h1 h2 h3 =>
    refine .agg vf (by rw [h1, e.length]) (fun j hj => h2 j (by rw [e.length]; exact hj)) (fun j c hj => ?_)
    obtain ⟨a, h4, h5⟩ := e.get j c hj
    exact h5 hle w φ Λ Λ' _ hs hm hown (h3 j a h4)

/-- The values of a call, without what is lent. -/
theorem callVals {w : World} {φ : PMap} {Λ : Lent} {a : Act} (hs : Sim n w φ Λ s a) {fop : Operand} {argops : Array Operand} {f : Fn} {first caps : List AV} (hf : s.ev fop = .fn f first caps) :
    ∃ fv cv : Array Value, a.eval fop = .func f fv cv ∧ ArgsRep w φ Λ (first ++ argops.toList.map s.ev ++ caps) (fv ++ argops.map a.eval ++ cv) := by
  have hr := hs.ev fop
  rw [hf] at hr
  generalize hv : a.eval fop = v at hr
  cases hr with
  | fn vf wf h1 h2 h3 h4 h5 h6 =>
    rename_i fv cv
    refine ⟨fv, cv, rfl, by simp [h1, h4], fun j c hj => ?_⟩
    by_cases hj1 : j < first.length
    · rw [List.append_assoc, List.getElem?_append_left hj1] at hj
      refine ⟨vf j, ?_, h3 j c hj⟩
      rw [Array.append_assoc, Array.getElem?_append_left (by omega)]
      exact h2 j hj1
    · by_cases hj2 : j < first.length + argops.size
      · rw [List.append_assoc, List.getElem?_append_right (by omega), List.getElem?_append_left (by simp; omega), List.getElem?_map, Option.map_eq_some_iff] at hj
        obtain ⟨x, hx, rfl⟩ := hj
        refine ⟨a.eval x, ?_, hs.ev x⟩
        rw [Array.append_assoc, Array.getElem?_append_right (by omega), Array.getElem?_append_left (by simp; omega), h1, Array.getElem?_map]
        rw [Array.getElem?_toList] at hx
        rw [hx]
        rfl
      · rw [List.getElem?_append_right (by simp; omega)] at hj
        simp only [List.length_append, List.length_map, Array.length_toList] at hj
        have hlt := (List.getElem?_eq_some_iff.1 hj).1
        refine ⟨wf (j - (first.length + argops.size)), ?_, h6 _ c hj⟩
        rw [Array.getElem?_append_right (by simp; omega)]
        simp only [Array.size_append, Array.size_map, h1]
        exact h5 _ hlt

/-- A call that borrows no object of the caller's: its rows are lent to be read. -/
theorem OpX.call1 {K : AS → Prop} {fop : Operand} {argops : Array Operand} {tys : Array TypeId} {f : FuncId} {first caps A : List AV} {R : AEnd → Heap → Prop} (lv : Nat)
    (ho : o.op = .call { callee := .value fop, args := argops, argTypes := tys }) (hf : s.ev fop = .fn (.func f) first caps)
    (hA : FVals s.h lv (lv + 1) (first ++ argops.toList.map s.ev ++ caps) A) (hc : AC P f A emp R) (hdd : o.dst = d) (hd : d.all (Nat.blt · n) = true)
    (hret : ∀ r h', R (.ret r) h' → r.ok lv = true ∧ K (s.put d r)) (hpan : ∀ x h', R (.panic x) h' → Q (.panic x) s) : OpX P n o Q s K := by
  intro Λ w φ a hs next QQ hN hP
  subst hdd
  obtain ⟨⟨fn, c, hb⟩, hcall⟩ := hc
  let Λ' : Lent := fun k b => Λ k b ∨ (k = lv + 1 ∧ owned φ b)
  have hm : ∀ l b, l ≤ lv → b < w.heap.size → may φ Λ l b → may (fun _ => none) Λ' l b := fun l b hl _ h => ⟨fun h1 => owned_none h1, fun k hk h1 => by
    rcases h1 with h1 | ⟨_, h1⟩
    · exact h.2 k hk h1
    · exact h.1 h1⟩
  have hown : ∀ b, owned φ b → may (fun _ => none) Λ' (lv + 1) b := fun b hb => ⟨fun h1 => owned_none h1, fun k hk h1 => by
    rcases h1 with h1 | ⟨h1, _⟩
    · obtain ⟨id, l, oo, g1, g2⟩ := hb
      exact (hs.hs.lt _ _ _ _ g1 g2).2 k h1
    · omega⟩
  have hs0 : HSim w (fun _ => none) Λ' emp := by
    refine ⟨(fun id ob h => by cases h), fun _ _ => rfl, (fun id l b o h => by cases h), (fun id id' l l' b o o' h => by cases h), fun k b h => ?_⟩
    rcases h with h | ⟨_, id, l, oo, g1, g2⟩
    · exact hs.hs.lent k b h
    · exact (hs.hs.lt _ _ _ _ g1 g2).1
  obtain ⟨fv, cv, hfv, hsz, hargs0⟩ := callVals hs hf
  have hargs : ArgsRep w (fun _ => none) Λ' A (fv ++ argops.map a.eval ++ cv) := by
    refine ⟨by rw [hsz, hA.length], fun j b hj => ?_⟩
    obtain ⟨x, h1, h2⟩ := hA.get j b hj
    obtain ⟨v, h3, h4⟩ := hargs0 j x h1
    exact ⟨v, h3, h2 (Nat.le_succ lv) w φ Λ Λ' v hs.hs hm hown h4⟩
  unfold Oper.wp
  rw [run_callOp hb ho hfv]
  have back : ∀ h' w' φ', HSim w' φ' Λ' h' → Goes w (fun _ => none) w' φ' → Goes w φ w' φ ∧ Stays w φ w' φ ∧ HSim w' φ Λ s.h := by
    intro h' w' φ' hs' g
    have hkeep : ∀ b, b < w.heap.size → w'.heap[b]? = w.heap[b]? := fun b hb => g.keep b hb fun h1 => owned_none h1
    have st : Stays w φ w' φ := ⟨fun id l h => ⟨l, h, .inl rfl⟩, fun id l h1 _ b oo arr T m h2 h3 => ⟨arr, T, m, by rw [hkeep b (hs.hs.lt _ _ _ _ h1 h2).1]; exact h3, Nat.le_refl _⟩⟩
    have g2 : Goes w φ w' φ := ⟨fun b hb _ => hkeep b hb, g.size, fun _ h => .inl h, g.os, g.tape, g.output, st.pin⟩
    refine ⟨g2, st, ⟨fun id ob h => ?_, hs.hs.dom, fun id l b oo h1 h2 => ?_, hs.hs.inj, fun k b h => Nat.lt_of_lt_of_le (hs.hs.lent k b h) g.size⟩⟩
    · obtain ⟨l, h1, h2⟩ := hs.hs.heap id ob h
      exact ⟨l, h1, h2.goes g2 st fun b oo h3 => hkeep b (hs.hs.lt _ _ _ _ h1 h3).1⟩
    · obtain ⟨h3, h4⟩ := hs.hs.lt id l b oo h1 h2
      exact ⟨Nat.lt_of_lt_of_le h3 g.size, h4⟩
  refine Calls.mono (hcall Λ' w (fun _ => none) _ hs0 hargs (fun e w' => match e with
      | .returned v => next (a.put o.dst v) w'
      | .panicked chain => QQ (.panic chain) a w'
      | .outgrown => False) ?_ ?_) ?_
  · intro r h' w' φ' v hR hs' g hr
    obtain ⟨hok, hrest⟩ := hret r h' hR
    obtain ⟨g2, st, hs2⟩ := back h' w' φ' hs' g
    have hr2 : Rep w' φ Λ r v := by
      refine hr.move (lv := lv) (fun l b hl hb hmay => ⟨fun h1 => ?_, fun k hk h1 => hmay.2 k hk (.inl h1)⟩) hok
      exact hmay.2 (lv + 1) (by omega) (.inr ⟨rfl, h1⟩)
    have hsa : Sim n w' φ Λ s a := ⟨hs.defs, hs.size, fun i => (hs.tmps i).goes g2 st, hs2⟩
    exact hN _ w' φ _ hrest (hsa.put o.dst hd hr2) g2
  · intro x h' w' φ' hR hs' g
    obtain ⟨g2, st, hs2⟩ := back h' w' φ' hs' g
    have hsa : Sim n w' φ Λ s a := ⟨hs.defs, hs.size, fun i => (hs.tmps i).goes g2 st, hs2⟩
    exact hP x s w' φ a (hpan x h' hR) hsa g2
  · intro e w' h
    cases e with
    | returned v => exact h
    | panicked chain => exact h
    | outgrown => exact h.elim

/-- A call with one result, that borrows no object. -/
theorem ok_call {fop : Operand} {argops : Array Operand} {tys : Array TypeId} {f : FuncId} {first caps A : List AV} {r : AV} (lv : Nat)
    (ho : o.op = .call { callee := .value fop, args := argops, argTypes := tys }) (hf : s.ev fop = .fn (.func f) first caps)
    (hc : AC P f A emp (Ret r)) (hA : FVals s.h lv (lv + 1) (first ++ argops.toList.map s.ev ++ caps) A) (hr : r.ok lv = true)
    (hdd : o.dst = d) (hd : d.all (Nat.blt · n) = true) : OpOk P n o s (s.put d r) := by
  intro Λ w φ a hs next QQ hN
  refine OpX.call1 (Q := fun _ _ => False) (K := fun s' => s' = s.put d r) lv ho hf hA hc hdd hd (fun r' h' hR => ?_) (fun x h' hR => ?_) Λ w φ a hs next QQ (fun s' w' φ' a' hk hs' g => ?_) (fun x s' w' φ' a' q => q.elim)
  · obtain ⟨h1, _⟩ := hR
    cases h1
    exact ⟨hr, rfl⟩
  · exact absurd hR.1 (by simp)
  · subst hk
    exact hN w' φ' a' hs' g

theorem Sees.fv {h : Heap} {a b : AV} {lv : Nat} (e : FVal h lv lv a b) (hp : pinFree h = true) : Sees h a emp b := fun w φ Λ v h1 h2 =>
  have g := goes_none w (φ := φ) fun id hi => h1.dom id (pinFree_iff hp hi)
  ⟨fun _ => none, hsim_none h1, e (Nat.le_refl _) w φ Λ Λ v h1 (fun l b _ hb hm => hm.goes g hb)
    (fun b hb => ⟨fun h => owned_none h, fun k _ => by obtain ⟨id, l, o, g1, g2⟩ := hb; exact (h1.lt _ _ _ _ g1 g2).2 k⟩) h2, g⟩

theorem Fin.ret2 {fn : Func} {r : AV} {xs ys : List AV} (lv : Nat) (h1 : ResOks te s fn.results.toList xs) (h2 : FVals s.h lv lv xs ys) (h3 : resVal ys = r) (hp : pinFree s.h = true := by rfl) : Fin te fn (Ret r) s := by
  have key : FVal s.h lv lv (resVal xs) (resVal ys) := by
    match xs, ys, h2 with
    | [], [], h2 => exact fv_tup h2
    | [x], [y], h2 => exact h2.1
    | x1 :: x2 :: xs, y1 :: y2 :: ys, h2 => exact fv_tup h2
    | x :: xs, [], h2 => exact h2.elim
    | [], y :: ys, h2 => exact h2.elim
    | [x], y1 :: y2 :: ys, h2 => exact h2.2.elim
    | x1 :: x2 :: xs, [y], h2 => exact h2.2.elim
  exact ⟨xs, r, emp, h1, h3 ▸ Sees.fv key hp, rfl, rfl⟩

/-- A loop with an invariant beside the state. -/
theorem AWp.loopI {α : Type} {c : Code} (S : α → AS) (I : α → Prop) (μ : α → Nat) (x0 : α) (hI : I x0) (h0 : Weak s (S x0))
    (round : ∀ x, I x → AWp P n c (AExit.then (fun s' => ∃ x', I x' ∧ Weak s' (S x') ∧ μ x' < μ x) Q) (S x)) : AWp P n (.loop c) Q s := by
  refine AWp.loop (α := {x : α // I x}) (fun x => S x.1) (fun x => μ x.1) ⟨x0, hI⟩ h0 fun x => (round x.1 x.2).mono fun e s' q => ?_
  cases e with
  | normal =>
    obtain ⟨x', h1, h2, h3⟩ := q
    exact ⟨⟨x', h1⟩, h2, h3⟩
  | exit id => exact q
  | goto l => exact q
  | ret => exact q
  | panic x => exact q

theorem AWp.cutI {α : Type} {x y : Code} (S : α → AS) (I : α → Prop) (h1 : AWp P n x (AExit.then (fun s' => ∃ a, I a ∧ Weak s' (S a)) Q) s) (h2 : ∀ a, I a → AWp P n y Q (S a)) : AWp P n (.seq x y) Q s := by
  refine AWp.seq (h1.mono fun e s' q => ?_)
  cases e with
  | normal =>
    obtain ⟨a, hi, hw⟩ := q
    exact AWp.weak hw (h2 a hi)
  | exit id => exact q
  | goto l => exact q
  | ret => exact q
  | panic x => exact q

theorem i64_eq {a b : Int} (h : a = b) : i64 a = i64 b := by rw [h]
theorem str_eq {a b : List UInt8} (h : a = b) : str a = str b := by rw [h]
theorem sl_eq {id ver off esz a b : Nat} (h : a = b) : AV.sl id ver off a esz = AV.sl id ver off b esz := by rw [h]
end
end Go.Proofs.Ytaemmklgofddmaa.Fw
