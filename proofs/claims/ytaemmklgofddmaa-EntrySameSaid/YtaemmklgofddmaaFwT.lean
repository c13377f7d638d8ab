/- Fw20: function values, parts of arrays, bits; no condition. -/
import Derived.Test.YtaemmklgofddmaaFwR
set_option linter.unusedVariables false
set_option linter.unusedSimpArgs false
namespace Go.Proofs.Ytaemmklgofddmaa.Fw
open Go.RowKit

section
variable {P : Program} {n : Nat} {Q : APost} {s : AS} {ops : Array Oper} {te : TE} {o : Oper} {d : Option Tmp}

def EvA (s : AS) : List Operand → List AV → Prop
  | [], [] => True
  | x :: r, v :: q => s.ev x = v ∧ EvA s r q
  | _, _ => False
theorem EvA.get : ∀ {l : List Operand} {m : List AV}, EvA s l m → l.length = m.length ∧ ∀ (j : Nat) c, m[j]? = some c → ∃ x, l[j]? = some x ∧ s.ev x = c
  | [], [], _ => ⟨rfl, fun j c h => by simp at h⟩
  | x :: r, v :: q, h => by
    obtain ⟨h1, h2⟩ := EvA.get h.2
    refine ⟨by simp [h1], fun j c hj => ?_⟩
    cases j with
    | zero => simp at hj; subst hj; exact ⟨x, rfl, h.1⟩
    | succ j => simpa using h2 j c (by simpa using hj)
  | [], _ :: _, h => h.elim
  | _ :: _, [], h => h.elim
theorem EvA.rep {l : Array Operand} {m : List AV} (h : EvA s l.toList m) {Λ : Lent} {w : World} {φ : PMap} {a : Act} (hs : Sim n w φ Λ s a) :
    (l.map a.eval).size = m.length ∧ (∀ j, j < m.length → (l.map a.eval)[j]? = some ((l.map a.eval).getD j undef)) ∧ ∀ (j : Nat) c, m[j]? = some c → Rep w φ Λ c ((l.map a.eval).getD j undef) := by
  obtain ⟨h1, h2⟩ := h.get
  refine ⟨by simpa using h1, fun j hj => ?_, fun j c hj => ?_⟩
  · have : j < (l.map a.eval).size := by rw [Array.size_map, ← Array.length_toList, h1]; exact hj
    simp only [Array.getD, this, dite_true, Array.getElem?_eq_getElem this]
    rfl
  · obtain ⟨x, h3, h4⟩ := h2 j c hj
    have : (l.map a.eval)[j]? = some (a.eval x) := by
      rw [Array.getElem?_map]
      rw [Array.getElem?_toList] at h3
      rw [h3]
      rfl
    rw [Array.getD_eq_getD_getElem?, this, ← h4]
    exact hs.ev x
theorem ok_makeFunc {f : Fn} {first caps : Array Operand} {fv cv : List AV} (ho : o.op = .makeFunc f first caps) (h1 : EvA s first.toList fv) (h2 : EvA s caps.toList cv) (hdd : o.dst = d) (hd : d.all (Nat.blt · n) = true) :
    OpOk P n o s (s.put d (.fn f fv cv)) :=
  .val hdd hd fun Λ w φ a hs => by
    obtain ⟨a1, a2, a3⟩ := h1.rep hs
    obtain ⟨b1, b2, b3⟩ := h2.rep hs
    exact ⟨.func f (first.map a.eval) (caps.map a.eval), by simp [execOp, ho, Instr.makeFunc], .fn _ _ a1 a2 a3 b1 b2 b3⟩

theorem fv_fn {h : Heap} {lo hi : Nat} {f : Fn} {a b a' b' : List AV} (e : FVals h lo hi a a') (e2 : FVals h lo hi b b') : FVal h lo hi (.fn f a b) (.fn f a' b') := by
  intro hle w φ Λ Λ' v hs hm hown hr
  cases hr with
  | fn vf wf h1 h2 h3 h4 h5 h6 =>
    refine .fn vf wf (by rw [h1, e.length]) (fun j hj => h2 j (by rw [e.length]; exact hj)) (fun j c hj => ?_) (by rw [h4, e2.length]) (fun j hj => h5 j (by rw [e2.length]; exact hj)) (fun j c hj => ?_)
    · obtain ⟨x, k1, k2⟩ := e.get j c hj
      exact k2 hle w φ Λ Λ' _ hs hm hown (h3 j x k1)
    · obtain ⟨x, k1, k2⟩ := e2.get j c hj
      exact k2 hle w φ Λ Λ' _ hs hm hown (h6 j x k1)

theorem fvs_ok {h : Heap} {lo hi : Nat} : ∀ {l : List AV}, AV.oks lo l = true → FVals h lo hi l l
  | [], _ => trivial
  | a :: l, e => by
    simp only [AV.oks, Bool.and_eq_true] at e
    exact ⟨fv_ok e.1, fvs_ok e.2⟩

theorem ok_load_at (hte : TEok P te) {t : TypeId} {x : Operand} {id ver po : Nat} {ob : AObj} {cells : List AV} {ti : TI} {y : AV} (ho : o.op = .load t x) (hx : s.ev x = .ptr id ver po) (hob : s.h id = some ob)
    (hc : ob.at ver = some cells) (ht : te.get t = some ti) (hk : ti.k.agg = false) (h1 : ti.size = 1) (hy : cells[po]? = some y) (hdd : o.dst = d) (hd : d.all (Nat.blt · n) = true) : OpOk P n o s (s.put d y) := by
  have hlt := (List.getElem?_eq_some_iff.1 hy).1
  have hcs : (cells.drop po).take ti.size = [y] := by
    rw [h1, List.drop_eq_getElem_cons hlt]
    simp only [List.take_succ_cons, List.take_zero]
    rw [(List.getElem?_eq_some_iff.1 hy).2]
  exact ok_load_ptr hte ho hx hob hc ht hcs (by rw [h1]; rfl) (by rw [h1]; decide) (by rw [hk]; rfl) hdd hd

theorem ok_index_agg (hte : TEok P te) {t e : TypeId} {m : Nat} {x y : Operand} {cells : List AV} {k : IntKind} {i : Int} {ti tj : TI} {v : AV} (ho : o.op = .index t x y) (hx : s.ev x = .agg cells) (hy : s.ev y = .v (.int k i))
    (ht : te.get t = some ti) (hk : ti.k = .arr m e) (he : te.get e = some tj) (hj : tj.k.agg = false) (h1 : tj.size = 1) (hv : cells[i.toNat]? = some v) (h0 : 0 ≤ i) (hm : i < m) (hdd : o.dst = d) (hd : d.all (Nat.blt · n) = true) : OpOk P n o s (s.put d v) :=
  .val hdd hd fun Λ w φ a hs => by
    have hu := (hte.tells ht).arr hk
    have hr := hs.ev x
    rw [hx] at hr
    generalize hxv : a.eval x = xv at hr
    cases hr with
    | agg vf g1 g2 g3 =>
      rename_i vs
      have hlt := (List.getElem?_eq_some_iff.1 hv).1
      refine ⟨vf i.toNat, ?_, g3 _ _ hv⟩
      have hp : (part e vs (i.toNat * tj.size)).run P w = .ok (vf i.toNat) w := by
        unfold part
        rw [Sem.run_bind, (hte.tells he).run_isAgg w]
        simp only [Result.andThen_ok, hj, h1, Nat.mul_one, Bool.false_eq_true, if_false, g2 _ hlt]
        rfl
      simp [execOp, ho, hxv, ev_v hs hy, Instr.index, asIntOf, run_underlying hu, h0, hm, (hte.tells he).run_sizeOf, hp]

/-! ### Bits -/
theorem ofInt_toNat {k : Nat} {a : Int} (h0 : 0 ≤ a) (h1 : a < 2 ^ k) : (BitVec.ofInt k a).toNat = a.toNat := by
  rw [BitVec.toNat_ofInt]
  congr 1
  exact Int.emod_eq_of_lt h0 (by simpa using h1)
section bin
variable {t : TypeId} {x y : Operand} {k : IntKind} {a b : Int}
theorem bi_or (h0 : 0 ≤ a ∧ a ≤ 9223372036854775807) (h1 : 0 ≤ b ∧ b ≤ 9223372036854775807) : BinRes P .or t x y (.int .i64 a) (.int .i64 b) (.int .i64 ((a.toNat ||| b.toNat : Nat) : Int)) := by
  have := br_or (P := P) (t := t) (x := x) (y := y) (k := .i64) (a := a) (b := b)
  have e1 : IntKind.i64.bits = 64 := rfl
  have e2 : (a.toNat ||| b.toNat) < 2 ^ 63 := Nat.or_lt_two_pow (by omega) (by omega)
  rw [e1, BitVec.toNat_or, ofInt_toNat h0.1 (by omega), ofInt_toNat h1.1 (by omega), wrap64 (by omega) (by omega)] at this
  exact this
theorem bi_and (h0 : 0 ≤ a ∧ a ≤ 9223372036854775807) (h1 : 0 ≤ b ∧ b ≤ 9223372036854775807) : BinRes P .and t x y (.int .i64 a) (.int .i64 b) (.int .i64 ((a.toNat &&& b.toNat : Nat) : Int)) := by
  have := br_and (P := P) (t := t) (x := x) (y := y) (k := .i64) (a := a) (b := b)
  have e1 : IntKind.i64.bits = 64 := rfl
  have e2 : (a.toNat &&& b.toNat) < 2 ^ 63 := Nat.lt_of_le_of_lt Nat.and_le_left (by omega)
  rw [e1, BitVec.toNat_and, ofInt_toNat h0.1 (by omega), ofInt_toNat h1.1 (by omega), wrap64 (by omega) (by omega)] at this
  exact this
theorem wrap_u8_nat (m : Nat) (h : m < 256) : IntKind.u8.wrap (m : Int) = m := by
  rw [wrap_u8, byte_toNat]
  omega
theorem bi_xor8 {p q : UInt8} : BinRes P .xor t x y (.int .u8 p.toNat) (.int .u8 q.toNat) (.int .u8 (p ^^^ q).toNat) := by
  have := br_xor (P := P) (t := t) (x := x) (y := y) (k := .u8) (a := p.toNat) (b := q.toNat)
  have e1 : IntKind.u8.bits = 8 := rfl
  have h1 := p.toNat_lt
  have h2 := q.toNat_lt
  rw [e1, BitVec.toNat_xor, ofInt_toNat (by omega) (by omega), ofInt_toNat (by omega) (by omega)] at this
  simp only [Int.toNat_natCast] at this
  rw [wrap_u8_nat _ (Nat.xor_lt_two_pow (n := 8) h1 h2), ← UInt8.toNat_xor] at this
  exact this
end bin

theorem ok_min (ty : Array TypeId) {x y : Operand} {a b : Int} {k : IntKind} (ho : o.op = .call { callee := .builtin .min, args := #[x, y], argTypes := ty }) (hx : s.ev x = .v (.int k a)) (hy : s.ev y = .v (.int k b))
    (hdd : o.dst = d) (hd : d.all (Nat.blt · n) = true) : OpOk P n o s (s.put d (.v (.int k (min a b)))) :=
  .val hdd hd fun Λ w φ ac hs => ⟨.int k (min a b), by
    have e : (if b < a then b else a) = min a b := by omega
    simp [execOp, ho, resolve, invoke, builtin, ev_v hs hx, ev_v hs hy, Builtin.min_, Builtin.min2, e], .v⟩
theorem ok_max (ty : Array TypeId) {x y : Operand} {a b : Int} {k : IntKind} (ho : o.op = .call { callee := .builtin .max, args := #[x, y], argTypes := ty }) (hx : s.ev x = .v (.int k a)) (hy : s.ev y = .v (.int k b))
    (hdd : o.dst = d) (hd : d.all (Nat.blt · n) = true) : OpOk P n o s (s.put d (.v (.int k (max a b)))) :=
  .val hdd hd fun Λ w φ ac hs => ⟨.int k (max a b), by
    have e : (if b > a then b else a) = max a b := by omega
    simp [execOp, ho, resolve, invoke, builtin, ev_v hs hx, ev_v hs hy, Builtin.max_, Builtin.max2, e], .v⟩
end
end Go.Proofs.Ytaemmklgofddmaa.Fw
