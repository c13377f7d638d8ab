/- The texts Q21, W01z, W01s, W01y, W01r, L01n, Q20, one behind the other: what the walks and plain laws need; conditions stand with each theorem. -/
import Derived.JoinedCond
import Derived.Laws.Externs
import Derived.Lib.Builder
import Derived.Lib.UnsafeStr
import Derived.Test.YtfojdjlhpejbpaaCat2
set_option linter.unusedVariables false
set_option linter.unusedSimpArgs false
namespace Go.Proofs.Ytfojdjlhpejbpaa.Fw
open Go.RowKit
def bp (id n : Nat) : AV := bif Nat.beq n 0 then .v (.pointer none) else .ptr id 0 0
theorem bp_cases (id n : Nat) : (n = 0 ∧ bp id n = .v (.pointer none)) ∨ (0 < n ∧ bp id n = .ptr id 0 0) := by
  cases n with
  | zero => exact .inl ⟨rfl, rfl⟩
  | succ n => exact .inr ⟨Nat.succ_pos n, rfl⟩
theorem bp_pos {id n : Nat} (h : 0 < n) : bp id n = .ptr id 0 0 := by
  cases n with
  | zero => cases h
  | succ n => rfl
theorem bp_refs {id n : Nat} {S : Nat → Bool} (h : S id = true) : (bp id n).refs S = true := by
  rcases bp_cases id n with ⟨_, e⟩ | ⟨_, e⟩ <;> rw [e]
  · rfl
  · exact h
theorem ob_bp {x : Option AObj} {ty : Option TypeId} {id n : Nat} {a : AV} (h : x = some (.gbox ty [.ptr id 0 0, a])) (hn : 0 < n) : x = some (.gbox ty [bp id n, a]) := by rw [bp_pos hn]; exact h
section
variable {ρ : Nat → Bool} {σ : IdMap} {h : Heap} {lo hi : Nat}
theorem lv_any {a : AV} : LVal ρ σ h lo hi a .any := fun _ _ _ _ _ _ _ _ _ _ _ _ => .any
theorem lv_bp {k c n : Nat} (e : σ.get c = some k) (hr : ρ c = false) : LVal ρ σ h lo hi (bp k n) (bp c n) := by
  cases n with
  | zero => exact lv_ok rfl
  | succ n => exact lv_ptr e hr
theorem lv_bpp {k c n : Nat} (e : σ.get c = some k) (hr : ρ c = false) (hn : 0 < n) : LVal ρ σ h lo hi (.ptr k 0 0) (bp c n) := by
  rw [bp_pos hn]; exact lv_ptr e hr
theorem lv_bpq {k c n : Nat} (e : σ.get c = some k) (hr : ρ c = false) (hn : 0 < n) : LVal ρ σ h lo hi (bp k n) (.ptr c 0 0) := by
  rw [bp_pos hn]; exact lv_ptr e hr
theorem objIn_b {S : Nat → Bool} {ty : Option TypeId} {id r v m n : Nat} (h1 : S id = true) (h2 : S r = true) : ObjIn S (.gbox ty [bp id n, .sl r v 0 m 1]) := by
  show AV.refss S _ = true
  simp only [AV.refss, AV.refs, bp_refs h1, h2, Bool.and_self]
end
section
variable {n : Nat} {s : AS} {o : Oper} {d : Option Tmp} {Q : APost}
theorem q_allocT (id : Nat) {t : TypeId} {ti : TI} {zs : List AV} (ho : o.op = .alloc t := by exact rfl) (ht : te.get t = some ti := by exact rfl) (hid : s.h id = none := by exact rfl)
    (hz : ti.zero.map (fun z => AV.v z.val) = zs := by first | (simp only [List.map_cons, List.map_nil, ZC.val]; rfl) | exact rfl) (hdd : o.dst = d := by conv => lhs; whnf) (hd : d.all (Nat.blt · n) = true := by exact rfl) :
    OpOk Try.prog n o s ((s.seth id (some (.gbox (some t) zs))).put d (.ptr id 0 0)) :=
  .chg hdd hd fun Λ w φ a hs => by
    obtain ⟨z, h1, h2, _⟩ := (te_ok.tells ht).run_zero w
    have hc := Chg.alloc hs.hs hid (.cells z.cells t) 0 0
    refine ⟨_, _, _, ?_, hc, ?_, .pointer (some ⟨w.heap.size, 0, none⟩), .inl rfl, ?_⟩
    · simp [execOp, ho, Instr.alloc, h1, newVar, newRow]
    · refine ⟨w.heap.size, z.cells, t, rfl, rfl, heap_alloc_new w _, by rw [h2, ← hz]; simp, fun j c hj => ?_⟩
      rw [← hz, List.getElem?_map, Option.map_eq_some_iff] at hj
      obtain ⟨q, q1, rfl⟩ := hj
      exact ⟨q.val, by rw [h2]; simp [q1], .v⟩
    · exact .ptr (upd_same _ _ _) rfl rfl
theorem Sim.boxT {w : World} {φ : PMap} {Λ : Lent} {a : Act} (hs : Sim n w φ Λ s a) {x : Operand} {id T : Nat} {cells : List AV} (hx : s.ev x = .ptr id 0 0) (hob : s.h id = some (.gbox (some T) cells)) :
    ∃ l b, φ id = some l ∧ l.ver = 0 ∧ l.bo = some (b, 0) ∧ a.eval x = .pointer (some ⟨b, 0, none⟩) ∧ w.shape? b = some (T, cells.length) := by
  obtain ⟨l, hl, b, arr, T', g1, g2, g3, g4, g5⟩ := hs.hs.heap id _ hob
  have hr := hs.ev x
  rw [hx] at hr
  generalize a.eval x = v at hr
  cases hr with
  | ptrx e1 e2 => rw [hl] at e1; cases e1; omega
  | ptr e1 e2 e3 =>
    rw [hl] at e1
    cases e1
    rw [g1] at e3
    cases e3
    exact ⟨l, b, hl, g2, g1, rfl, by simp [World.shape?, g3, g4]⟩
theorem q_to_unsafe {src dst T : TypeId} {x : Operand} {id : Nat} {cells : List AV} {ti : TI} (ho : o.op = .convert src dst x := by exact rfl)
    (hx : s.ev x = .ptr id 0 0 := by exact rfl) (hob : s.h id = some (.gbox (some T) cells) := by exact rfl) (hs1 : Try.prog.underlying src = some (.pointer T) := by kernel_rfl) (hd1 : Try.prog.underlying dst = some .unsafePointer := by kernel_rfl) (ht : te.get T = some ti := by exact rfl) (hp : 0 < ti.size := by exact Nat.le_of_ble_eq_true rfl) (h0 : 0 < cells.length := by exact Nat.le_of_ble_eq_true rfl)
    (hdd : o.dst = d := by conv => lhs; whnf) (hd : d.all (Nat.blt · n) = true := by exact rfl) : OpOk Try.prog n o s (s.put d (.ptr id 0 0)) :=
  .val hdd hd fun Λ w φ a hs => by
    obtain ⟨l, b, g1, g2, g3, g4, g5⟩ := hs.boxT hx hob
    obtain ⟨f, z, f1, f2, _⟩ := te_elem te_ok ht
    refine ⟨.pointer (some ⟨b, 0, none⟩), ?_, .ptr g1 g2 g3⟩
    have := Lib.run_to_unsafe (P := Try.prog) w ⟨b, 0, none⟩ hs1 hd1 f1 (by rw [f2]; omega) g5 h0
    simp [execOp, ho, g4, this]
theorem q_from_unsafe {src dst T m : Nat} {x : Operand} {id : Nat} {cells : List AV} {ti : TI} (ho : o.op = .convert src dst x := by exact rfl)
    (hx : s.ev x = .ptr id 0 0 := by exact rfl) (hob : s.h id = some (.gbox (some T) cells) := by exact rfl) (hs1 : Try.prog.underlying src = some .unsafePointer := by kernel_rfl) (hd1 : Try.prog.underlying dst = some (.pointer T) := by kernel_rfl)
    (hm : cells.length = m := by simp only [List.length_cons, List.length_nil]; rfl) (hlies : liesAt Try.prog Try.prog.depth T (m / Try.prog.cellsOf T) 0 T 1 = true := by kernel_rfl) (ht : te.get T = some ti := by exact rfl)
    (hdd : o.dst = d := by conv => lhs; whnf) (hd : d.all (Nat.blt · n) = true := by exact rfl) : OpOk Try.prog n o s (s.put d (.ptr id 0 0)) :=
  .val hdd hd fun Λ w φ a hs => by
    obtain ⟨l, b, g1, g2, g3, g4, g5⟩ := hs.boxT hx hob
    obtain ⟨f, z, f1, f2, _⟩ := te_elem te_ok ht
    refine ⟨.pointer (some ⟨b, 0, none⟩), ?_, .ptr g1 g2 g3⟩
    subst hm
    have := Lib.run_from_unsafe (P := Try.prog) w ⟨b, 0, none⟩ hs1 hd1 f1 g5 hlies
    simp [execOp, ho, g4, this]
theorem q_neq_same {t u e : TypeId} {x y : Operand} {id T : Nat} {cells : List AV} {ti tj : TI} (ho : o.op = .binOp .neq t x y u := by exact rfl) (hx : s.ev x = .ptr id 0 0 := by exact rfl) (hy : s.ev y = .ptr id 0 0 := by exact rfl)
    (hob : s.h id = some (.gbox (some T) cells) := by exact rfl) (ht : te.get t = some ti := by exact rfl) (hk : ti.k = .ptr e := by exact rfl) (he : te.get e = some tj := by exact rfl)
    (hdd : o.dst = d := by conv => lhs; whnf) (hd : d.all (Nat.blt · n) = true := by exact rfl) : OpOk Try.prog n o s (s.put d (tf false)) :=
  .val hdd hd fun Λ w φ a hs => by
    obtain ⟨l, b, g1, g2, g3, g4, g5⟩ := hs.boxT hx hob
    obtain ⟨l', b', k1, k2, k3, k4, k5⟩ := hs.boxT hy hob
    rw [g1] at k1
    cases k1
    rw [g3] at k3
    cases k3
    obtain ⟨f, z, f1, f2, _⟩ := te_elem te_ok he
    have := Lib.run_neq_ptr_same (P := Try.prog) w ⟨b, 0, none⟩ ((te_ok.tells ht).ptr hk) f1
    exact ⟨.bool false, by simp [execOp, ho, g4, k4, eqGuard, this], .v⟩
theorem q_noEscape {fop y : Operand} {tys : Array TypeId} {f : FuncId} (fn : Func) {v : AV} (ho : o.op = .call { callee := .value fop, args := #[y], argTypes := tys } := by exact rfl) (hf : s.ev fop = .fn (.func f) [] [] := by exact rfl) (hy : s.ev y = v := by conv => lhs; whnf)
    (hfn : Try.prog.funcs[f]? = some fn := by exact rfl) (hname : (fn.name == "runtime.NumGoroutine") = false := by kernel_rfl) (hb : fn.body.isNone = true := by kernel_rfl) (hn : Extern.findNext fn = none := by kernel_rfl)
    (he : Extern.find fn = some Extern.AbiNoEscape.same := by kernel_rfl)
    (hdd : o.dst = d := by conv => lhs; whnf) (hd : d.all (Nat.blt · n) = true := by exact rfl) : OpOk Try.prog n o s (s.put d v) :=
  .val hdd hd fun Λ w φ a hs => by
    have hr := hs.ev fop
    rw [hf] at hr
    generalize hv : a.eval fop = fv at hr
    cases hr with
    | @fn _ _ _ a1 b1 vf wf h1 h2 h3 h4 h5 h6 =>
      have ea : a1 = #[] := Array.eq_empty_of_size_eq_zero h1
      have eb : b1 = #[] := Array.eq_empty_of_size_eq_zero h4
      subst ea
      subst eb
      have h := run_callFunc_extern hfn hname hb hn he #[a.eval y] w
      have h7 : (Extern.AbiNoEscape.same #[a.eval y]).run Try.prog w = .ok (a.eval y) w := rfl
      refine ⟨a.eval y, ?_, hy ▸ hs.ev y⟩
      simp [execOp, ho, resolve, hv, Deferred.ofValue, invoke, h, h7]
theorem Weak.renil (k id : Nat) {α : Type} (f : α → List AV) {ty : Option TypeId} {cells : List AV} {esz v : Nat} (hk : s.t k = .v (.slice none 0 0)) (hob : s.h id = some (.grow ty cells esz v)) :
    Weak s ((s.seth id (some (.grow ty (cl f []) esz (v + 1)))).put (some k) (.sl id (v + 1) 0 ([] : List α).length esz)) := by
  intro n Λ w φ a hs
  obtain ⟨l0, hl0, hv, _⟩ := hs.hs.heap id _ hob
  have hc : Chg w φ Λ s.h id ⟨none, v + 1⟩ w := by
    refine ⟨hs.hs, Nat.le_refl _, rfl, rfl, rfl, fun _ _ _ => rfl, (fun b' o' h => by cases h), fun l hl => ?_, fun l hl he => ?_⟩
    · rw [hl0] at hl; cases hl; exact .inr (by show l0.ver < v + 1; omega)
    · rw [hl0] at hl; cases hl; rw [← he] at hv; simp at hv
  have h1 : HSim w (upd φ id (some ⟨none, v + 1⟩)) Λ (upd s.h id (some (.grow ty (cl f []) esz (v + 1)))) := hc.hsim ⟨rfl, .inl ⟨rfl, rfl⟩⟩
  refine ⟨upd φ id (some ⟨none, v + 1⟩), ⟨hs.defs, hs.size, fun i => ?_, h1⟩, hc.goes⟩
  show Rep w _ Λ (upd s.t k (.sl id (v + 1) 0 0 esz) i) _
  by_cases he : i = k
  · subst he
    rw [upd_same]
    have := hs.tmps i
    rw [hk] at this
    generalize a.tmps.getD i undef = x at this
    cases this
    exact .sl0 (upd_same _ _ _) rfl
  · rw [upd_other _ _ _ _ he]
    exact hc.rep (hs.tmps i)
theorem liesAt_from {e : TypeId} (hc : Try.prog.cellsOf e = 1) (count off m : Nat) (hm : off + m ≤ count) : liesAt Try.prog Try.prog.depth e count off e m = true := by
  have hd : Try.prog.depth = (2 * (Try.prog.types.size + Made.depth) + 1) + 1 := rfl
  rw [hd]
  simp only [liesAt, Bool.or_eq_true]
  left
  rw [hd]
  simp [rowAt, hc, hm, sameLayout, Nat.mod_one]
theorem run_unsafeString_at {w : World} (pt it ty e : TypeId) (hp : Try.prog.underlying pt = some (.pointer e)) (hc : Try.prog.cellsOf e = 1) (g off cells : Nat) (hsh : w.shape? g = some (e, cells)) (l : List UInt8) (h0 : l ≠ []) (hn : off + l.length ≤ cells) (h63 : l.length ≤ 9223372036854775807)
    (hcell : ∀ j x, l[j]? = some x → w.cell? ((⟨g, off, none⟩ : Addr).add j) = some (.int .u8 x.toNat)) :
    (Builtin.unsafeString_ #[pt, it] ty #[.pointer (some ⟨g, off, none⟩), .int .i64 l.length]).run Try.prog w = .ok (.string ⟨l.toArray⟩) (w.freeze ⟨g, off, none⟩ l.length) := by
  have hl : l.length ≠ 0 := by simpa using h0
  have hlb := Lib.run_loadBytes (P := Try.prog) w l ⟨g, off, none⟩ .empty hcell
  have hlies := liesAt_from hc (cells / Try.prog.cellsOf e) off l.length (by rw [hc]; simpa using hn)
  have hmax : IntKind.i64.max = 9223372036854775807 := rfl
  have h63' : ¬ (9223372036854775807 : Int) < (l.length : Int) := by omega
  have hneg : ¬ (l.length : Int) < 0 := by omega
  obtain ⟨m, hdef⟩ : ∃ m, Builtin.unsafeString_ #[pt, it] ty #[.pointer (some ⟨g, off, none⟩), .int .i64 l.length] = (do
      let k ← asInt (.int .i64 l.length)
      if k < 0 then runtimePanic (.error m)
      if k > IntKind.i64.max then unsupported (.unsafePointer "String: a length above the largest int")
      if k = 0 then pure (.string .empty)
      else if ← variablesAt ⟨g, off, none⟩ (← elemOf pt) k.toNat then do
        let r ← loadBytes ⟨g, off, none⟩ .empty k.toNat
        freeze ⟨g, off, none⟩ k.toNat
        pure (.string r)
      else unsupported (.unsafePointer "String: not so many bytes at ptr")) := ⟨_, rfl⟩
  rw [hdef]
  simp [asInt, asIntOf, hmax, h63', hneg, hl, variablesAt, hsh, elemOf, run_underlying hp, hlies, hlb]
theorem freeze_other {w : World} {g off k b : Nat} (h : b ≠ g) : (w.freeze ⟨g, off, none⟩ k).heap[b]? = w.heap[b]? := by
  unfold World.freeze
  split
  · rfl
  · simp only [Array.getElem?_modify]
    rw [if_neg (fun e => h e.symm)]
theorem freeze_size {w : World} {g off k : Nat} : (w.freeze ⟨g, off, none⟩ k).heap.size = w.heap.size := by
  unfold World.freeze
  split
  · rfl
  · simp
theorem Sim.rowT {w : World} {φ : PMap} {Λ : Lent} {a : Act} (hs : Sim n w φ Λ s a) {id T e v : Nat} {cells : List AV} (hob : s.h id = some (.grow (some T) cells e v)) (hp : 0 < cells.length) :
    ∃ l b oo arr lo hi, φ id = some l ∧ l.ver = v ∧ l.bo = some (b, oo) ∧ w.heap[b]? = some (.cells arr T (lo, hi)) ∧ oo + cells.length ≤ arr.size ∧ CellsRep w φ Λ arr oo cells := by
  obtain ⟨l, hl, h0, hor⟩ := hs.hs.heap id _ hob
  rcases hor with ⟨_, h⟩ | ⟨b, o, arr, T', lo, hi, g1, g2, g3, g4, g5⟩
  · rw [h] at hp; cases hp
  · exact ⟨l, b, o, arr, lo, hi, hl, h0, g1, g2, g4, g5⟩
theorem q_sliceData {x : Operand} {tys : Array TypeId} {id T v : Nat} {l : List UInt8} (ho : o.op = .call { callee := .builtin .unsafeSliceData, args := #[x], argTypes := tys } := by exact rfl)
    (hx : s.ev x = .sl id v 0 l.length 1 := by exact rfl) (hob : s.h id = some (.grow (some T) (cl bc l) 1 v) := by exact rfl) (hl : 0 < l.length := by assumption)
    (hdd : o.dst = d := by conv => lhs; whnf) (hd : d.all (Nat.blt · n) = true := by exact rfl) : OpOk Try.prog n o s (s.put d (.ptr id v 0)) :=
  .val hdd hd fun Λ w φ a hs => by
    obtain ⟨l1, b, oo, arr, lo, hi, g1, g2, g3, g4, g5, g6⟩ := hs.rowT hob (by rw [bs_length]; exact hl)
    have hr := hs.ev x
    rw [hx] at hr
    generalize hv : a.eval x = xv at hr
    generalize hm : l.length = m at hr hl
    cases hr with
    | slx e1 e2 => rw [g1] at e1; cases e1; omega
    | sl0 e1 e2 => omega
    | @sl _ _ _ _ _ _ b' o' cap arr' T' mk e1 e2 e3 e4 e5 e6 =>
      rw [g1] at e1
      cases e1
      refine ⟨.pointer (some ⟨b', o' + 0, none⟩), ?_, .ptr g1 g2 e3⟩
      have h := Lib.run_unsafeSliceData_row (P := Try.prog) w tys o.type ⟨b', o' + 0, none⟩ m cap (by omega)
      simp only [Nat.add_zero] at h
      simp [execOp, ho, resolve, invoke, builtin, hv, h]
theorem q_unsafeStr {x y : Operand} {pt it : TypeId} {id T v : Nat} {l : List UInt8} (ho : o.op = .call { callee := .builtin .unsafeString, args := #[x, y], argTypes := #[pt, it] } := by exact rfl) (hx : s.ev x = .ptr id v 0 := by exact rfl) (hy : s.ev y = i64 l.length := by exact rfl)
    (hob : s.h id = some (.grow (some T) (cl bc l) 1 v) := by exact rfl) (hl : 0 < l.length := by assumption) (hp : Try.prog.underlying pt = some (.pointer T) := by kernel_rfl) (hc : Try.prog.cellsOf T = 1 := by kernel_rfl) (h63 : l.length ≤ 9223372036854775807 := by omega)
    (hdd : o.dst = d := by conv => lhs; whnf) (hd : d.all (Nat.blt · n) = true := by exact rfl) :
    OpOk Try.prog n o s ((s.seth id (some (.grow (some T) (cl bc []) 1 (v + 1)))).put d (str l)) :=
  .chg hdd hd fun Λ w φ a hs => by
    obtain ⟨l1, b, oo, arr, lo, hi, g1, g2, g3, g4, g5, g6⟩ := hs.rowT hob (by rw [bs_length]; exact hl)
    rw [bs_length] at g5
    have hr := hs.ev x
    rw [hx] at hr
    generalize hv : a.eval x = xv at hr
    cases hr with
    | ptrx e1 e2 => rw [g1] at e1; cases e1; omega
    | ptr e1 e2 e3 =>
      rw [g1] at e1
      cases e1
      rw [g3] at e3
      cases e3
      have hcell : ∀ j x, l[j]? = some x → w.cell? ((⟨b, oo, none⟩ : Addr).add j) = some (.int .u8 x.toNat) := by
        intro j x hj
        obtain ⟨q, q1, q2⟩ := g6 j (u8 x.toNat) (by rw [bs_map, List.getElem?_map, hj]; rfl)
        cases q2
        rw [Addr.add_lit]
        simp [World.cell?, g4, q1]
      have hrun := run_unsafeString_at (w := w) pt it o.type T hp hc b oo arr.size (by simp [World.shape?, g4]) l (fun e => by rw [e] at hl; cases hl) g5 h63 hcell
      refine ⟨.value (.string ⟨l.toArray⟩), w.freeze ⟨b, oo, none⟩ l.length, ⟨none, v + 1⟩, ?_, ?_, ⟨rfl, .inl ⟨rfl, rfl⟩⟩, .string ⟨l.toArray⟩, .inl rfl, .v⟩
      · simp [execOp, ho, resolve, invoke, builtin, hv, ev_v hs hy, hrun]
      · refine ⟨hs.hs, by rw [freeze_size]; exact Nat.le_refl _, ?_, ?_, ?_, fun k hk hne => freeze_other (hne l1 b oo g1 g3), (fun b' o' hb' => by cases hb'), fun l2 hl2 => ?_, fun l2 hl2 he => ?_⟩
        · unfold World.freeze; split <;> rfl
        · unfold World.freeze; split <;> rfl
        · unfold World.freeze; split <;> rfl
        · rw [g1] at hl2; cases hl2; exact .inr (by show l1.ver < v + 1; omega)
        · rw [g1] at hl2; cases hl2; rw [← he] at g2; simp at g2
end
end Go.Proofs.Ytfojdjlhpejbpaa.Fw


set_option linter.unusedVariables false
set_option linter.unusedSimpArgs false
namespace Go.Proofs.Ytfojdjlhpejbpaa.Fw
open Go.RowKit
set_option maxRecDepth 20000 in
set_option maxHeartbeats 2000000 in
theorem c_cc0 (l : List UInt8) (v : Nat) : AC Try.prog 50 [.ptr 0 0 0] (hlook [(0, .gbox (some 51) [.v (.pointer none), .sl 1 (v) 0 (l).length 1]), (1, .grow (some 5) (cl bc (l)) 1 (v))]) (RetH (.tup []) [(0, .gbox (some 51) [.ptr 0 0 0, .sl 1 (v) 0 (l).length 1]), (1, .grow (some 5) (cl bc (l)) 1 (v))]) := by
 refine AC.intro te_ok (fn := Try.f50) ⟨Try.func50, rfl, rfl⟩ (Nat.le_of_ble_eq_true rfl) ?_
 refine AWp.seq ?_
 refine AWp.region ?_
 refine AOps.cons rfl rfl (q_move) ?_
 refine AOps.cons rfl rfl (q_nil) ?_
 refine AOps.cons rfl rfl (q_fa) ?_
 refine AOps.cons rfl rfl (q_load) ?_
 refine AOps.cons rfl rfl (q_pnil) ?_
 refine AOps.nil ?_
 refine AWp.cond_t rfl ?_
 refine AWp.region ?_
 refine AOps.cons rfl rfl (q_move) ?_
 refine AOps.cons rfl rfl (q_move) ?_
 refine AOps.cons rfl rfl (q_to_unsafe) ?_
 refine AOps.cons rfl rfl (q_noEscape Try.f51) ?_
 refine AOps.cons rfl rfl (q_from_unsafe) ?_
 refine AOps.cons rfl rfl (q_nil) ?_
 refine AOps.cons rfl rfl (q_fa) ?_
 refine AOps.cons rfl rfl (q_store) ?_
 refine AOps.nil ?_
 show Fin te Try.f50 _ _
 refine q_retH (0) [] [] [] [(_, _), (_, _)] ?_
 rfl
set_option maxRecDepth 20000 in
set_option maxHeartbeats 2000000 in
theorem c_cc1 (l : List UInt8) (v : Nat) : AC Try.prog 50 [.ptr 0 0 0] (hlook [(0, .gbox (some 51) [.ptr 0 0 0, .sl 1 (v) 0 (l).length 1]), (1, .grow (some 5) (cl bc (l)) 1 (v))]) (RetH (.tup []) [(0, .gbox (some 51) [.ptr 0 0 0, .sl 1 (v) 0 (l).length 1]), (1, .grow (some 5) (cl bc (l)) 1 (v))]) := by
 refine AC.intro te_ok (fn := Try.f50) ⟨Try.func50, rfl, rfl⟩ (Nat.le_of_ble_eq_true rfl) ?_
 refine AWp.seq ?_
 refine AWp.region ?_
 refine AOps.cons rfl rfl (q_move) ?_
 refine AOps.cons rfl rfl (q_nil) ?_
 refine AOps.cons rfl rfl (q_fa) ?_
 refine AOps.cons rfl rfl (q_load) ?_
 refine AOps.cons rfl rfl (q_pnil) ?_
 refine AOps.nil ?_
 refine AWp.cond_f rfl ?_
 refine AWp.seq ?_
 refine AWp.region ?_
 refine AOps.cons rfl rfl (q_move) ?_
 refine AOps.cons rfl rfl (q_nil) ?_
 refine AOps.cons rfl rfl (q_fa) ?_
 refine AOps.cons rfl rfl (q_load) ?_
 refine AOps.cons rfl rfl (q_move) ?_
 refine AOps.cons rfl rfl (q_neq_same) ?_
 refine AOps.nil ?_
 refine AWp.cond_f rfl ?_
 refine AWp.skip ?_
 show Fin te Try.f50 _ _
 refine q_retH (0) [] [] [] [(_, _), (_, _)] ?_
 rfl
theorem c_cc (m : Nat) (l : List UInt8) (v : Nat) : AC Try.prog 50 [.ptr 0 0 0] (hlook [(0, .gbox (some 51) [bp 0 m, .sl 1 (v) 0 (l).length 1]), (1, .grow (some 5) (cl bc (l)) 1 (v))]) (RetH (.tup []) [(0, .gbox (some 51) [.ptr 0 0 0, .sl 1 (v) 0 (l).length 1]), (1, .grow (some 5) (cl bc (l)) 1 (v))]) := by
  cases m with
  | zero => exact c_cc0 l v
  | succ m => exact c_cc1 l v
set_option maxRecDepth 20000 in
set_option maxHeartbeats 2000000 in
theorem c_WByte (l : List UInt8) (v : Nat) (c : UInt8) (h : l.length ≤ 100000000000) : AC Try.prog 45 [.ptr 0 0 0, u8 c.toNat] (hlook [(0, .gbox (some 51) [bp 0 l.length, .sl 1 (v) 0 (l).length 1]), (1, .grow (some 5) (cl bc (l)) 1 (v))]) (RetH (.v .nilIface) [(0, .gbox (some 51) [.ptr 0 0 0, .sl 1 (v + 1) 0 (l ++ [c]).length 1]), (1, .grow (some 5) (cl bc (l ++ [c])) 1 (v + 1))]) := by
 refine AC.intro te_ok (fn := Try.f45) ⟨Try.func45, rfl, rfl⟩ (Nat.le_of_ble_eq_true rfl) ?_
 refine AWp.seq ?_
 refine AWp.region ?_
 refine AOps.cons rfl rfl (q_assign) ?_
 refine AOps.nil ?_
 refine AWp.seq ?_
 refine AWp.region ?_
 refine AOps.cons rfl rfl (q_move) ?_
 refine AOps.cons rfl rfl (q_callB (0) [(0, 0), (1, 1)] [] [(_, _), (_, _)] (hobj := by repeat' (first | exact trivial | exact lv_ok rfl | exact lv_bp rfl rfl | exact lv_sl rfl rfl | exact lv_ptr rfl rfl | exact lv_any | exact lv_bpp rfl rfl (by simp) | exact lv_bpq rfl rfl (by omega) | refine ⟨rfl, ⟨_, rfl, ?_⟩, ?_⟩ | exact lobj_row (fun _ => rfl) | refine lobj_box ?_ | refine ⟨?_, ?_⟩)) (hc := (c_cc l.length l v))) ?_
 refine AOps.nil ?_
 refine AWp.seq ?_
 refine AWp.region ?_
 refine AOps.cons rfl rfl (q_move) ?_
 refine AOps.cons rfl rfl (q_move) ?_
 refine AOps.cons rfl rfl (q_nil) ?_
 refine AOps.cons rfl rfl (q_fa) ?_
 refine AOps.cons rfl rfl (q_load) ?_
 refine AOps.cons rfl rfl (q_move) ?_
 refine AOps.cons rfl rfl (q_bs 302 bc [c] [(_, _)]) ?_
 refine AOps.cons rfl rfl (q_app) ?_
 refine AOps.cons rfl rfl (q_nil) ?_
 refine AOps.cons rfl rfl (q_fa) ?_
 refine AOps.cons rfl rfl (q_store) ?_
 refine AOps.nil ?_
 refine AWp.seq ?_
 refine AWp.region ?_
 refine AOps.cons rfl rfl (q_assign) ?_
 refine AOps.nil ?_
 refine AWp.ret ?_
 show Fin te Try.f45 _ _
 refine q_retH (0) [] [_] [_] [(_, _), (_, _)] ?_
 rfl
set_option maxRecDepth 20000 in
set_option maxHeartbeats 2000000 in
theorem c_WStr (l : List UInt8) (v : Nat) (x : List UInt8) (h : l.length ≤ 100000000000) (hx : x.length ≤ 100000000000) : AC Try.prog 49 [.ptr 0 0 0, str x] (hlook [(0, .gbox (some 51) [bp 0 l.length, .sl 1 (v) 0 (l).length 1]), (1, .grow (some 5) (cl bc (l)) 1 (v))]) (RetH (.tup [i64 x.length, .v .nilIface]) [(0, .gbox (some 51) [.ptr 0 0 0, .sl 1 (v + 1) 0 (l ++ x).length 1]), (1, .grow (some 5) (cl bc (l ++ x)) 1 (v + 1))]) := by
 refine AC.intro te_ok (fn := Try.f49) ⟨Try.func49, rfl, rfl⟩ (Nat.le_of_ble_eq_true rfl) ?_
 refine AWp.seq ?_
 refine AWp.region ?_
 refine AOps.cons rfl rfl (q_assign) ?_
 refine AOps.cons rfl rfl (q_assign) ?_
 refine AOps.nil ?_
 refine AWp.seq ?_
 refine AWp.region ?_
 refine AOps.cons rfl rfl (q_move) ?_
 refine AOps.cons rfl rfl (q_callB (0) [(0, 0), (1, 1)] [] [(_, _), (_, _)] (hobj := by repeat' (first | exact trivial | exact lv_ok rfl | exact lv_bp rfl rfl | exact lv_sl rfl rfl | exact lv_ptr rfl rfl | exact lv_any | exact lv_bpp rfl rfl (by simp) | exact lv_bpq rfl rfl (by omega) | refine ⟨rfl, ⟨_, rfl, ?_⟩, ?_⟩ | exact lobj_row (fun _ => rfl) | refine lobj_box ?_ | refine ⟨?_, ?_⟩)) (hc := (c_cc l.length l v))) ?_
 refine AOps.nil ?_
 refine AWp.seq ?_
 refine AWp.region ?_
 refine AOps.cons rfl rfl (q_move) ?_
 refine AOps.cons rfl rfl (q_move) ?_
 refine AOps.cons rfl rfl (q_nil) ?_
 refine AOps.cons rfl rfl (q_fa) ?_
 refine AOps.cons rfl rfl (q_load) ?_
 refine AOps.cons rfl rfl (q_move) ?_
 refine AOps.cons rfl rfl (q_app) ?_
 refine AOps.cons rfl rfl (q_nil) ?_
 refine AOps.cons rfl rfl (q_fa) ?_
 refine AOps.cons rfl rfl (q_store) ?_
 refine AOps.nil ?_
 refine AWp.seq ?_
 refine AWp.region ?_
 refine AOps.cons rfl rfl (q_move) ?_
 refine AOps.cons rfl rfl (q_len_str) ?_
 refine AOps.cons rfl rfl (q_assign) ?_
 refine AOps.cons rfl rfl (q_assign) ?_
 refine AOps.nil ?_
 refine AWp.ret ?_
 show Fin te Try.f49 _ _
 refine q_retH (0) [] [_, _] [_, _] [(_, _), (_, _)] ?_
 rfl
set_option maxRecDepth 20000 in
set_option maxHeartbeats 2000000 in
theorem c_Wr (l : List UInt8) (v : Nat) (x : List UInt8) (lv : Nat) (h : l.length ≤ 100000000000) (hx : x.length ≤ 100000000000) : AC Try.prog 46 [.ptr 0 0 0, .fz lv x.length (cl bc x)] (hlook [(0, .gbox (some 51) [bp 0 l.length, .sl 1 (v) 0 (l).length 1]), (1, .grow (some 5) (cl bc (l)) 1 (v))]) (RetH (.tup [i64 x.length, .v .nilIface]) [(0, .gbox (some 51) [.ptr 0 0 0, .sl 1 (v + 1) 0 (l ++ x).length 1]), (1, .grow (some 5) (cl bc (l ++ x)) 1 (v + 1))]) := by
 refine AC.intro te_ok (fn := Try.f46) ⟨Try.func46, rfl, rfl⟩ (Nat.le_of_ble_eq_true rfl) ?_
 refine AWp.seq ?_
 refine AWp.region ?_
 refine AOps.cons rfl rfl (q_assign) ?_
 refine AOps.cons rfl rfl (q_assign) ?_
 refine AOps.nil ?_
 refine AWp.seq ?_
 refine AWp.region ?_
 refine AOps.cons rfl rfl (q_move) ?_
 refine AOps.cons rfl rfl (q_callB (0) [(0, 0), (1, 1)] [] [(_, _), (_, _)] (hobj := by repeat' (first | exact trivial | exact lv_ok rfl | exact lv_bp rfl rfl | exact lv_sl rfl rfl | exact lv_ptr rfl rfl | exact lv_any | exact lv_bpp rfl rfl (by simp) | exact lv_bpq rfl rfl (by omega) | refine ⟨rfl, ⟨_, rfl, ?_⟩, ?_⟩ | exact lobj_row (fun _ => rfl) | refine lobj_box ?_ | refine ⟨?_, ?_⟩)) (hc := (c_cc l.length l v))) ?_
 refine AOps.nil ?_
 refine AWp.seq ?_
 refine AWp.region ?_
 refine AOps.cons rfl rfl (q_move) ?_
 refine AOps.cons rfl rfl (q_move) ?_
 refine AOps.cons rfl rfl (q_nil) ?_
 refine AOps.cons rfl rfl (q_fa) ?_
 refine AOps.cons rfl rfl (q_load) ?_
 refine AOps.cons rfl rfl (q_move) ?_
 refine AOps.cons rfl rfl (q_app) ?_
 refine AOps.cons rfl rfl (q_nil) ?_
 refine AOps.cons rfl rfl (q_fa) ?_
 refine AOps.cons rfl rfl (q_store) ?_
 refine AOps.nil ?_
 refine AWp.seq ?_
 refine AWp.region ?_
 refine AOps.cons rfl rfl (q_move) ?_
 refine AOps.cons rfl rfl (q_len) ?_
 refine AOps.cons rfl rfl (q_assign) ?_
 refine AOps.cons rfl rfl (q_assign) ?_
 refine AOps.nil ?_
 refine AWp.ret ?_
 show Fin te Try.f46 _ _
 refine q_retH (0) [] [_, _] [_, _] [(_, _), (_, _)] ?_
 rfl
set_option maxRecDepth 20000 in
set_option maxHeartbeats 2000000 in
theorem c_BStr (l : List UInt8) (v : Nat) (h : l.length ≤ 100000000000) (h0 : 0 < l.length) : AC Try.prog 47 [.ptr 0 0 0] (hlook [(0, .gbox (some 51) [.ptr 0 0 0, .sl 1 (v) 0 (l).length 1]), (1, .grow (some 5) (cl bc (l)) 1 (v))]) (RetH (str l) [(0, .gbox (some 51) [.any, .any]), (1, .grow (some 5) (cl bc []) 1 (v + 1))]) := by
 refine AC.intro te_ok (fn := Try.f47) ⟨Try.func47, rfl, rfl⟩ (Nat.le_of_ble_eq_true rfl) ?_
 refine AWp.seq ?_
 refine AWp.region ?_
 refine AOps.cons rfl rfl (q_assign) ?_
 refine AOps.nil ?_
 refine AWp.seq ?_
 refine AWp.draws [⟨0, [0], [], some 3, _, []⟩,
     ⟨1, [3], [0], some 4, _, []⟩,
     ⟨2, [4], [0], some 5, _, []⟩,
     ⟨3, [5], [0], some 6, _, []⟩,
     ⟨4, [6], [1], some 7, _, []⟩,
     ⟨5, [0], [], some 8, _, []⟩,
     ⟨6, [8], [0], some 9, _, []⟩,
     ⟨7, [9], [0], some 10, _, []⟩,
     ⟨8, [10], [0], some 11, _, []⟩,
     ⟨9, [11], [1], some 12, _, []⟩,
     ⟨10, [7, 12], [1], some 13, _, [(1, _)]⟩,
     ⟨11, [13], [], some 2, _, []⟩]
  [⟨0, [0], [], some 3, .any, []⟩,
      ⟨1, [3], [0], some 4, .any, []⟩,
      ⟨2, [4], [0], some 5, .any, []⟩,
      ⟨3, [5], [0], some 6, .any, []⟩,
      ⟨4, [6], [1], some 7, .any, []⟩,
      ⟨5, [0], [], some 8, .any, []⟩,
      ⟨6, [8], [0], some 9, .any, []⟩,
      ⟨7, [9], [0], some 10, .any, []⟩,
      ⟨8, [10], [0], some 11, .any, []⟩,
      ⟨9, [11], [1], some 12, .any, []⟩,
      ⟨10, [7, 12], [1], some 13, .any, [(1, .box [])]⟩,
      ⟨11, [13], [], some 2, .any, []⟩]
  mixed_ok rfl (by kernel_rfl) ⟨DS.ok_over fun s0 => OpAt.go rfl rfl (q_move),
      DS.ok_over fun s0 => OpAt.go rfl rfl (q_nil),
      DS.ok_over fun s0 => OpAt.go rfl rfl (q_fa),
      DS.ok_over fun s0 => OpAt.go rfl rfl (q_load),
      DS.ok_over fun s0 => OpAt.go rfl rfl (q_sliceData),
      DS.ok_over fun s0 => OpAt.go rfl rfl (q_move),
      DS.ok_over fun s0 => OpAt.go rfl rfl (q_nil),
      DS.ok_over fun s0 => OpAt.go rfl rfl (q_fa),
      DS.ok_over fun s0 => OpAt.go rfl rfl (q_load),
      DS.ok_over fun s0 => OpAt.go rfl rfl (q_len),
      DS.ok_over fun s0 => OpAt.go rfl rfl (q_unsafeStr),
      DS.ok_over fun s0 => OpAt.go rfl rfl (q_assign), trivial⟩ ?_
 dsimp only [final, DS.upd, AS.seto]
 refine AWp.ret ?_
 show Fin te Try.f47 _ _
 refine q_retH (0) [] [_] [_] [(_, _), (_, _)] ?_ (hobj := by repeat' (first | exact trivial | exact lv_ok rfl | exact lv_sl rfl rfl | exact lv_rn rfl rfl .row rfl | exact lv_ptr rfl rfl | exact lv_mp rfl rfl | exact lv_nilz | exact lv_any | exact lv_row0 rfl rfl .row (fun _ => rfl) (Nat.le_of_ble_eq_true rfl) (fun _ => rfl) | exact lobj_row (fun _ => rfl) | exact lobj_rown (fun _ => rfl) | exact lobj_me (fun _ => rfl) | refine lobj_box ?_ | refine ⟨rfl, ⟨_, rfl, ?_⟩, ?_⟩ | refine ⟨?_, ?_⟩)) (h2 := by repeat' (first | exact trivial | exact lv_ok rfl | exact lv_ptr rfl rfl | exact lv_sl rfl rfl | exact lv_nilz | exact lv_row0 rfl rfl .row (fun _ => rfl) (Nat.le_of_ble_eq_true rfl) (fun _ => rfl) | refine lv_agg ?_ | exact lv_any | refine ⟨?_, ?_⟩))
 rfl
end Go.Proofs.Ytfojdjlhpejbpaa.Fw


set_option linter.unusedVariables false
set_option linter.unusedSimpArgs false
namespace Go.Proofs.Ytfojdjlhpejbpaa.Fw
open Go.RowKit
def joinB (ls : List (List UInt8)) : List UInt8 := ls.flatMap fun l => byte (l.length : Int) :: l
theorem joinB_step {ls : List (List UInt8)} {i : Nat} (h : i < ls.length) : joinB (ls.take (i + 1)) = joinB (ls.take i) ++ [byte ((ls.getD i default).length : Int)] ++ ls.getD i default := by
  rw [List.take_succ_eq_append_getElem h, joinB, List.flatMap_append, List.getD_eq_getElem?_getD, List.getElem?_eq_getElem h]; simp [joinB]
theorem joinB_le : ∀ (ls : List (List UInt8)) (i : Nat), (joinB (ls.take i)).length ≤ (joinB ls).length
  | [], i => by simp
  | l :: ls, 0 => by simp [joinB]
  | l :: ls, i + 1 => by
    have := joinB_le ls i
    simp only [joinB, List.take_succ_cons, List.flatMap_cons, List.length_append] at *
    omega
theorem lab_pos {n : List UInt8} (h : canN n = true) (h0 : ¬ n = [0]) : 0 < (labN n).length := by
  obtain ⟨ls, g, rfl, hl⟩ := canN_iff.1 h
  rw [labN_join g hl]
  cases ls with
  | nil => exact absurd rfl h0
  | cons l ls => simp
theorem joinB_len : ∀ (ls : List (List UInt8)), ls.length ≤ (joinB ls).length
  | [] => Nat.zero_le _
  | l :: ls => by
    have := joinB_len ls
    simp only [joinB, List.flatMap_cons, List.length_append, List.length_cons] at *
    omega
set_option maxRecDepth 20000 in
set_option maxHeartbeats 2000000 in
theorem c_join (l : List (List UInt8)) (lv : Nat) (h : (joinB l).length ≤ 10000000000) (hl : 0 < l.length) : AC Try.prog 41 [.fz lv l.length (cl sc l)] emp (Ret (str (joinN l))) := by
 have hll := joinB_len l
 refine AC.intro te_ok (fn := Try.f41) ⟨Try.func41, rfl, rfl⟩ (Nat.le_of_ble_eq_true rfl) ?_
 refine AWp.seq ?_
 refine AWp.region ?_
 refine AOps.cons rfl rfl (q_assign) ?_
 refine AOps.nil ?_
 refine AWp.seq ?_
 refine AWp.region ?_
 refine AOps.cons rfl rfl (q_allocT 200) ?_
 refine AOps.weak (Weak.nilcell (ty' := some 5) 200 9000 1 1 bc) ?_
 refine AOps.nil ?_
 refine AWp.seq ?_
 refine AWp.seq ?_
 refine AWp.region ?_
 refine AOps.cons rfl rfl (q_move) ?_
 refine AOps.cons rfl rfl (q_len) ?_
 refine AOps.cons rfl rfl (q_move) ?_
 refine AOps.nil ?_
 refine AWp.block ?_
 refine AWp.loopR (α := Nat × List UInt8 × Nat) [5, 8, 9, 10, 11, 12, 13, 14, 15, 16, 17, 18] (fun x_ => [(8, i64 (x_.1))]) (fun x_ => [(200, .gbox (some 51) [bp 200 ((x_.2.1)).length, .sl 9000 ((x_.2.2)) 0 ((x_.2.1)).length 1]), (9000, .grow (some 5) (cl bc ((x_.2.1))) 1 ((x_.2.2)))]) (fun x_ => (x_.1) ≤ l.length ∧ (x_.2.1) = joinB (l.take (x_.1)) ∧ (0 < (x_.1) → 0 < (x_.2.1).length)) (fun x_ => l.length - (x_.1)) (0, [], 0) ?_ (Back.mk' (HasT.cons HasT.nil) (HasH.cons (HasH.cons HasH.nil) (h1 := by first | rfl | exact ob_bp rfl (by first | (simp; done) | (simp; omega))) (h2 := by exact objIn_b rfl rfl) )) ?_
 ·
  exact ⟨Nat.zero_le _, rfl, fun h => absurd h (Nat.lt_irrefl 0)⟩
 ·
  rintro ⟨i, acc, v⟩ hI3
  change i ≤ l.length ∧ acc = joinB (l.take i) ∧ (0 < i → 0 < acc.length) at hI3
  obtain ⟨hi, ha, h0⟩ := hI3
  refine AWp.as (s' := AS.over _ [5, 8, 9, 10, 11, 12, 13, 14, 15, 16, 17, 18] [(8, i64 i)] [(200, .gbox (some 51) [bp 200 (acc).length, .sl 9000 (v) 0 (acc).length 1]), (9000, .grow (some 5) (cl bc (acc)) 1 (v))]) rfl ?_
  have hle := joinB_le l i
  rw [← ha] at hle
  refine AWp.seq ?_
  refine AWp.region ?_
  refine AOps.dec rfl rfl (q_lss) (fun h3_0 => ?_) (fun h3_0 => ?_)
  ·
   refine AOps.nil ?_
   refine AWp.seq ?_
   refine AWp.cond_t rfl ?_
   refine AWp.skip ?_
   refine AWp.seq ?_
   refine AWp.block ?_
   refine AWp.seq ?_
   refine AWp.region ?_
   refine AOps.cons rfl rfl (q_ix) ?_
   refine AOps.cons rfl rfl (q_load) ?_
   refine AOps.cons rfl rfl (q_assign) ?_
   refine AOps.nil ?_
   refine AWp.seq ?_
   refine AWp.region ?_
   have hle2 := joinB_le l (i + 1)
   rw [joinB_step (by omega), List.length_append, List.length_append, List.length_singleton] at hle2
   refine AOps.cons rfl rfl (q_move) ?_
   refine AOps.cons rfl rfl (q_len_str) ?_
   refine AOps.cons rfl rfl (q_conv_u8) ?_
   refine AOps.cons rfl rfl (q_callB (lv) [(0, 200), (1, 9000)] [] [(_, _), (_, _)] (hobj := by repeat' (first | exact trivial | exact lv_ok rfl | exact lv_bp rfl rfl | exact lv_sl rfl rfl | exact lv_ptr rfl rfl | exact lv_any | exact lv_bpp rfl rfl (by simp) | exact lv_bpq rfl rfl (by omega) | refine ⟨rfl, ⟨_, rfl, ?_⟩, ?_⟩ | exact lobj_row (fun _ => rfl) | refine lobj_box ?_ | refine ⟨?_, ?_⟩)) (hc := (c_WByte acc v (byte ((l.getD i default).length : Int)) (by omega)))) ?_
   refine AOps.nil ?_
   refine AWp.region ?_
   refine AOps.cons rfl rfl (q_move) ?_
   refine AOps.cons rfl rfl (q_callB (lv) [(0, 200), (1, 9000)] [] [(_, _), (_, _)] (hobj := by repeat' (first | exact trivial | exact lv_ok rfl | exact lv_bp rfl rfl | exact lv_sl rfl rfl | exact lv_ptr rfl rfl | exact lv_any | exact lv_bpp rfl rfl (by simp) | exact lv_bpq rfl rfl (by omega) | refine ⟨rfl, ⟨_, rfl, ?_⟩, ?_⟩ | exact lobj_row (fun _ => rfl) | refine lobj_box ?_ | refine ⟨?_, ?_⟩)) (hc := (c_WStr (acc ++ [byte ((l.getD i default).length : Int)]) (v + 1) (l.getD i default) (by simp; omega) (by omega)))) ?_
   refine AOps.nil ?_
   refine AWp.region ?_
   refine AOps.cons rfl rfl (q_add) ?_
   refine AOps.cons rfl rfl (q_move) ?_
   refine AOps.nil ?_
   refine ⟨(i + 1, _, _), ?_, Back.mk' (HasT.cons HasT.nil) (HasH.cons (HasH.cons HasH.nil) (h1 := by first | rfl | exact ob_bp rfl (by first | (simp; done) | (simp; omega))) (h2 := by exact objIn_b rfl rfl) ), ?_⟩
   ·
    try dsimp only
    exact ⟨by omega, by rw [joinB_step (by omega), ← ha], fun _ => by simp; omega⟩
   ·
    try dsimp only
    first | omega | (simp; omega)
  ·
   refine AOps.nil ?_
   refine AWp.seq ?_
   refine AWp.cond_f rfl ?_
   refine AWp.exit ?_
   refine AWp.seq ?_
   refine AWp.region ?_
   have hacc : 0 < acc.length := h0 (by omega)
   refine AOps.cons rfl rfl (q_callB (lv) [(0, 200), (1, 9000)] [] [(_, _), (_, _)] (hobj := by repeat' (first | exact trivial | exact lv_ok rfl | exact lv_bp rfl rfl | exact lv_sl rfl rfl | exact lv_ptr rfl rfl | exact lv_any | exact lv_bpp rfl rfl (by simp) | exact lv_bpq rfl rfl (by omega) | refine ⟨rfl, ⟨_, rfl, ?_⟩, ?_⟩ | exact lobj_row (fun _ => rfl) | refine lobj_box ?_ | refine ⟨?_, ?_⟩)) (hc := (c_BStr acc v (by omega) hacc))) ?_
   refine AOps.cons rfl rfl (q_sadd (h := by simp; omega)) ?_
   refine AOps.cons rfl rfl (q_assign) ?_
   refine AOps.nil ?_
   refine AWp.ret ?_
   show Fin te Try.f41 _ _
   refine q_ret (0) [_] [_] ?_
   exact congrArg str (by rw [ha]; obtain rfl : i = l.length := by omega
                          rw [List.take_length]; rfl)
set_option maxRecDepth 20000 in
set_option maxHeartbeats 2000000 in
theorem c_Text (n : List UInt8) (h : n.length ≤ 1073741824) : AC Try.prog 30 [str n] emp (Ret (str (txtN n))) := by
 refine AC.intro te_ok (fn := Try.f30) ⟨Try.func30, rfl, rfl⟩ (Nat.le_of_ble_eq_true rfl) ?_
 refine AWp.seq ?_
 refine AWp.region ?_
 refine AOps.cons rfl rfl (q_assign) ?_
 refine AOps.nil ?_
 refine AWp.seq ?_
 refine AWp.block ?_
 refine AWp.seq ?_
 refine AWp.region ?_
 refine AOps.cons rfl rfl (q_move) ?_
 refine AOps.bool rfl rfl (q_call (0) (hc := c_name_Can _ (by first | assumption | omega | decide | (simp; omega) | (simp [*]; done)))) (fun h1_1 => ?_) (fun h1_1 => ?_)
 ·
  refine AOps.cons rfl rfl (q_not) ?_
  refine AOps.cons rfl rfl (q_assign) ?_
  refine AOps.nil ?_
  refine AWp.cond_f rfl ?_
  refine AWp.seq ?_
  refine AWp.region ?_
  refine AOps.cons rfl rfl (q_move) ?_
  refine AOps.dec rfl rfl (q_seql) (fun h3_1 => ?_) (fun h3_1 => ?_)
  ·
   refine AOps.cons rfl rfl (q_assign) ?_
   refine AOps.nil ?_
   refine AWp.cond_t rfl ?_
   refine AWp.seq ?_
   refine AWp.region ?_
   refine AOps.cons rfl rfl (q_assign) ?_
   refine AOps.nil ?_
   refine AWp.ret ?_
   show Fin te Try.f30 _ _
   refine q_ret (0) [_] [_] ?_
   rw [txtN, if_pos h1_1, if_pos h3_1]; rfl
  ·
   refine AOps.cons rfl rfl (q_assign) ?_
   refine AOps.nil ?_
   refine AWp.cond_f rfl ?_
   refine AWp.skip ?_
   refine AWp.seq ?_
   refine AWp.region ?_
   refine AOps.cons rfl rfl (q_allocT 600) ?_
   refine AOps.weak (Weak.nilcell (ty' := some 5) 600 9000 1 1 bc) ?_
   refine AOps.nil ?_
   refine AWp.seq ?_
   refine AWp.seq ?_
   refine AWp.region ?_
   have hln := labN_len n
   refine AOps.cons rfl rfl (q_move) ?_
   refine AOps.cons rfl rfl (q_callB (0) [] [(8, 7018)] [(_, _)] (hc := co_labels _ (by first | assumption | omega | decide | (simp; omega) | (simp [*]; done)))) ?_
   refine AOps.cons rfl rfl (q_len) ?_
   refine AOps.cons rfl rfl (q_move) ?_
   refine AOps.nil ?_
   refine AWp.block ?_
   refine AWp.loopR (α := Nat × List UInt8 × Nat) [5, 7, 18, 19, 20, 21, 22, 23, 24, 25, 26, 27, 28, 29, 30, 31, 32, 33, 34, 35, 36, 37, 38, 39, 40, 41, 42, 43, 44, 45, 46, 47] (fun x_ => [(18, i64 (x_.1))]) (fun x_ => [(600, .gbox (some 51) [bp 600 ((x_.2.1)).length, .sl 9000 ((x_.2.2)) 0 ((x_.2.1)).length 1]), (9000, .grow (some 5) (cl bc ((x_.2.1))) 1 ((x_.2.2)))]) (fun x_ => (x_.1) ≤ (labN n).length ∧ ((x_.2.1) = ((labN n).take (x_.1)).flatMap fun l => escL l ++ [46]) ∧ (x_.2.1).length ≤ 2000 * (x_.1) ∧ (0 < (x_.1) → 0 < (x_.2.1).length)) (fun x_ => (labN n).length - (x_.1)) (0, [], 0) ?_ (Back.mk' (HasT.cons HasT.nil) (HasH.cons (HasH.cons HasH.nil) (h1 := by first | rfl | exact ob_bp rfl (by first | (simp; done) | (simp; omega))) (h2 := by exact objIn_b rfl rfl) )) ?_
   ·
    exact ⟨Nat.zero_le _, rfl, Nat.zero_le _, fun h => absurd h (Nat.lt_irrefl 0)⟩
   ·
    rintro ⟨i, s, v⟩ hI7
    change i ≤ (labN n).length ∧ (s = ((labN n).take i).flatMap fun l => escL l ++ [46]) ∧ s.length ≤ 2000 * i ∧ (0 < i → 0 < s.length) at hI7
    obtain ⟨hi, hs, hsl, h0⟩ := hI7
    refine AWp.as (s' := AS.over _ [5, 7, 18, 19, 20, 21, 22, 23, 24, 25, 26, 27, 28, 29, 30, 31, 32, 33, 34, 35, 36, 37, 38, 39, 40, 41, 42, 43, 44, 45, 46, 47] [(18, i64 i)] [(600, .gbox (some 51) [bp 600 (s).length, .sl 9000 (v) 0 (s).length 1]), (9000, .grow (some 5) (cl bc (s)) 1 (v))]) rfl ?_
    refine AWp.seq ?_
    refine AWp.region ?_
    refine AOps.dec rfl rfl (q_lss) (fun h7_0 => ?_) (fun h7_0 => ?_)
    ·
     refine AOps.nil ?_
     refine AWp.seq ?_
     refine AWp.cond_t rfl ?_
     refine AWp.skip ?_
     refine AWp.seq ?_
     refine AWp.block ?_
     refine AWp.seq ?_
     refine AWp.region ?_
     refine AOps.cons rfl rfl (q_ix) ?_
     refine AOps.cons rfl rfl (q_load) ?_
     refine AOps.cons rfl rfl (q_assign) ?_
     refine AOps.nil ?_
     refine AWp.seq ?_
     refine AWp.seq ?_
     refine AWp.region ?_
     have hll : ((labN n).getD i default).length ≤ 255 := lab_le (getD_mem (by omega))
     refine AOps.cons rfl rfl (q_move) ?_
     refine AOps.cons rfl rfl (q_conv_sl 1001) ?_
     refine AOps.cons rfl rfl (q_len) ?_
     refine AOps.cons rfl rfl (q_move) ?_
     refine AOps.nil ?_
     refine AWp.block ?_
     refine AWp.loopR (α := Nat × List UInt8 × Nat) [7, 25, 26, 27, 28, 29, 30, 31, 32, 33, 34, 35, 36, 37, 38, 39, 40, 41, 42, 43, 44, 45] (fun x_ => [(25, i64 (x_.1))]) (fun x_ => [(600, .gbox (some 51) [bp 600 ((x_.2.1)).length, .sl 9000 ((x_.2.2)) 0 ((x_.2.1)).length 1]), (9000, .grow (some 5) (cl bc ((x_.2.1))) 1 ((x_.2.2)))]) (fun x_ => (x_.1) ≤ ((labN n).getD i default).length ∧ (x_.2.1) = s ++ escL (((labN n).getD i default).take (x_.1))) (fun x_ => ((labN n).getD i default).length - (x_.1)) (0, _, _) ?_ (Back.mk' (HasT.cons HasT.nil) (HasH.cons (HasH.cons HasH.nil) (h1 := by rfl) (h2 := by exact objIn_b rfl rfl) )) ?_
     ·
      exact ⟨Nat.zero_le _, by simp [escL]⟩
     ·
      rintro ⟨j, s2, w⟩ hI10
      change j ≤ ((labN n).getD i default).length ∧ s2 = s ++ escL (((labN n).getD i default).take j) at hI10
      obtain ⟨hj, hs2⟩ := hI10
      refine AWp.as (s' := AS.over _ [7, 25, 26, 27, 28, 29, 30, 31, 32, 33, 34, 35, 36, 37, 38, 39, 40, 41, 42, 43, 44, 45] [(25, i64 j)] [(600, .gbox (some 51) [bp 600 (s2).length, .sl 9000 (w) 0 (s2).length 1]), (9000, .grow (some 5) (cl bc (s2)) 1 (w))]) rfl ?_
      have hel := escL_len (((labN n).getD i default).take j)
      have h2l := congrArg List.length hs2
      rw [List.length_append] at h2l
      have htl : (((labN n).getD i default).take j).length = j := by rw [List.length_take]; omega
      refine AWp.seq ?_
      refine AWp.region ?_
      refine AOps.dec rfl rfl (q_lss) (fun h10_0 => ?_) (fun h10_0 => ?_)
      ·
       refine AOps.nil ?_
       refine AWp.seq ?_
       refine AWp.cond_t rfl ?_
       refine AWp.skip ?_
       refine AWp.seq ?_
       refine AWp.block ?_
       refine AWp.seq ?_
       refine AWp.region ?_
       have h10 : j < ((labN n).getD i default).length := Int.ofNat_lt.1 h10_0
       refine AOps.cons rfl rfl (q_ix) ?_
       refine AOps.cons rfl rfl (q_load) ?_
       refine AOps.cons rfl rfl (q_assign) ?_
       refine AOps.nil ?_
       refine AWp.seq ?_
       refine AWp.seq ?_
       refine AWp.region ?_
       refine AOps.cons rfl rfl (q_move) ?_
       refine AOps.bool rfl rfl (q_call (0) (hc := (c_name_plain (((labN n).getD i default).getD (j : Int).toNat default)))) (fun h12_1 => ?_) (fun h12_1 => ?_)
       ·
        refine AOps.nil ?_
        refine AWp.cond_t rfl ?_
        refine AWp.seq ?_
        refine AWp.region ?_
        refine AOps.cons rfl rfl (q_move) ?_
        refine AOps.cons rfl rfl (q_callB (0) [(0, 600), (1, 9000)] [] [(_, _), (_, _)] (hobj := by repeat' (first | exact trivial | exact lv_ok rfl | exact lv_bp rfl rfl | exact lv_sl rfl rfl | exact lv_ptr rfl rfl | exact lv_any | exact lv_bpp rfl rfl (by simp) | exact lv_bpq rfl rfl (by omega) | refine ⟨rfl, ⟨_, rfl, ?_⟩, ?_⟩ | exact lobj_row (fun _ => rfl) | refine lobj_box ?_ | refine ⟨?_, ?_⟩)) (hc := (c_WByte s2 w (((labN n).getD i default).getD (j : Int).toNat default) (by omega)))) ?_
        refine AOps.nil ?_
        refine AWp.exit ?_
        refine AWp.region ?_
        refine AOps.cons rfl rfl (q_add) ?_
        refine AOps.cons rfl rfl (q_move) ?_
        refine AOps.nil ?_
        refine ⟨(j + 1, _, _), ?_, Back.mk' (HasT.cons HasT.nil) (HasH.cons (HasH.cons HasH.nil) (h1 := by first | rfl | exact ob_bp rfl (by first | (simp; done) | (simp; omega))) (h2 := by exact objIn_b rfl rfl) ), ?_⟩
        ·
         try dsimp only
         have h13 : plB (((labN n).getD i default).getD j default) = true := h12_1
         refine ⟨by omega, ?_⟩
         rw [escL_step (by omega), ← List.append_assoc, ← hs2, escB_yes h13]
         rfl
        ·
         try dsimp only
         first | omega | (simp; omega)
       ·
        refine AOps.nil ?_
        refine AWp.cond_f rfl ?_
        refine AWp.skip ?_
        refine AWp.region ?_
        refine AOps.cons rfl rfl (q_move) ?_
        refine AOps.cons rfl rfl (q_quo8 (((labN n).getD i default).getD (j : Int).toNat default) 100) ?_
        refine AOps.cons rfl rfl (q_add8 48 ((((labN n).getD i default).getD (j : Int).toNat default) / 100)) ?_
        refine AOps.cons rfl rfl (q_move) ?_
        refine AOps.cons rfl rfl (q_quo8 (((labN n).getD i default).getD (j : Int).toNat default) 10) ?_
        refine AOps.cons rfl rfl (q_rem8 ((((labN n).getD i default).getD (j : Int).toNat default) / 10) 10) ?_
        refine AOps.cons rfl rfl (q_add8 48 ((((labN n).getD i default).getD (j : Int).toNat default) / 10 % 10)) ?_
        refine AOps.cons rfl rfl (q_move) ?_
        refine AOps.cons rfl rfl (q_rem8 (((labN n).getD i default).getD (j : Int).toNat default) 10) ?_
        refine AOps.cons rfl rfl (q_add8 48 ((((labN n).getD i default).getD (j : Int).toNat default) % 10)) ?_
        refine AOps.cons rfl rfl (q_bs 1510 bc [92, 48 + (((labN n).getD i default).getD (j : Int).toNat default) / 100, 48 + (((labN n).getD i default).getD (j : Int).toNat default) / 10 % 10, 48 + (((labN n).getD i default).getD (j : Int).toNat default) % 10] [(_, _), (_, _), (_, _), (_, _)]) ?_
        refine AOps.cons rfl rfl (q_callB (0) [(0, 600), (1, 9000)] [] [(_, _), (_, _)] (hobj := by repeat' (first | exact trivial | exact lv_ok rfl | exact lv_bp rfl rfl | exact lv_sl rfl rfl | exact lv_ptr rfl rfl | exact lv_any | exact lv_bpp rfl rfl (by simp) | exact lv_bpq rfl rfl (by omega) | refine ⟨rfl, ⟨_, rfl, ?_⟩, ?_⟩ | exact lobj_row (fun _ => rfl) | refine lobj_box ?_ | refine ⟨?_, ?_⟩)) (hc := (c_Wr s2 w [92, 48 + (((labN n).getD i default).getD (j : Int).toNat default) / 100, 48 + (((labN n).getD i default).getD (j : Int).toNat default) / 10 % 10, 48 + (((labN n).getD i default).getD (j : Int).toNat default) % 10] 1 (by omega) (by simp)))) ?_
        refine AOps.nil ?_
        refine AWp.region ?_
        refine AOps.cons rfl rfl (q_add) ?_
        refine AOps.cons rfl rfl (q_move) ?_
        refine AOps.nil ?_
        refine ⟨(j + 1, _, _), ?_, Back.mk' (HasT.cons HasT.nil) (HasH.cons (HasH.cons HasH.nil) (h1 := by first | rfl | exact ob_bp rfl (by first | (simp; done) | (simp; omega))) (h2 := by exact objIn_b rfl rfl) ), ?_⟩
        ·
         try dsimp only
         have h13 : plB (((labN n).getD i default).getD j default) = false := h12_1
         refine ⟨by omega, ?_⟩
         rw [escL_step h10, escB_no h13, hs2, List.append_assoc]
         rfl
        ·
         try dsimp only
         first | omega | (simp; omega)
      ·
       refine AOps.nil ?_
       refine AWp.seq ?_
       refine AWp.cond_f rfl ?_
       refine AWp.exit ?_
       refine AWp.region ?_
       refine AOps.cons rfl rfl (q_callB (0) [(0, 600), (1, 9000)] [] [(_, _), (_, _)] (hobj := by repeat' (first | exact trivial | exact lv_ok rfl | exact lv_bp rfl rfl | exact lv_sl rfl rfl | exact lv_ptr rfl rfl | exact lv_any | exact lv_bpp rfl rfl (by simp) | exact lv_bpq rfl rfl (by omega) | refine ⟨rfl, ⟨_, rfl, ?_⟩, ?_⟩ | exact lobj_row (fun _ => rfl) | refine lobj_box ?_ | refine ⟨?_, ?_⟩)) (hc := (c_WByte s2 w 46 (by omega)))) ?_
       refine AOps.nil ?_
       refine AWp.region ?_
       refine AOps.cons rfl rfl (q_add) ?_
       refine AOps.cons rfl rfl (q_move) ?_
       refine AOps.nil ?_
       have h10 : ¬ j < ((labN n).getD i default).length := fun h => h10_0 (Int.ofNat_lt.2 h)
       obtain rfl : j = ((labN n).getD i default).length := by omega
       rw [List.take_length] at hs2
       refine ⟨(i + 1, _, _), ?_, Back.mk' (HasT.cons HasT.nil) (HasH.cons (HasH.cons HasH.nil) (h1 := by first | rfl | exact ob_bp rfl (by first | (simp; done) | (simp; omega))) (h2 := by exact objIn_b rfl rfl) ), ?_⟩
       ·
        try dsimp only
        exact ⟨by omega, by rw [txt_step (by omega), ← List.append_assoc, ← hs, ← hs2], by rw [List.length_append]; simp; omega, fun _ => by simp⟩
       ·
        try dsimp only
        first | omega | (simp; omega)
    ·
     refine AOps.nil ?_
     refine AWp.seq ?_
     refine AWp.cond_f rfl ?_
     refine AWp.exit ?_
     refine AWp.seq ?_
     refine AWp.region ?_
     have hlp := lab_pos h1_1 h3_1
     have hsp : 0 < s.length := h0 (by omega)
     refine AOps.cons rfl rfl (q_callB (0) [(0, 600), (1, 9000)] [] [(_, _), (_, _)] (hobj := by repeat' (first | exact trivial | exact lv_ok rfl | exact lv_bp rfl rfl | exact lv_sl rfl rfl | exact lv_ptr rfl rfl | exact lv_any | exact lv_bpp rfl rfl (by simp) | exact lv_bpq rfl rfl (by omega) | refine ⟨rfl, ⟨_, rfl, ?_⟩, ?_⟩ | exact lobj_row (fun _ => rfl) | refine lobj_box ?_ | refine ⟨?_, ?_⟩)) (hc := (c_BStr s v (by omega) hsp))) ?_
     refine AOps.cons rfl rfl (q_assign) ?_
     refine AOps.nil ?_
     refine AWp.ret ?_
     show Fin te Try.f30 _ _
     refine q_ret (0) [_] [_] ?_
     obtain rfl : i = (labN n).length := by omega
     rw [List.take_length] at hs
     rw [txtN, if_pos h1_1, if_neg h3_1, hs]; rfl
 ·
  refine AOps.cons rfl rfl (q_not) ?_
  refine AOps.cons rfl rfl (q_assign) ?_
  refine AOps.nil ?_
  refine AWp.cond_t rfl ?_
  refine AWp.seq ?_
  refine AWp.region ?_
  refine AOps.cons rfl rfl (q_assign) ?_
  refine AOps.nil ?_
  refine AWp.ret ?_
  show Fin te Try.f30 _ _
  refine q_ret (0) [_] [_] ?_
  rw [txtN, if_neg (by simp [h1_1])]; rfl
end Go.Proofs.Ytfojdjlhpejbpaa.Fw


set_option linter.unusedVariables false
set_option linter.unusedSimpArgs false
namespace Go.Proofs.Ytfojdjlhpejbpaa.Fw
open Go.RowKit
end Go.Proofs.Ytfojdjlhpejbpaa.Fw


set_option linter.unusedVariables false
set_option linter.unusedSimpArgs false
namespace Go.Proofs.Ytfojdjlhpejbpaa.Fw
open Go.RowKit
theorem pl46 {c : UInt8} (h : c.toNat = 46) : plB c = false := by unfold plB; exact decide_eq_false (by omega)
theorem joinB_sum : ∀ ls : List (List UInt8), (joinB ls).length = (ls.map List.length).sum + ls.length
  | [] => rfl
  | l :: ls => by
    have := joinB_sum ls
    simp only [joinB, List.flatMap_cons, List.length_append, List.length_cons, List.map_cons, List.sum_cons] at *
    omega
theorem joinN_B (ls : List (List UInt8)) : joinN ls = joinB ls ++ [0] := rfl
theorem one_lt {s : List UInt8} (h : 0 < s.length) (h2 : (oneV s).2.2 = true) : (oneV s).2.1.length < s.length := by
  unfold oneV at h2 ⊢
  split
  · simp; omega
  · rename_i h3
    rw [if_neg h3] at h2
    split
    · rename_i h4; simp; omega
    · rename_i h4; rw [if_neg h4] at h2; cases h2
set_option maxRecDepth 20000 in
set_option maxHeartbeats 2000000 in
theorem c_Parse (s : List UInt8) (h : s.length ≤ 1073741824) : AC Try.prog 27 [str s] emp (Ret (.tup [str (parO s).1, i64 (parO s).2])) := by
 refine AC.intro te_ok (fn := Try.f27) ⟨Try.func27, rfl, rfl⟩ (Nat.le_of_ble_eq_true rfl) ?_
 refine AWp.seq ?_
 refine AWp.region ?_
 refine AOps.cons rfl rfl (q_assign) ?_
 refine AOps.cons rfl rfl (q_assign) ?_
 refine AOps.nil ?_
 refine AWp.seq ?_
 refine AWp.seq ?_
 refine AWp.region ?_
 refine AOps.cons rfl rfl (q_move) ?_
 refine AOps.dec rfl rfl (q_seql) (fun h1_1 => ?_) (fun h1_1 => ?_)
 ·
  refine AOps.nil ?_
  refine AWp.cond_t rfl ?_
  refine AWp.seq ?_
  refine AWp.region ?_
  refine AOps.cons rfl rfl (q_assign) ?_
  refine AOps.cons rfl rfl (q_assign) ?_
  refine AOps.nil ?_
  refine AWp.ret ?_
  show Fin te Try.f27 _ _
  refine q_ret (0) [_, _] [_, _] ?_
  rw [par_dot h1_1]; rfl
 ·
  refine AOps.nil ?_
  refine AWp.cond_f rfl ?_
  refine AWp.skip ?_
  refine AWp.seq ?_
  refine AWp.region ?_
  refine AOps.cons rfl rfl (q_nilrow 400 1 sc) ?_
  refine AOps.nil ?_
  refine AWp.seq ?_
  refine AWp.region ?_
  refine AOps.cons rfl rfl (q_nilrow 500 1 bc) ?_
  refine AOps.nil ?_
  refine AWp.seq ?_
  refine AWp.block ?_
  refine AWp.loopR (α := List UInt8 × List (List UInt8) × List UInt8 × Nat × Nat) [0, 2, 3, 4, 5, 6, 7, 8, 12, 13, 14, 15, 16, 17, 18, 19, 20, 21, 22, 23, 24, 25, 26, 27, 28, 29, 30, 31, 32, 33, 34, 35, 36, 37, 38, 39, 40, 41, 42, 43, 44] (fun x_ => [(0, str (x_.1)), (4, .sl 400 (x_.2.2.2.1) 0 (x_.2.1).length 1), (5, .sl 500 (x_.2.2.2.2) 0 (x_.2.2.1).length 1)]) (fun x_ => [(400, .row (cl sc (x_.2.1)) 1 (x_.2.2.2.1)), (500, .row (cl bc (x_.2.2.1)) 1 (x_.2.2.2.2))]) (fun x_ => prs (x_.1) (x_.2.1) (x_.2.2.1) = prs s [] [] ∧ ((x_.2.1).map List.length).sum + (x_.2.1).length + (x_.2.2.1).length + (x_.1).length ≤ s.length) (fun x_ => (x_.1).length) (s, [], [], 0, 0) ?_ (Back.mk' (HasT.cons (HasT.cons (HasT.cons HasT.nil))) (HasH.cons (HasH.cons HasH.nil))) ?_
  ·
   exact ⟨rfl, by simp⟩
  ·
   rintro ⟨r, l, lab, v, w⟩ hI5
   change prs r l lab = prs s [] [] ∧ (l.map List.length).sum + l.length + lab.length + r.length ≤ s.length at hI5
   obtain ⟨hE, hsz⟩ := hI5
   refine AWp.as (s' := AS.over _ [0, 2, 3, 4, 5, 6, 7, 8, 12, 13, 14, 15, 16, 17, 18, 19, 20, 21, 22, 23, 24, 25, 26, 27, 28, 29, 30, 31, 32, 33, 34, 35, 36, 37, 38, 39, 40, 41, 42, 43, 44] [(0, str r), (4, .sl 400 v 0 l.length 1), (5, .sl 500 w 0 lab.length 1)] [(400, .row (cl sc l) 1 v), (500, .row (cl bc lab) 1 w)]) rfl ?_
   refine AWp.seq ?_
   refine AWp.seq ?_
   refine AWp.region ?_
   refine AOps.cons rfl rfl (q_move) ?_
   refine AOps.dec rfl rfl (q_sneq) (fun h5_1 => ?_) (fun h5_1 => ?_)
   ·
    refine AOps.nil ?_
    refine AWp.cond_t rfl ?_
    refine AWp.skip ?_
    refine AWp.block ?_
    refine AWp.seq ?_
    refine AWp.seq ?_
    refine AWp.region ?_
    have h0 : 0 < r.length := List.length_pos_iff.2 h5_1
    refine AOps.cons rfl rfl (q_move) ?_
    refine AOps.cons rfl rfl (q_ixs) ?_
    refine AOps.dec rfl rfl (q_eql) (fun h6_2 => ?_) (fun h6_2 => ?_)
    ·
     refine AOps.nil ?_
     refine AWp.cond_t rfl ?_
     refine AWp.seq ?_
     refine AWp.seq ?_
     refine AWp.region ?_
     have h46 : (r.getD 0 default).toNat = 46 := by have e : ((r.getD 0 default).toNat : Int) = 46 := h6_2; omega
     have hpl := pl46 h46
     refine AOps.cons rfl rfl (q_move) ?_
     refine AOps.cons rfl rfl (q_len) ?_
     refine AOps.dec rfl rfl (q_eql) (fun h7_2 => ?_) (fun h7_2 => ?_)
     ·
      refine AOps.cons rfl rfl (q_move) ?_
      refine AOps.gskip rfl rfl rfl rfl rfl rfl rfl rfl ?_
      refine AOps.gskip rfl rfl rfl rfl rfl rfl rfl rfl ?_
      refine AOps.gskip rfl rfl rfl rfl rfl rfl rfl rfl ?_
      refine AOps.cons rfl rfl (q_pick) ?_
      refine AOps.nil ?_
      refine AWp.cond_t rfl ?_
      refine AWp.seq ?_
      refine AWp.region ?_
      refine AOps.cons rfl rfl (q_assign) ?_
      refine AOps.cons rfl rfl (q_assign) ?_
      refine AOps.nil ?_
      refine AWp.ret ?_
      show Fin te Try.f27 _ _
      refine q_ret (0) [_, _] [_, _] ?_
      have hx : prs r l lab = none := prs_dotx (k := 0) h0 hpl h46 (by omega)
      rw [par_none h1_1 (hE.symm.trans hx)]; rfl
     ·
      refine AOps.cons rfl rfl (q_move) ?_
      refine AOps.gcons rfl rfl rfl rfl rfl (q_move) ?_
      refine AOps.gcons rfl rfl rfl rfl rfl (q_len) ?_
      refine AOps.gdec rfl rfl rfl rfl rfl (q_gtr) (fun h7_6 => ?_) (fun h7_6 => ?_)
      ·
       refine AOps.cons rfl rfl (q_pick) ?_
       refine AOps.nil ?_
       refine AWp.cond_t rfl ?_
       refine AWp.seq ?_
       refine AWp.region ?_
       refine AOps.cons rfl rfl (q_assign) ?_
       refine AOps.cons rfl rfl (q_assign) ?_
       refine AOps.nil ?_
       refine AWp.ret ?_
       show Fin te Try.f27 _ _
       refine q_ret (0) [_, _] [_, _] ?_
       have hx : prs r l lab = none := prs_dotx (k := 0) h0 hpl h46 (by omega)
       rw [par_none h1_1 (hE.symm.trans hx)]; rfl
      ·
       refine AOps.cons rfl rfl (q_pick) ?_
       refine AOps.nil ?_
       refine AWp.cond_f rfl ?_
       refine AWp.skip ?_
       refine AWp.seq ?_
       refine AWp.draws [⟨0, [4], [], some 25, _, []⟩,
           ⟨1, [5], [], some 26, _, []⟩,
           ⟨2, [26], [500], some 27, _, []⟩,
           ⟨3, [27], [1003], some 28, _, [(1003, _)]⟩,
           ⟨4, [25, 28], [400, 1003], some 29, _, [(400, _)]⟩,
           ⟨5, [0], [], some 30, _, []⟩,
           ⟨6, [30], [], some 31, _, []⟩,
           ⟨7, [29], [], some 4, _, []⟩,
           ⟨8, [], [], some 5, _, []⟩,
           ⟨9, [31], [], some 0, _, []⟩]
        [⟨0, [4], [], some 25, .any, []⟩,
            ⟨1, [5], [], some 26, .any, []⟩,
            ⟨2, [26], [500], some 27, .any, []⟩,
            ⟨3, [27], [1003], some 28, .any, [(1003, .box [])]⟩,
            ⟨4, [25, 28], [400, 1003], some 29, .any, [(400, .box [])]⟩,
            ⟨5, [0], [], some 30, .any, []⟩,
            ⟨6, [30], [], some 31, .any, []⟩,
            ⟨7, [29], [], some 4, .any, []⟩,
            ⟨8, [], [], some 5, .any, []⟩,
            ⟨9, [31], [], some 0, .any, []⟩]
        mixed_ok rfl (by kernel_rfl) ⟨DS.ok_over fun s0 => OpAt.go rfl rfl (q_move),
            DS.ok_over fun s0 => OpAt.go rfl rfl (q_move),
            DS.ok_over fun s0 => OpAt.go rfl rfl (q_conv_ls),
            DS.ok_over fun s0 => OpAt.go rfl rfl (q_bs 1003 sc [lab] [(_, _)]),
            DS.ok_over fun s0 => OpAt.go rfl rfl (q_app),
            DS.ok_over fun s0 => OpAt.go rfl rfl (q_move),
            DS.ok_over fun s0 => OpAt.go rfl rfl (q_sls_lo),
            DS.ok_over fun s0 => OpAt.go rfl rfl (q_assign),
            DS.ok_over fun s0 => OpAt.go rfl rfl (q_assign),
            DS.ok_over fun s0 => OpAt.go rfl rfl (q_assign), trivial⟩ ?_
       dsimp only [final, DS.upd, AS.seto]
       refine AWp.weak (Weak.renil 5 500 bc rfl rfl) ?_
       refine AWp.exit ?_
       refine ⟨(r.drop 1, l ++ [lab], [], _, _), ?_, Back.mk' (HasT.cons (HasT.cons (HasT.cons HasT.nil))) (HasH.cons (HasH.cons HasH.nil)), ?_⟩
       ·
        try dsimp only
        exact ⟨by rw [← hE]; exact (prs_dot (k := 0) h0 hpl h46 (by omega)).symm, by simp; omega⟩
       ·
        try dsimp only
        rw [List.length_drop]; omega
    ·
     refine AOps.nil ?_
     refine AWp.cond_f rfl ?_
     refine AWp.skip ?_
     refine AWp.seq ?_
     refine AWp.region ?_
     have h46 : ¬ (r.getD 0 default).toNat = 46 := fun e => h6_2 (by show ((r.getD 0 default).toNat : Int) = 46; omega)
     refine AOps.cons rfl rfl (q_move) ?_
     refine AOps.cons rfl rfl (q_call (0) (hc := (c_name_one r (by omega) h0))) ?_
     refine AOps.cons rfl rfl (q_move) ?_
     refine AOps.cons rfl rfl (q_extract) ?_
     refine AOps.cons rfl rfl (q_extract) ?_
     refine AOps.bool rfl rfl (q_extract) (fun h10_5 => ?_) (fun h10_5 => ?_)
     ·
      refine AOps.cons rfl rfl (q_assign) ?_
      refine AOps.cons rfl rfl (q_assign) ?_
      refine AOps.cons rfl rfl (q_assign) ?_
      refine AOps.nil ?_
      refine AWp.seq ?_
      refine AWp.seq ?_
      refine AWp.region ?_
      refine AOps.cons rfl rfl (q_move) ?_
      refine AOps.cons rfl rfl (q_not) ?_
      refine AOps.nil ?_
      refine AWp.cond_f rfl ?_
      refine AWp.skip ?_
      refine AWp.region ?_
      have hone : (oneV r).2.2 = true := h10_5
      have hol := one_lt h0 hone
      refine AOps.cons rfl rfl (q_move) ?_
      refine AOps.cons rfl rfl (q_move) ?_
      refine AOps.cons rfl rfl (q_bs 1402 bc [(oneV r).1] [(_, _)]) ?_
      refine AOps.cons rfl rfl (q_app) ?_
      refine AOps.cons rfl rfl (q_move) ?_
      refine AOps.cons rfl rfl (q_assign) ?_
      refine AOps.cons rfl rfl (q_assign) ?_
      refine AOps.nil ?_
      refine ⟨((oneV r).2.1, l, lab ++ [(oneV r).1], _, _), ?_, Back.mk' (HasT.cons (HasT.cons (HasT.cons HasT.nil))) (HasH.cons (HasH.cons HasH.nil)), ?_⟩
      ·
       try dsimp only
       exact ⟨by rw [← hE]; exact (prs_one_yes h0 h46 hone).symm, by simp; omega⟩
      ·
       try dsimp only
       exact one_lt h0 hone
     ·
      refine AOps.cons rfl rfl (q_assign) ?_
      refine AOps.cons rfl rfl (q_assign) ?_
      refine AOps.cons rfl rfl (q_assign) ?_
      refine AOps.nil ?_
      refine AWp.seq ?_
      refine AWp.seq ?_
      refine AWp.region ?_
      refine AOps.cons rfl rfl (q_move) ?_
      refine AOps.cons rfl rfl (q_not) ?_
      refine AOps.nil ?_
      refine AWp.cond_t rfl ?_
      refine AWp.seq ?_
      refine AWp.region ?_
      refine AOps.cons rfl rfl (q_assign) ?_
      refine AOps.cons rfl rfl (q_assign) ?_
      refine AOps.nil ?_
      refine AWp.ret ?_
      show Fin te Try.f27 _ _
      refine q_ret (0) [_, _] [_, _] ?_
      rw [prs_one_no h0 h46 h10_5] at hE
      rw [par_none h1_1 hE.symm]; rfl
   ·
    refine AOps.nil ?_
    refine AWp.cond_f rfl ?_
    refine AWp.exit ?_
    refine AWp.seq ?_
    refine AWp.seq ?_
    refine AWp.region ?_
    refine AOps.cons rfl rfl (q_move) ?_
    refine AOps.cons rfl rfl (q_len) ?_
    refine AOps.dec rfl rfl (q_gtr) (fun h14_2 => ?_) (fun h14_2 => ?_)
    ·
     refine AOps.cons rfl rfl (q_move) ?_
     refine AOps.gskip rfl rfl rfl rfl rfl rfl rfl rfl ?_
     refine AOps.gskip rfl rfl rfl rfl rfl rfl rfl rfl ?_
     refine AOps.gskip rfl rfl rfl rfl rfl rfl rfl rfl ?_
     refine AOps.cons rfl rfl (q_pick) ?_
     refine AOps.nil ?_
     refine AWp.cond_t rfl ?_
     refine AWp.seq ?_
     refine AWp.region ?_
     refine AOps.cons rfl rfl (q_assign) ?_
     refine AOps.cons rfl rfl (q_assign) ?_
     refine AOps.nil ?_
     refine AWp.ret ?_
     show Fin te Try.f27 _ _
     refine q_ret (0) [_, _] [_, _] ?_
     have hr : r = [] := by first | exact h5_1 | exact Decidable.not_not.1 h5_1
     rw [hr] at hE
     have hx : prs [] l lab = none := by rw [prs, if_neg (fun e => by rw [e.1] at h14_2; exact absurd h14_2 (by decide))]
     rw [par_none h1_1 (hE.symm.trans hx)]; rfl
    ·
     refine AOps.cons rfl rfl (q_move) ?_
     refine AOps.gcons rfl rfl rfl rfl rfl (q_move) ?_
     refine AOps.gcons rfl rfl rfl rfl rfl (q_len) ?_
     refine AOps.gdec rfl rfl rfl rfl rfl (q_eql) (fun h14_6 => ?_) (fun h14_6 => ?_)
     ·
      refine AOps.cons rfl rfl (q_pick) ?_
      refine AOps.nil ?_
      refine AWp.cond_t rfl ?_
      refine AWp.seq ?_
      refine AWp.region ?_
      refine AOps.cons rfl rfl (q_assign) ?_
      refine AOps.cons rfl rfl (q_assign) ?_
      refine AOps.nil ?_
      refine AWp.ret ?_
      show Fin te Try.f27 _ _
      refine q_ret (0) [_, _] [_, _] ?_
      have hr : r = [] := by first | exact h5_1 | exact Decidable.not_not.1 h5_1
      rw [hr] at hE
      have hx : prs [] l lab = none := by rw [prs, if_neg (fun e => e.2 (List.eq_nil_of_length_eq_zero (by omega)))]
      rw [par_none h1_1 (hE.symm.trans hx)]; rfl
     ·
      refine AOps.cons rfl rfl (q_pick) ?_
      refine AOps.nil ?_
      refine AWp.cond_f rfl ?_
      refine AWp.skip ?_
      refine AWp.seq ?_
      refine AWp.region ?_
      have hjs := joinB_sum l
      refine AOps.cons rfl rfl (q_move) ?_
      refine AOps.cons rfl rfl (q_call (0) (hc := (c_join l 1 (by omega) (by omega)))) ?_
      refine AOps.cons rfl rfl (q_assign) ?_
      refine AOps.nil ?_
      refine AWp.seq ?_
      refine AWp.seq ?_
      refine AWp.region ?_
      have hjn := joinN_B l
      refine AOps.cons rfl rfl (q_move) ?_
      refine AOps.cons rfl rfl (q_len_str) ?_
      refine AOps.dec rfl rfl (q_gtr) (fun h17_2 => ?_) (fun h17_2 => ?_)
      ·
       refine AOps.nil ?_
       refine AWp.cond_t rfl ?_
       refine AWp.seq ?_
       refine AWp.region ?_
       refine AOps.cons rfl rfl (q_assign) ?_
       refine AOps.cons rfl rfl (q_assign) ?_
       refine AOps.nil ?_
       refine AWp.ret ?_
       show Fin te Try.f27 _ _
       refine q_ret (0) [_, _] [_, _] ?_
       have hr : r = [] := by first | exact h5_1 | exact Decidable.not_not.1 h5_1
       rw [hr] at hE
       have hx : prs [] l lab = some l := by rw [prs, if_pos ⟨List.eq_nil_of_length_eq_zero (by omega), fun e => by rw [e] at h14_6; exact h14_6 rfl⟩]
       rw [par_big h1_1 (hE.symm.trans hx) (by omega)]; rfl
      ·
       refine AOps.nil ?_
       refine AWp.cond_f rfl ?_
       refine AWp.skip ?_
       refine AWp.seq ?_
       refine AWp.region ?_
       refine AOps.cons rfl rfl (q_move) ?_
       refine AOps.cons rfl rfl (q_assign) ?_
       refine AOps.cons rfl rfl (q_assign) ?_
       refine AOps.nil ?_
       refine AWp.ret ?_
       show Fin te Try.f27 _ _
       refine q_ret (0) [_, _] [_, _] ?_
       have hr : r = [] := by first | exact h5_1 | exact Decidable.not_not.1 h5_1
       rw [hr] at hE
       have hx : prs [] l lab = some l := by rw [prs, if_pos ⟨List.eq_nil_of_length_eq_zero (by omega), fun e => by rw [e] at h14_6; exact h14_6 rfl⟩]
       rw [par_some h1_1 (hE.symm.trans hx) (by omega)]; rfl
end Go.Proofs.Ytfojdjlhpejbpaa.Fw


set_option linter.unusedVariables false
set_option linter.unusedSimpArgs false
namespace Go.Proofs.Ytfojdjlhpejbpaa.Fw
open Go.RowKit
theorem can_1a : canN [1, 97, 0] = true := can_join (ls := [[97]]) (fun l h => by simp at h; subst h; simp) (by decide)
set_option maxRecDepth 20000 in
set_option maxHeartbeats 2000000 in
theorem c_ciceronelaw01_NameTells (n t : List UInt8) (hn : n.length ≤ 1073741824) (ht : t.length ≤ 1073741824) : AC Try.prog 9 [str n, str t] emp (Ret (tf true)) := by
 refine AC.intro te_ok (fn := Try.f9) ⟨Try.func9, rfl, rfl⟩ (Nat.le_of_ble_eq_true rfl) ?_
 refine AWp.seq ?_
 refine AWp.region ?_
 refine AOps.cons rfl rfl (q_assign) ?_
 refine AOps.nil ?_
 refine AWp.seq ?_
 refine AWp.region ?_
 refine AOps.cons rfl rfl (q_move) ?_
 refine AOps.cons rfl rfl (q_call (0) (hc := (c_Parse t ht))) ?_
 refine AOps.cons rfl rfl (q_move) ?_
 refine AOps.cons rfl rfl (q_extract) ?_
 refine AOps.cons rfl rfl (q_extract) ?_
 refine AOps.cons rfl rfl (q_assign) ?_
 refine AOps.cons rfl rfl (q_assign) ?_
 refine AOps.nil ?_
 refine AWp.seq ?_
 refine AWp.region ?_
 refine AOps.cons rfl rfl (q_move) ?_
 refine AOps.cons rfl rfl (q_call (0) (hc := (c_rParse t ht))) ?_
 refine AOps.cons rfl rfl (q_move) ?_
 refine AOps.cons rfl rfl (q_extract) ?_
 refine AOps.cons rfl rfl (q_extract) ?_
 refine AOps.cons rfl rfl (q_assign) ?_
 refine AOps.cons rfl rfl (q_assign) ?_
 refine AOps.nil ?_
 refine AWp.seq ?_
 refine AWp.region ?_
 refine AOps.cons rfl rfl (q_move) ?_
 refine AOps.cons rfl rfl (q_call (0) (hc := c_name_Can _ (by first | assumption | omega | decide | (simp; omega) | (simp [*]; done)))) ?_
 refine AOps.cons rfl rfl (q_move) ?_
 refine AOps.cons rfl rfl (q_call (0) (hc := c_ciceroneref01_Can _ (by first | assumption | omega | decide | (simp; omega) | (simp [*]; done)))) ?_
 refine AOps.bool rfl rfl (q_beql) (fun h3_4 => ?_) (fun h3_4 => ?_)
 ·
  refine AOps.cons rfl rfl (q_move) ?_
  refine AOps.gcons rfl rfl rfl rfl rfl (q_move) ?_
  refine AOps.gcons rfl rfl rfl rfl rfl (q_call (0) (hc := (c_Text n hn))) ?_
  refine AOps.gcons rfl rfl rfl rfl rfl (q_move) ?_
  refine AOps.gcons rfl rfl rfl rfl rfl (q_call (0) (hc := (c_rText n hn))) ?_
  refine AOps.gdec rfl rfl rfl rfl rfl (q_seql) (fun h3_10 => ?_) (fun h3_10 => ?_)
  ·
   refine AOps.cons rfl rfl (q_pick) ?_
   refine AOps.cons rfl rfl (q_move) ?_
   refine AOps.gcons rfl rfl rfl rfl rfl (q_move) ?_
   refine AOps.gcons rfl rfl rfl rfl rfl (q_move) ?_
   refine AOps.gdec rfl rfl rfl rfl rfl (q_seql) (fun h3_15 => ?_) (fun h3_15 => ?_)
   ·
    refine AOps.cons rfl rfl (q_pick) ?_
    refine AOps.cons rfl rfl (q_move) ?_
    refine AOps.gcons rfl rfl rfl rfl rfl (q_move) ?_
    refine AOps.gcons rfl rfl rfl rfl rfl (q_move) ?_
    refine AOps.gdec rfl rfl rfl rfl rfl (q_eql) (fun h3_20 => ?_) (fun h3_20 => ?_)
    ·
     refine AOps.cons rfl rfl (q_pick) ?_
     refine AOps.cons rfl rfl (q_move) ?_
     refine AOps.gcons rfl rfl rfl rfl rfl (q_call (0) (hc := c_name_Can _ (by first | assumption | omega | decide | (simp; omega) | (simp [*]; done)))) ?_
     refine AOps.cons rfl rfl (q_pick) ?_
     refine AOps.cons rfl rfl (q_assign) ?_
     refine AOps.nil ?_
     refine AWp.ret ?_
     show Fin te Try.f9 _ _
     refine q_ret (0) [_] [_] ?_
     exact congrArg tf can_1a
    ·
     exfalso; first | exact h3_20 rfl | omega | (rw [eqV_same rfl] at h3_20; cases h3_20) | (simp at h3_20; done) | (simp_all; done)
   ·
    exfalso; first | exact h3_15 rfl | omega | (rw [eqV_same rfl] at h3_15; cases h3_15) | (simp at h3_15; done) | (simp_all; done)
  ·
   exfalso; first | exact h3_10 rfl | omega | (rw [eqV_same rfl] at h3_10; cases h3_10) | (simp at h3_10; done) | (simp_all; done)
 ·
  exfalso; first | exact h3_4 rfl | omega | (rw [eqV_same rfl] at h3_4; cases h3_4) | (simp at h3_4; done) | (simp_all; done)
end Go.Proofs.Ytfojdjlhpejbpaa.Fw


set_option linter.unusedVariables false
set_option linter.unusedSimpArgs false
set_option linter.unusedSectionVars false
namespace Go.Proofs.Ytfojdjlhpejbpaa.Fw.Up
open Go.RowKit Go.ChangeShapes Go.WideShapes
def upB : Nat := 1073741824
def Has (te : TE) : Nat → TypeId → List AV → Prop
  | 0, _, _ => False
  | d + 1, t, cs => match te.get t with
    | none => False
    | some i => match i.k with
      | .bool => ∃ b, cs = [tf b]
      | .int k => ∃ n : Int, (Lit.int k n).wf = true ∧ cs = [.v (.int k n)]
      | .str => ∃ l : List UInt8, l.length ≤ upB ∧ cs = [str l]
      | .slice e => ∃ es : List (List AV), (∀ c ∈ es, Has te d e c) ∧ (∀ j, te.get e = some j → es.length * j.bytes ≤ upB) ∧ cs = [.fz 0 es.length es.flatten]
      | .arr m e => ∃ es : List (List AV), es.length = m ∧ (∀ c ∈ es, Has te d e c) ∧ cs = es.flatten
      | .struct fs => hasFs (Has te d) fs cs
      | _ => False
theorem exists_list {α : Type} {p : Nat → α → Prop} : ∀ n : Nat, (∀ i, i < n → ∃ x, p i x) → ∃ l : List α, l.length = n ∧ ∀ i x, l[i]? = some x → p i x
  | 0, _ => ⟨[], rfl, fun i x h => by simp at h⟩
  | n + 1, h => by
    obtain ⟨l, h1, h2⟩ := exists_list n fun i hi => h i (by omega)
    obtain ⟨x, hx⟩ := h n (by omega)
    refine ⟨l ++ [x], by simp [h1], fun i y hy => ?_⟩
    by_cases hi : i < n
    · rw [List.getElem?_append_left (by omega)] at hy
      exact h2 i y hy
    · rw [List.getElem?_append_right (by omega)] at hy
      have : i - l.length = 0 := by
        have := (List.getElem?_eq_some_iff.1 hy).1
        simp at this
        omega
      rw [this] at hy
      simp at hy
      subst hy
      have : i = n := by omega
      subst this
      exact hx
theorem flatten_length_of {α : Type} {m : Nat} : ∀ {es : List (List α)}, (∀ c ∈ es, c.length = m) → es.flatten.length = es.length * m
  | [], _ => by simp
  | c :: es, h => by
    rw [List.flatten_cons, List.length_append, h c List.mem_cons_self, flatten_length_of fun x hx => h x (List.mem_cons_of_mem _ hx), List.length_cons, Nat.add_mul, Nat.one_mul, Nat.add_comm]
theorem flatten_get {α : Type} {m : Nat} (hm : 0 < m) : ∀ {es : List (List α)}, (∀ c ∈ es, c.length = m) → ∀ {j : Nat} {x : α}, es.flatten[j]? = some x → ∃ c, es[j / m]? = some c ∧ c[j % m]? = some x
  | [], _, j, x, hj => by simp at hj
  | c :: es, h, j, x, hj => by
    have hc := h c List.mem_cons_self
    rw [List.flatten_cons] at hj
    by_cases h1 : j < m
    · rw [List.getElem?_append_left (by omega)] at hj
      exact ⟨c, by rw [Nat.div_eq_of_lt h1]; rfl, by rw [Nat.mod_eq_of_lt h1]; exact hj⟩
    · rw [List.getElem?_append_right (by omega), hc] at hj
      obtain ⟨c', k1, k2⟩ := flatten_get hm (fun x hx => h x (List.mem_cons_of_mem _ hx)) hj
      refine ⟨c', ?_, ?_⟩
      · have : j / m = (j - m) / m + 1 := by
          rw [Nat.div_eq_sub_div hm (by omega)]
        rw [this]
        simpa using k1
      · rw [Nat.mod_eq_sub_mod (by omega)]
        exact k2
abbrev noL : Lent := fun _ _ => False
abbrev noO : PMap := fun _ => none
theorem may_none (lv b : Nat) : may noO noL lv b := ⟨owned_none, fun _ _ h => h⟩
theorem weightsAll_mem {H : Type} {P : Program} {e : TypeId} : ∀ {l : List (DataW H)} {d : DataW H}, d ∈ l → ∀ m ∈ d.weights P e, m ∈ DataW.weightsAll P e l
  | a :: l, d, h, m, hm => by
    simp only [DataW.weightsAll, List.mem_append]
    rcases List.mem_cons.1 h with rfl | h
    · exact .inl hm
    · exact .inr (weightsAll_mem h m hm)
section
variable {P : Program} {te : TE} {w : World} {H : Type} {enc : TypeId × Value → H} {held : Bool}
def CellsAre (w : World) (cs : List Value) (av : List AV) : Prop := av.length = cs.length ∧ ∀ (j : Nat) c, av[j]? = some c → c.ok 0 = true ∧ ∃ v, cs[j]? = some v ∧ Rep w noO noL c v
theorem CellsAre.one {v : Value} {a : AV} (h1 : a.ok 0 = true) (h2 : Rep w noO noL a v) : CellsAre w [v] [a] :=
  ⟨rfl, fun j c hj => by
    cases j with
    | zero => simp at hj; subst hj; exact ⟨h1, v, rfl, h2⟩
    | succ j => simp at hj⟩
theorem Tells.cells {t : TypeId} {i : TI} (h : Tells P t i) : P.cellsOf t = i.size ∧ P.bytesOf t = i.bytes := by
  obtain ⟨f, z, h1, h2, h3, _⟩ := h.info
  exact ⟨by simp [Program.cellsOf, h1, h2], by simp [Program.bytesOf, h1, h3]⟩
theorem open_fields (hte : TEok P te) {d n : Nat} (ih : ∀ t, plainT te d t = true → ∀ n (cs : List Value) x, DataW.trod enc P w 0 (fun _ => true) held n t cs = some x → (∀ m ∈ x.1.weights P t, m ≤ upB) → ∃ av, Has te d t av ∧ CellsAre w cs av)
    {cs : List Value} : ∀ (l : List Field) (o : Nat) (xs : List (DataW H × List MemPlace)), xs.length = l.length → (∀ (i : Nat) (f : Field), l[i]? = some f → DataW.trod enc P w 0 (fun _ => true) held n f.type ((cs.drop f.offset).take (P.cellsOf f.type)) = xs[i]?) →
      contig te o (l.map fun f => (f.offset, f.type)) cs.length = true → ((l.map fun f => (f.offset, f.type)).all fun p => plainT te d p.2) = true →
      (∀ m ∈ DataW.weightsEach P (l.map (·.type)) (xs.map (·.1)), m ≤ upB) → ∃ av, hasFs (Has te d) (l.map fun f => (f.offset, f.type)) av ∧ CellsAre w (cs.drop o) av
  | [], o, xs, hx, hf, hc, hp, hw => by
    simp only [List.map_nil, contig] at hc
    have := Nat.eq_of_beq_eq_true hc
    refine ⟨[], rfl, by simp; omega, fun j c hj => by simp at hj⟩
  | f :: l, o, [], hx, hf, hc, hp, hw => by simp at hx
  | f :: l, o, y :: xs, hx, hf, hc, hp, hw => by
    simp only [List.map_cons, contig, Bool.and_eq_true] at hc
    obtain ⟨c1, c2⟩ := hc
    have c1 := Nat.eq_of_beq_eq_true c1
    simp only [List.map_cons, List.all_cons, Bool.and_eq_true] at hp
    have h0 := hf 0 f rfl
    simp only [List.getElem?_cons_zero] at h0
    simp only [List.map_cons, DataW.weightsEach, List.mem_append] at hw
    obtain ⟨a, a1, a2⟩ := ih f.type hp.1 n _ y h0 fun m hm => hw m (.inl hm)
    cases hg : te.get f.type with
    | none => rw [hg] at c2; cases c2
    | some j =>
      rw [hg] at c2
      simp only at c2
      obtain ⟨b, b1, b2⟩ := open_fields hte ih l (o + j.size) xs (by simpa using hx) (fun i g hg => by simpa using hf (i + 1) g (by simpa using hg)) c2 hp.2 (fun m hm => hw m (.inr hm))
      rw [((hte.tells hg).cells).1, ← c1] at a2
      refine ⟨a ++ b, ⟨a, b, rfl, a1, b1⟩, ?_⟩
      have hle : ∀ (l : List (Nat × TypeId)) (o : Nat), contig te o l cs.length = true → o ≤ cs.length := by
        intro l
        induction l with
        | nil => intro o h; simp only [contig] at h; exact Nat.le_of_eq (Nat.eq_of_beq_eq_true h)
        | cons p l ihl =>
          intro o h
          obtain ⟨po, pt⟩ := p
          simp only [contig, Bool.and_eq_true] at h
          cases hgp : te.get pt with
          | none => rw [hgp] at h; cases h.2
          | some q =>
            rw [hgp] at h
            have := ihl _ h.2
            omega
      have hlen := hle _ _ c2
      have al : a.length = j.size := by rw [a2.1]; simp; omega
      refine ⟨by rw [List.length_append, al, b2.1]; simp; omega, fun k c hk => ?_⟩
      by_cases hk1 : k < a.length
      · rw [List.getElem?_append_left hk1] at hk
        obtain ⟨z1, v, z2, z3⟩ := a2.2 k c hk
        rw [List.getElem?_take, if_pos (by omega)] at z2
        exact ⟨z1, v, z2, z3⟩
      · rw [List.getElem?_append_right (by omega)] at hk
        obtain ⟨z1, v, z2, z3⟩ := b2.2 _ c hk
        refine ⟨z1, v, ?_, z3⟩
        rw [List.getElem?_drop] at z2 ⊢
        rw [← z2]
        congr 1
        omega
theorem open_has (hte : TEok P te) : ∀ d t, plainT te d t = true → ∀ n (cs : List Value) x, DataW.trod enc P w 0 (fun _ => true) held n t cs = some x → (∀ m ∈ x.1.weights P t, m ≤ upB) →
    ∃ av, Has te d t av ∧ CellsAre w cs av
  | 0, t, hp, n, cs, x, h, hw => by simp [plainT] at hp
  | d + 1, t, hp, n, cs, x, h, hw => by
    have ih := open_has hte d
    simp only [plainT] at hp
    simp only [Has]
    cases hg : te.get t with
    | none => rw [hg] at hp; cases hp
    | some i =>
      rw [hg] at hp
      have ht := hte.tells hg
      obtain ⟨k, size, bytes, zero⟩ := i
      cases k with
      | int k =>
        obtain ⟨m, rfl, rfl, h3⟩ := DataW.trod_int (ht.int rfl) h
        exact ⟨[.v (.int k m)], ⟨m, h3, rfl⟩, .one rfl .v⟩
      | bool =>
        obtain ⟨b, rfl, rfl⟩ := DataW.trod_bool (ht.bool rfl) h
        exact ⟨[tf b], ⟨b, rfl⟩, .one rfl .v⟩
      | str =>
        obtain ⟨s, rfl, rfl, _⟩ := DataW.trod_string (ht.str rfl) h
        exact ⟨[str s.data.toList], ⟨_, hw _ (by simp [DataW.weights]), rfl⟩, .one rfl .v⟩
      | slice e =>
        simp only [Bool.and_eq_true] at hp
        obtain ⟨hp1, hp2⟩ := hp
        cases he : te.get e with
        | none => rw [he] at hp2; cases hp2
        | some j =>
          rw [he] at hp2
          have hpos : 0 < j.size := Nat.blt_eq.mp hp2
          have hce := (hte.tells he).cells
          rcases DataW.trod_slice (ht.slice rfl) h with ⟨rfl, rfl⟩ | ⟨a, len, cap, elems, rest, n', rfl, rfl, rfl, hb, hlc, hcm, hel, hget, _, _⟩
          · exact ⟨[.fz 0 0 []], ⟨[], by simp, fun _ _ => by simp, rfl⟩, .one rfl .fz0⟩
          · have hwt : ∀ y ∈ elems, ∀ m ∈ y.1.weights P e, m ≤ upB := fun y hy m hm => by
              refine hw m ?_
              simp only [DataW.weights, ht.slice rfl, List.mem_cons, List.mem_append]
              exact .inr (.inl (weightsAll_mem (List.mem_map_of_mem hy) m hm))
            have hone : ∀ i, i < len → ∃ av, Has te d e av ∧ av.length = j.size ∧ ∀ (r : Nat) c, av[r]? = some c → c.ok 0 = true ∧ ∃ v, w.cell? ((a.add (i * j.size)).add r) = some v ∧ Rep w noO noL c v := by
              intro i hi
              have h1 := hget i hi
              have hil : i < elems.length := by omega
              rw [List.getElem?_eq_getElem hil] at h1
              obtain ⟨cs', h2, h3⟩ := Option.bind_eq_some_iff.1 h1
              obtain ⟨_, q1, q2⟩ := World.cells?_some h2
              obtain ⟨av, b1, b2, b3⟩ := ih e hp1 n' cs' _ h3 (hwt _ (List.getElem_mem hil))
              rw [hce.1] at q1 q2
              refine ⟨av, b1, by rw [b2, q1], fun r c hr => ?_⟩
              obtain ⟨z1, v, z2, z3⟩ := b3 r c hr
              have hrl : r < j.size := by rw [← q1, ← b2]; exact (List.getElem?_eq_some_iff.1 hr).1
              exact ⟨z1, v, by rw [q2 r hrl, z2], z3⟩
            obtain ⟨es, l1, l2⟩ := exists_list len hone
            have hlen : ∀ c ∈ es, c.length = j.size := fun c hc => by
              obtain ⟨i, hi⟩ := List.mem_iff_getElem?.1 hc
              exact (l2 i c hi).2.1
            have hfl := flatten_length_of hlen
            refine ⟨[.fz 0 es.length es.flatten], ⟨es, fun c hc => ?_, fun j' hj' => ?_, rfl⟩, .one rfl ?_⟩
            · obtain ⟨i, hi⟩ := List.mem_iff_getElem?.1 hc
              exact (l2 i c hi).1
            · rw [he] at hj'
              cases hj'
              have := hw ((elems.length + rest.length) * P.bytesOf e) (by simp [DataW.weights, ht.slice rfl])
              rw [hce.2] at this
              have h2 : es.length * j.bytes ≤ (elems.length + rest.length) * j.bytes := Nat.mul_le_mul_right _ (by omega)
              omega
            · by_cases hl0 : len = 0
              · have : es = [] := List.eq_nil_of_length_eq_zero (by omega)
                subst this
                rw [hl0]
                exact .fz0
              ·
                have hc0 : ∀ q, q < es.flatten.length → ∃ c v, es.flatten[q]? = some c ∧ c.ok 0 = true ∧ w.cell? (a.add q) = some v ∧ Rep w noO noL c v := by
                  intro q hq
                  obtain ⟨c, k1, k2⟩ := flatten_get hpos hlen (List.getElem?_eq_getElem hq)
                  obtain ⟨_, _, g3⟩ := l2 _ c k1
                  obtain ⟨z1, v, z2, z3⟩ := g3 _ _ k2
                  refine ⟨_, v, List.getElem?_eq_getElem hq, z1, ?_, z3⟩
                  rw [Addr.add_add, Nat.mul_comm, Nat.div_add_mod] at z2
                  exact z2
                have hpf : 0 < es.flatten.length := by rw [hfl, l1]; exact Nat.mul_pos (by omega) hpos
                obtain ⟨b, o, sp⟩ := a
                have hsp : sp = none := by
                  obtain ⟨c, v, _, _, h3, _⟩ := hc0 0 hpf
                  simp only [Addr.add, if_true, World.cell?] at h3
                  split at h3
                  · split at h3
                    · cases h3
                    · rename_i hs
                      simpa using hs
                  · cases h3
                subst hsp
                rw [l1]
                refine .fz (fun q => (w.cell? ⟨b, o + q, none⟩).getD undef) (may_none _ _) hlc (fun c hc => ?_) (fun q hq => ?_) (fun q c hq => ?_) hpf
                · obtain ⟨q, hq⟩ := List.mem_iff_getElem?.1 hc
                  obtain ⟨c', v, h1, h2, _⟩ := hc0 q (List.getElem?_eq_some_iff.1 hq).1
                  rw [hq] at h1
                  cases h1
                  exact h2
                · obtain ⟨c', v, h1, h2, h3, h4⟩ := hc0 q hq
                  rw [Addr.add_lit] at h3
                  rw [h3]
                  rfl
                · obtain ⟨c', v, h1, h2, h3, h4⟩ := hc0 q (List.getElem?_eq_some_iff.1 hq).1
                  rw [hq] at h1
                  cases h1
                  rw [Addr.add_lit] at h3
                  rw [h3]
                  exact h4
      | arr m e =>
        simp only [Bool.and_eq_true] at hp
        obtain ⟨hp1, hp2⟩ := hp
        cases he : te.get e with
        | none => rw [he] at hp2; cases hp2
        | some j =>
          rw [he] at hp2
          simp only [Bool.and_eq_true] at hp2
          have hpos : 0 < j.size := Nat.blt_eq.mp hp2.1
          have hsz : size = m * j.size := Nat.eq_of_beq_eq_true hp2.2
          have hce := (hte.tells he).cells
          obtain ⟨xs, n', rfl, rfl, hl, hxl, hget⟩ := DataW.trod_array (ht.arr rfl) h
          have hl : cs.length = m * j.size := by rw [hl, ht.cells.1, ← hsz]
          have hone : ∀ i, i < m → ∃ av, Has te d e av ∧ CellsAre w ((cs.drop (i * j.size)).take j.size) av := by
            intro i hi
            have h1 := hget i hi
            have hil : i < xs.length := by omega
            rw [List.getElem?_eq_getElem hil, hce.1] at h1
            refine ih e hp1 n' _ _ h1 fun q hq => hw q ?_
            simp only [DataW.weights, ht.arr rfl]
            exact weightsAll_mem (List.mem_map_of_mem (List.getElem_mem hil)) q hq
          obtain ⟨es, l1, l2⟩ := exists_list m hone
          have hlen : ∀ c ∈ es, c.length = j.size := fun c hc => by
            obtain ⟨i, hi⟩ := List.mem_iff_getElem?.1 hc
            have hil : i < m := by rw [← l1]; exact (List.getElem?_eq_some_iff.1 hi).1
            rw [(l2 i c hi).2.1]
            show ((cs.drop (i * j.size)).take j.size).length = j.size
            have : (i + 1) * j.size ≤ m * j.size := Nat.mul_le_mul_right _ hil
            rw [Nat.add_mul, Nat.one_mul, ← hl] at this
            simp
            omega
          refine ⟨es.flatten, ⟨es, l1, fun c hc => ?_, rfl⟩, by rw [flatten_length_of hlen, l1, hl], fun q c hq => ?_⟩
          · obtain ⟨i, hi⟩ := List.mem_iff_getElem?.1 hc
            exact (l2 i c hi).1
          · obtain ⟨c', k1, k2⟩ := flatten_get hpos hlen hq
            obtain ⟨z1, v, z2, z3⟩ := (l2 _ c' k1).2.2 _ c k2
            refine ⟨z1, v, ?_, z3⟩
            rw [List.getElem?_take, if_pos (Nat.mod_lt _ hpos), List.getElem?_drop, Nat.mul_comm, Nat.div_add_mod] at z2
            exact z2
      | struct fs =>
        simp only [Bool.and_eq_true] at hp
        obtain ⟨fl, f1, f2⟩ := ht.struct rfl
        obtain ⟨xs, n', rfl, rfl, hl, hxl, hget⟩ := DataW.trod_struct f1 h
        rw [ht.cells.1] at hl
        subst f2
        simp only at hl
        rw [← hl] at hp
        have := open_fields hte ih (n := n') (cs := cs) fl.toList 0 xs (by simpa using hxl) (fun i f hf => hget i f (by simpa using hf)) hp.1 hp.2 (fun m hm => hw m (by simpa [DataW.weights, f1] using hm))
        simpa using this
      | _ => cases hp
end
def HasArgs (te : TE) (d : Nat) : List TypeId → List AV → Prop
  | [], [] => True
  | t :: ts, a :: r => (∃ i cs, te.get t = some i ∧ Has te d t cs ∧ a = mkAV i.k.agg cs) ∧ HasArgs te d ts r
  | _, _ => False
theorem HasArgs.length {te : TE} {d : Nat} : ∀ {ts : List TypeId} {l : List AV}, HasArgs te d ts l → l.length = ts.length
  | [], [], _ => rfl
  | t :: ts, a :: r, h => by simp [HasArgs.length h.2]
  | [], _ :: _, h => h.elim
  | _ :: _, [], h => h.elim
section
variable {P : Program} {te : TE} {w : World} {H : Type} {enc : TypeId × Value → H}
theorem scalar_cells {t : TypeId} {v : Value} {dsc : TypeDesc} {r : Reach} {base : Nat} (hu : P.underlying t = some dsc) (hn : (match dsc with | .int _ | .bool | .string | .slice _ => true | _ => false) = true)
    (h : Value.okWide P w r base t v) : v.cells = #[v] := by
  cases dsc <;> simp at hn
  · simp only [Value.okWide, hu, Cell.okWide] at h
    cases v <;> simp_all [Cell.ok, Value.cells]
  · simp only [Value.okWide, hu, Cell.okWide] at h
    cases v <;> simp_all [Cell.ok, Value.cells]
  · simp only [Value.okWide, hu, Cell.okWide] at h
    cases v <;> simp_all [Cell.ok, Value.cells]
  · simp only [Value.okWide, hu, Cell.okWide] at h
    cases v <;> simp_all [Cell.ok, Value.cells]
theorem arg_rep (hte : TEok P te) {d : Nat} {t : TypeId} {i : TI} {v : Value} {r : Reach} {base : Nat} {l : List AV} (hg : te.get t = some i) (hp : plainT te d t = true) (hv : Value.okWide P w r base t v)
    (hc : CellsAre w v.cells.toList l) : Rep w noO noL (mkAV i.k.agg l) v := by
  cases d with
  | zero => simp [plainT] at hp
  | succ d =>
    simp only [plainT, hg] at hp
    have ht := hte.tells hg
    have one : v.cells = #[v] → i.k.agg = false → Rep w noO noL (mkAV i.k.agg l) v := by
      intro h1 h2
      rw [h1] at hc
      obtain ⟨h3, h4⟩ := hc
      have h3 : l.length = 1 := h3
      obtain ⟨a, rfl⟩ := List.length_eq_one_iff.1 h3
      obtain ⟨_, v', h5, h6⟩ := h4 0 a rfl
      simp at h5
      subst h5
      rw [h2]
      exact h6
    have many : (∃ cs, v = .agg cs) → i.k.agg = true → Rep w noO noL (mkAV i.k.agg l) v := by
      rintro ⟨cs, rfl⟩ h2
      simp only [Value.cells] at hc
      obtain ⟨h3, h4⟩ := hc
      rw [h2]
      refine .agg (fun j => cs.getD j undef) (by simpa using h3.symm) (fun j hj => ?_) (fun j c hj => ?_)
      · have : j < cs.size := by simp at h3; omega
        simp [Array.getD, this]
      · obtain ⟨_, v, h5, h6⟩ := h4 j c hj
        rw [Array.getElem?_toList] at h5
        rw [Array.getD_eq_getD_getElem?, h5]
        exact h6
    obtain ⟨k, size, bytes, zero⟩ := i
    cases k with
    | int k => exact one (scalar_cells (ht.int rfl) rfl hv) rfl
    | bool => exact one (scalar_cells (ht.bool rfl) rfl hv) rfl
    | str => exact one (scalar_cells (ht.str rfl) rfl hv) rfl
    | slice e => exact one (scalar_cells (ht.slice rfl) rfl hv) rfl
    | arr m e =>
      refine many ?_ rfl
      simp only [Value.okWide, ht.arr rfl] at hv
      exact ⟨hv.choose, hv.choose_spec.1⟩
    | struct fs =>
      obtain ⟨fl, f1, f2⟩ := ht.struct rfl
      refine many ?_ rfl
      simp only [Value.okWide, f1] at hv
      exact ⟨hv.choose, hv.choose_spec.1⟩
    | _ => cases hp
theorem open_args (hte : TEok P te) {d : Nat} {r : Reach} {base : Nat} : ∀ {ts : List TypeId} {vs : List Value} {ds : List (DataW H)} {ps : List MemPlace}, DataW.TrodAll enc P w 0 (fun _ => true) true ts vs ds ps → (ts.all fun t => plainT te d t) = true →
    (∀ (j : Nat) t v, ts[j]? = some t → vs[j]? = some v → Value.okWide P w r base t v) → (∀ m ∈ DataW.weightsEach P ts ds, m ≤ upB) →
    ∃ l, HasArgs te d ts l ∧ vs.length = l.length ∧ ∀ (j : Nat) c, l[j]? = some c → ∃ v, vs[j]? = some v ∧ Rep w noO noL c v
  | [], [], [], ps, h, hp, hv, hw => ⟨[], trivial, rfl, fun j c hj => by simp at hj⟩
  | t :: ts, v :: vs, x :: ds, ps, h, hp, hv, hw => by
    obtain ⟨p, q, ⟨n, h1⟩, h2, rfl⟩ := h
    simp only [List.all_cons, Bool.and_eq_true] at hp
    simp only [DataW.weightsEach, List.mem_append] at hw
    obtain ⟨l, l1, l2, l3⟩ := open_args hte h2 hp.2 (fun j t v ht hv' => hv (j + 1) t v (by simpa using ht) (by simpa using hv')) (fun m hm => hw m (.inr hm))
    obtain ⟨a, a1, a2⟩ := open_has hte d t hp.1 n _ _ h1 (fun m hm => hw m (.inl hm))
    have hg : ∃ i, te.get t = some i := by
      cases d with
      | zero => simp [plainT] at hp
      | succ d =>
        have := hp.1
        simp only [plainT] at this
        cases hg : te.get t with
        | none => rw [hg] at this; cases this
        | some i => exact ⟨i, rfl⟩
    obtain ⟨i, hg⟩ := hg
    have hr := arg_rep hte hg hp.1 (hv 0 t v rfl rfl) a2
    refine ⟨mkAV i.k.agg a :: l, ⟨⟨i, a, hg, a1, rfl⟩, l1⟩, by simp [l2], fun j c hj => ?_⟩
    cases j with
    | zero => simp at hj; subst hj; exact ⟨v, rfl, hr⟩
    | succ j => simpa using l3 j c (by simpa using hj)
  | [], _ :: _, _, _, h, _, _, _ => by simp [DataW.TrodAll] at h
  | [], [], _ :: _, _, h, _, _, _ => by simp [DataW.TrodAll] at h
  | _ :: _, [], _, _, h, _, _, _ => by simp [DataW.TrodAll] at h
  | _ :: _, _ :: _, [], _, h, _, _, _ => by simp [DataW.TrodAll] at h
theorem trodAll_stay (hl : laidOutB P = true) {w' : World} (hb : Below w.heap.size w w') : ∀ {ts : List TypeId} {vs : List Value} {ds : List (DataW H)} {ps : List MemPlace}, DataW.TrodAll enc P w 0 (fun _ => true) true ts vs ds ps →
    (ts.all fun t => P.readableRec t && decide (t < P.types.size)) = true → DataW.TrodAll enc P w' 0 (fun b => decide (b < w.heap.size)) true ts vs ds ps
  | [], [], [], ps, h, hp => h
  | t :: ts, v :: vs, y :: ds, ps, h, hp => by
    obtain ⟨p, q, h1, h2, rfl⟩ := h
    simp only [List.all_cons, Bool.and_eq_true, decide_eq_true_eq] at hp
    have hlt : ∀ x ∈ p, x.block < w.heap.size := fun x hx => by obtain ⟨n, h1⟩ := h1; exact DataW.trod_lt n _ _ _ h1 x hx
    exact ⟨p, q, Below.trod hl hp.1.1 hp.1.2 h1 hb hlt, trodAll_stay hl hb h2 (by simpa using hp.2), rfl⟩
  | [], _ :: _, _, _, h, _ => by simp [DataW.TrodAll] at h
  | [], [], _ :: _, _, h, _ => by simp [DataW.TrodAll] at h
  | _ :: _, [], _, _, h, _ => by simp [DataW.TrodAll] at h
  | _ :: _, _ :: _, [], _, h, _ => by simp [DataW.TrodAll] at h
theorem law_row (hte : TEok P te) {f : FuncId} {fn : Func} {s : ChangeSpec} {d : Nat} {tb : TypeId} (hl : laidOutB P = true) (hp : (fn.params.toList.all fun t => plainT te d t) = true)
    (hp2 : (fn.params.toList.all fun t => P.readableRec t && decide (t < P.types.size)) = true) (hres : fn.resultTypes = #[tb]) (hb : P.underlying tb = some .bool) (hvars : s.vars = [])
    (hfn : ∀ ds : List (DataW H), ds.length = fn.params.toList.length → (s.fn H ds).results = [.lit (.bool true)] ∧ (s.fn H ds).args = ds ∧ (s.fn H ds).vars = [])
    (hac : ∀ l, HasArgs te d fn.params.toList l → AC P f l emp (Ret (tf true)))
    {W : World} {base : Nat} {args : Array Value} {ds gs : List (DataW H)} {before : List MemPlace}
    (hval : ∀ (j : Nat) t v, fn.params[j]? = some t → args[j]? = some v → Value.okWide P W .any base t v) (hW : DataW.Whole enc P fn.params.toList s.vars false W args.toList ds gs before)
    (hsz : (DataW.weightsEach P (fn.params.toList ++ s.plain.varTypes P) (ds ++ gs)).all (· ≤ upB) = true) :
    Calls P f args W fun e W' => ∃ v, e = .returned v ∧ s.post enc P fn false true false false W args v W' := by
  have hW' := hW
  obtain ⟨p, q, hA, hV, rfl, hfz, hnd⟩ := hW
  rw [hvars] at hV
  obtain ⟨rfl, rfl⟩ := trodVars_none hV
  have hlen : ∀ {ts : List TypeId} {vs : List Value} {ds : List (DataW H)} {ps : List MemPlace}, DataW.TrodAll enc P W 0 (fun _ => true) true ts vs ds ps → ds.length = ts.length := by
    intro ts
    induction ts with
    | nil => intro vs ds ps h; cases vs <;> cases ds <;> first | rfl | (simp [DataW.TrodAll] at h)
    | cons t ts ih =>
      intro vs ds ps h
      cases vs with
      | nil => simp [DataW.TrodAll] at h
      | cons v vs =>
        cases ds with
        | nil => simp [DataW.TrodAll] at h
        | cons x ds =>
          obtain ⟨_, _, _, h2, _⟩ := h
          simp [ih h2]
  have hdl := hlen hA
  obtain ⟨l, l1, l2, l3⟩ := open_args hte hA hp (fun j t v ht hv => hval j t v (by simpa using ht) (by simpa using hv)) (fun m hm => by
    have := List.all_eq_true.1 hsz m ?_
    · simpa using this
    · rw [List.append_nil]
      have key : ∀ (ts us : List TypeId) (ds : List (DataW H)), m ∈ DataW.weightsEach P ts ds → m ∈ DataW.weightsEach P (ts ++ us) ds := by
        intro ts
        induction ts with
        | nil => intro us ds h; simp [DataW.weightsEach] at h
        | cons t ts ih =>
          intro us ds h
          cases ds with
          | nil => simp [DataW.weightsEach] at h
          | cons x ds =>
            simp only [DataW.weightsEach, List.mem_append, List.cons_append] at h ⊢
            exact h.imp id (ih us ds)
      exact key _ _ _ hm)
  obtain ⟨_, hcall⟩ := hac l l1
  have hs0 : HSim W noO noL emp := ⟨(fun id ob h => by cases h), fun _ _ => rfl, (fun id l b o h => by cases h), (fun id id' l l' b o o' h => by cases h), fun k b h => h.elim⟩
  refine hcall noL W noO args hs0 ⟨by simpa using l2, fun j c hj => by simpa using l3 j c hj⟩ _ ?_ ?_
  · intro r h' w' φ' v hR hs' g hr
    obtain ⟨hr1, _⟩ := hR
    cases hr1
    cases hr
    have bel : Below W.heap.size W w' := ⟨g.os, g.tape, g.output, g.size, fun k hk => g.keep k hk owned_none⟩
    obtain ⟨f1, f2, f3⟩ := hfn ds hdl
    refine ⟨_, rfl, ds, [], p ++ [], [], p, [], hW', ?_, ?_, ?_, bel.frame _, fun h => by cases h⟩
    · rw [List.append_nil, f1, hres]
      exact trodAll_mk1 (shut_bool hb true)
    · rw [List.append_nil, f2]
      exact trodAll_stay hl bel hA hp2
    · rw [List.append_nil, f3, hvars]
      rfl
  · intro x h' w' φ' hR
    exact absurd hR.1 (by simp)
end
section
variable {te : TE}
theorem has_str {d : Nat} {t : TypeId} {i : TI} {cs : List AV} (h : Has te d t cs) (hg : te.get t = some i) (hk : i.k = .str) : ∃ l : List UInt8, cs = [str l] ∧ l.length ≤ 1073741824 := by
  cases d with
  | zero => simp [Has] at h
  | succ d =>
    simp only [Has, hg, hk] at h
    obtain ⟨l, h1, h2⟩ := h
    exact ⟨l, h2, h1⟩
theorem arg_cons {d : Nat} {t : TypeId} {i : TI} {ts : List TypeId} {l : List AV} (h : HasArgs te d (t :: ts) l) (hg : te.get t = some i) : ∃ cs r, Has te d t cs ∧ HasArgs te d ts r ∧ l = mkAV i.k.agg cs :: r := by
  cases l with
  | nil => exact h.elim
  | cons a r =>
    obtain ⟨⟨i', cs, h1, h2, h3⟩, h4⟩ := h
    rw [hg] at h1
    cases h1
    subst h3
    exact ⟨cs, r, h2, h4, rfl⟩
theorem arg_nil {d : Nat} {l : List AV} (h : HasArgs te d [] l) : l = [] := by
  cases l with
  | nil => rfl
  | cons a r => exact h.elim
theorem args1 {d : Nat} {t : TypeId} {i : TI} {l : List AV} (h : HasArgs te d [t] l) (hg : te.get t = some i) : ∃ cs, Has te d t cs ∧ l = [mkAV i.k.agg cs] := by
  obtain ⟨cs, r, h1, h2, rfl⟩ := arg_cons h hg
  obtain rfl := arg_nil h2
  exact ⟨cs, h1, rfl⟩
theorem args2 {d : Nat} {t u : TypeId} {i j : TI} {l : List AV} (h : HasArgs te d [t, u] l) (hg : te.get t = some i) (hg2 : te.get u = some j) : ∃ cs es, Has te d t cs ∧ Has te d u es ∧ l = [mkAV i.k.agg cs, mkAV j.k.agg es] := by
  obtain ⟨cs, r, h1, h2, rfl⟩ := arg_cons h hg
  obtain ⟨es, h3, rfl⟩ := args1 h2 hg2
  exact ⟨cs, es, h1, h3, rfl⟩
end
section
variable {te : TE}
end
section
variable {H : Type} {P : Program} {K : Nat}
theorem one_le (d : DataW H) : 1 ≤ Rows.uptoBulk d := by
  cases d with
  | lit l => cases l <;> simp [Rows.uptoBulk]
  | nil => simp [Rows.uptoBulk]
  | ptr d => simp [Rows.uptoBulk]
  | slice elems spare => simp [Rows.uptoBulk]
  | agg parts => simp [Rows.uptoBulk]
  | iface t d => simp [Rows.uptoBulk]
  | map entries => simp [Rows.uptoBulk]
  | held h => simp [Rows.uptoBulk]
theorem len_le : ∀ l : List (DataW H), l.length ≤ Rows.uptoBulkAll l
  | [] => by simp [Rows.uptoBulkAll]
  | x :: r => by have := one_le x; have := len_le r; simp only [Rows.uptoBulkAll, List.length_cons]; omega
theorem le_mulr {m a b : Nat} (h : m ≤ a) (hb : 1 ≤ b) : m ≤ a * b := Nat.le_trans h (Nat.le_mul_of_pos_right _ hb)
theorem plain_desc {te : TE} (hte : TEok P te) {d : Nat} {t : TypeId} {D : TypeDesc} (h : plainT te d t = true) (hu : P.underlying t = some D) : ∃ d' i, d = d' + 1 ∧ te.get t = some i ∧ i.k.chk D = true := by
  cases d with
  | zero => simp [plainT] at h
  | succ d =>
    cases hg : te.get t with
    | none => simp [plainT, hg] at h
    | some i =>
      obtain ⟨D', h1, h2⟩ := (hte.tells hg).desc
      rw [hu] at h1
      cases h1
      exact ⟨d, i, rfl, rfl, h2⟩
theorem plain_slice {te : TE} (hte : TEok P te) {d : Nat} {t e : TypeId} (h : plainT te d t = true) (hu : P.underlying t = some (.slice e)) : ∃ d', plainT te d' e = true ∧ ∃ j, te.get e = some j := by
  obtain ⟨d', ⟨k, sz, by_, z⟩, rfl, hg, hc⟩ := plain_desc hte h hu
  cases k <;> simp only [TK.chk, Bool.false_eq_true] at hc
  rename_i e'
  have := Nat.eq_of_beq_eq_true hc
  subst this
  simp only [plainT, hg, Bool.and_eq_true] at h
  cases he : te.get e' with
  | none => rw [he] at h; cases h.2
  | some j => exact ⟨d', h.1, j, rfl⟩
theorem plain_arr {te : TE} (hte : TEok P te) {d n : Nat} {t e : TypeId} (h : plainT te d t = true) (hu : P.underlying t = some (.array n e)) : ∃ d', plainT te d' e = true := by
  obtain ⟨d', ⟨k, sz, by_, z⟩, rfl, hg, hc⟩ := plain_desc hte h hu
  cases k <;> simp only [TK.chk, Bool.false_eq_true, Bool.and_eq_true] at hc
  rename_i e'
  have := Nat.eq_of_beq_eq_true hc.2
  subst this
  simp only [plainT, hg, Bool.and_eq_true] at h
  exact ⟨d', h.1⟩
theorem plain_struct {te : TE} (hte : TEok P te) {d : Nat} {t : TypeId} {fs : Array Field} (h : plainT te d t = true) (hu : P.underlying t = some (.struct fs)) : ∃ d', ∀ t ∈ fs.toList.map (·.type), plainT te d' t = true := by
  obtain ⟨d', ⟨k, sz, by_, z⟩, rfl, hg, hc⟩ := plain_desc hte h hu
  cases k <;> simp only [TK.chk, Bool.false_eq_true] at hc
  rename_i l
  have hl : l = fs.toList.map fun f => (f.offset, f.type) := by simpa using hc
  simp only [plainT, hg, Bool.and_eq_true, List.all_eq_true] at h
  refine ⟨d', fun t ht => ?_⟩
  obtain ⟨f, hf, rfl⟩ := List.mem_map.1 ht
  exact h.2 (f.offset, f.type) (by rw [hl]; exact List.mem_map.2 ⟨f, hf, rfl⟩)
theorem plain_ptr {te : TE} (hte : TEok P te) {d : Nat} {t e : TypeId} (h : plainT te d t = true) (hu : P.underlying t = some (.pointer e)) : False := by
  obtain ⟨d', ⟨k, sz, by_, z⟩, rfl, hg, hc⟩ := plain_desc hte h hu
  cases k <;> simp only [TK.chk, Bool.false_eq_true] at hc
  simp [plainT, hg] at h
theorem plain_map {te : TE} (hte : TEok P te) {d : Nat} {t k e : TypeId} (h : plainT te d t = true) (hu : P.underlying t = some (.map k e)) : False := by
  obtain ⟨d', ⟨k, sz, by_, z⟩, rfl, hg, hc⟩ := plain_desc hte h hu
  cases k <;> simp only [TK.chk, Bool.false_eq_true] at hc
  simp [plainT, hg] at h
mutual
theorem w_le {te : TE} (hte : TEok P te) (hK : ∀ t j, te.get t = some j → P.bytesOf t ≤ K) (h1 : 1 ≤ K) : ∀ (x : DataW H) (d : Nat) (t : TypeId), plainT te d t = true → ∀ m ∈ x.weights P t, m ≤ Rows.uptoBulk x * K
  | .lit l, d, t, hp, m, h => by
    cases l with
    | string b =>
      simp only [DataW.weights, List.mem_singleton] at h
      subst h
      exact le_mulr (by simp [Rows.uptoBulk]) h1
    | _ => simp [DataW.weights] at h
  | .nil, d, t, hp, m, h => by simp [DataW.weights] at h
  | .ptr x, d, t, hp, m, h => by
    simp only [DataW.weights] at h
    split at h
    · rename_i hu; exact (plain_ptr hte hp hu).elim
    · cases h
  | .slice es sp, d, t, hp, m, h => by
    simp only [DataW.weights] at h
    split at h
    · rename_i e hu
      obtain ⟨d', hp', j, hj⟩ := plain_slice hte hp hu
      rcases List.mem_cons.1 h with rfl | h
      · have h2 := len_le es
        have h3 := len_le sp
        exact Nat.mul_le_mul (by simp only [Rows.uptoBulk]; omega) (hK _ _ hj)
      · rcases List.mem_append.1 h with h | h
        · exact Nat.le_trans (w_all hte hK h1 es d' e hp' m h) (Nat.mul_le_mul_right _ (by simp only [Rows.uptoBulk]; omega))
        · exact Nat.le_trans (w_all hte hK h1 sp d' e hp' m h) (Nat.mul_le_mul_right _ (by simp only [Rows.uptoBulk]; omega))
    · cases h
  | .agg ps, d, t, hp, m, h => by
    simp only [DataW.weights] at h
    split at h
    · rename_i fs hu
      obtain ⟨d', hp'⟩ := plain_struct hte hp hu
      exact Nat.le_trans (w_each hte hK h1 ps d' _ hp' m h) (Nat.mul_le_mul_right _ (by simp only [Rows.uptoBulk]; omega))
    · rename_i n e hu
      obtain ⟨d', hp'⟩ := plain_arr hte hp hu
      exact Nat.le_trans (w_all hte hK h1 ps d' e hp' m h) (Nat.mul_le_mul_right _ (by simp only [Rows.uptoBulk]; omega))
    · cases h
  | .iface t2 x, d, t, hp, m, h => by simp [DataW.weights] at h
  | .map es, d, t, hp, m, h => by
    simp only [DataW.weights] at h
    split at h
    · rename_i hu; exact (plain_map hte hp hu).elim
    · cases h
  | .held x, d, t, hp, m, h => by simp [DataW.weights] at h
theorem w_all {te : TE} (hte : TEok P te) (hK : ∀ t j, te.get t = some j → P.bytesOf t ≤ K) (h1 : 1 ≤ K) : ∀ (l : List (DataW H)) (d : Nat) (e : TypeId), plainT te d e = true → ∀ m ∈ DataW.weightsAll P e l, m ≤ Rows.uptoBulkAll l * K
  | [], d, e, hp, m, h => by simp [DataW.weightsAll] at h
  | x :: r, d, e, hp, m, h => by
    simp only [DataW.weightsAll, List.mem_append] at h
    rcases h with h | h
    · exact Nat.le_trans (w_le hte hK h1 x d e hp m h) (Nat.mul_le_mul_right _ (by simp only [Rows.uptoBulkAll]; omega))
    · exact Nat.le_trans (w_all hte hK h1 r d e hp m h) (Nat.mul_le_mul_right _ (by simp only [Rows.uptoBulkAll]; omega))
theorem w_each {te : TE} (hte : TEok P te) (hK : ∀ t j, te.get t = some j → P.bytesOf t ≤ K) (h1 : 1 ≤ K) : ∀ (l : List (DataW H)) (d : Nat) (ts : List TypeId), (∀ t ∈ ts, plainT te d t = true) → ∀ m ∈ DataW.weightsEach P ts l, m ≤ Rows.uptoBulkAll l * K
  | [], d, ts, hp, m, h => by cases ts <;> simp [DataW.weightsEach] at h
  | x :: r, d, [], hp, m, h => by simp [DataW.weightsEach] at h
  | x :: r, d, t :: ts, hp, m, h => by
    simp only [DataW.weightsEach, List.mem_append] at h
    rcases h with h | h
    · exact Nat.le_trans (w_le hte hK h1 x d t (hp t List.mem_cons_self) m h) (Nat.mul_le_mul_right _ (by simp only [Rows.uptoBulkAll]; omega))
    · exact Nat.le_trans (w_each hte hK h1 r d ts (fun t ht => hp t (List.mem_cons_of_mem _ ht)) m h) (Nat.mul_le_mul_right _ (by simp only [Rows.uptoBulkAll]; omega))
end
theorem sized {te : TE} (hte : TEok P te) (hb : (te.all fun p => Nat.ble p.2.bytes 1024) = true) {d : Nat} {ts us : List TypeId} {l : List (DataW H)} (hp : (ts.all fun t => plainT te d t) = true) (hus : us = []) (hk : Rows.uptoSmall H l = true) : (DataW.weightsEach P (ts ++ us) l).all (· ≤ upB) = true := by
  have h : Rows.uptoBulkAll l ≤ 1048576 := of_decide_eq_true hk
  subst hus
  rw [List.append_nil]
  refine List.all_eq_true.2 fun m hm => decide_eq_true ?_
  have hK : ∀ t j, te.get t = some j → P.bytesOf t ≤ 1024 := fun t j hg => by
    rw [((hte.tells hg).cells).2]
    have key : ∀ r : TE, (r.all fun p => Nat.ble p.2.bytes 1024) = true → TE.get r t = some j → j.bytes ≤ 1024 := by
      intro r
      induction r with
      | nil => intro _ h; cases h
      | cons p r ih =>
        intro h1 h2
        simp only [List.all_cons, Bool.and_eq_true] at h1
        simp only [TE.get] at h2
        cases hb : Nat.beq t p.1 with
        | true => rw [hb] at h2; cases h2; exact Nat.le_of_ble_eq_true h1.1
        | false => rw [hb] at h2; exact ih h1.2 h2
    exact key te hb hg
  have h2 := w_each hte hK (by decide) l d ts (fun t ht => List.all_eq_true.1 hp t ht) m hm
  show m ≤ 1073741824
  omega
end
end Go.Proofs.Ytfojdjlhpejbpaa.Fw.Up


