/- Q6: the cells of elements, and the arguments of laws that have them; no condition. -/
import Derived.Test.YtaemmklgofddmaaQ5
import Derived.Test.YtaemmklgofddmaaFwS
import Derived.Lib.ConvBytes
import Derived.Laws.AppendOwn
set_option linter.unusedVariables false
set_option linter.unusedSimpArgs false
namespace Go.Proofs.Ytaemmklgofddmaa.Fw
open Go.RowKit
/-- The cell of a number, of a text, of a truth value; a list as a cell. -/
def ic (x : Int) : List AV := [i64 x]
def sc (x : List UInt8) : List AV := [str x]
def tc (x : Bool) : List AV := [tf x]
def lc {α : Type} (lv : Nat) (f : α → List AV) (l : List α) : List AV := [.fz lv l.length (cl f l)]
def kc (k : IntKind) (x : Int) : List AV := [.v (.int k x)]
theorem getD_mem {α : Type} [Inhabited α] {l : List α} {i : Nat} (h : i < l.length) : l.getD i default ∈ l := by
  rw [List.getD_eq_getElem?_getD, List.getElem?_eq_getElem h]
  exact List.getElem_mem h
/-- The bytes of a text, in a row of one's own. -/
theorem q_conv_sl (id : Nat) {n : Nat} {s : AS} {o : Oper} {d : Option Tmp} {src dst e : TypeId} {x : Operand} {l : List UInt8} {ti tj tk : TI} (ho : o.op = .convert src dst x := by exact rfl) (hx : s.ev x = str l := by exact rfl) (hi : te.get src = some ti := by exact rfl) (hk : ti.k = .str := by exact rfl)
    (hj : te.get dst = some tj := by exact rfl) (hk2 : tj.k = .slice e := by exact rfl) (he : te.get e = some tk := by exact rfl) (hk3 : tk.k = .int .u8 := by exact rfl) (hid : s.h id = none := by exact rfl)
    (hdd : o.dst = d := by conv => lhs; whnf) (hd : d.all (Nat.blt · n) = true := by exact rfl) : OpOk Try.prog n o s ((s.seth id (some (.row (cl bc l) 1 0))).put d (.sl id 0 0 l.length 1)) :=
  .chg hdd hd fun Λ w φ a hs => by
    have hrun := Lib.run_convert_string_bytes (P := Try.prog) w src dst e ⟨⟨l⟩⟩ ((te_ok.tells hi).str hk) ((te_ok.tells hj).slice hk2) ((te_ok.tells he).int hk3)
    have hn := hs.hs.dom id hid
    have hsz := Lib.bytesWorld_size w e ⟨⟨l⟩⟩
    have hnew := Lib.bytesWorld_at_new w e ⟨⟨l⟩⟩
    have hl : (⟨⟨l⟩⟩ : ByteArray).size = l.length := rfl
    have hc : Chg w φ Λ s.h id ⟨some (w.heap.size, 0), 0⟩ (Lib.bytesWorld w e ⟨⟨l⟩⟩) := by
      refine ⟨hs.hs, by omega, rfl, rfl, rfl, fun k hk _ => Lib.bytesWorld_at_old w e _ k hk, fun b' o' hb => ?_, fun l hl => ?_, fun l hl => ?_⟩
      · simp only [Option.some.injEq, Prod.mk.injEq] at hb
        obtain ⟨rfl, rfl⟩ := hb
        exact ⟨by omega, .inl (Nat.le_refl _)⟩
      · rw [hn] at hl; cases hl
      · rw [hn] at hl; cases hl
    have hcs : (Lib.bytesCells w e ⟨⟨l⟩⟩).size = l.length + (grownCap w l.length 0 e - l.length) := by simp [Lib.bytesCells, hl]
    refine ⟨_, _, _, ?_, hc, ⟨rfl, .inr ⟨w.heap.size, 0, _, e, _, _, rfl, hnew, .inl (Nat.le_refl _), by rw [bs_length]; omega, fun j c hj => ?_⟩⟩, .slice (some ⟨w.heap.size, 0, none⟩) l.length (grownCap w l.length 0 e), .inl rfl, ?_⟩
    · simp only [execOp, ho, ev_v hs hx, Sem.run_bind, hrun, Result.andThen_ok, Sem.run_pure, hl]
    · rw [bs_map, List.getElem?_map, Option.map_eq_some_iff] at hj
      obtain ⟨b, hb, rfl⟩ := hj
      have hlt := (List.getElem?_eq_some_iff.1 hb).1
      refine ⟨.int .u8 b.toNat, ?_, .v⟩
      have hb2 : l[j] = b := by
        rw [List.getElem?_eq_getElem hlt] at hb
        exact Option.some.inj hb
      simp [Lib.bytesCells, Array.getElem?_append, hlt, hb2]
    · have h0 := grownCap_ge w l.length 0 e
      exact Rep.sl (off := 0) (upd_same _ _ _) rfl rfl hnew (by omega) h0
section
variable {te : TE}
theorem has_sl {α : Type} {f : α → List AV} {q : α → Prop} {d : Nat} {t e : TypeId} {i j : TI} {cs : List AV} (h : Has te (d + 1) t cs) (hg : te.get t = some i) (hk : i.k = .slice e) (he : te.get e = some j)
    (hq : ∀ c, Has te d e c → ∃ a, c = f a ∧ q a) : ∃ l : List α, cs = [.fz 0 l.length (cl f l)] ∧ l.length * j.bytes ≤ 140737488351232 ∧ ∀ a ∈ l, q a := has_slice h hg hk he hq
theorem has_intsc {d : Nat} {t e : TypeId} {i j : TI} {cs : List AV} (h : Has te (d + 1) t cs) (hg : te.get t = some i) (hk : i.k = .slice e) (he : te.get e = some j) (hj : j.k = .int .i64) (hb : j.bytes = 8) :
    ∃ l : List Int, cs = [.fz 0 l.length (cl ic l)] ∧ l.length * 8 ≤ 140737488351232 ∧ ∀ n ∈ l, -9223372036854775808 ≤ n ∧ n ≤ 9223372036854775807 := by
  obtain ⟨l, h1, h2, h3⟩ := has_sl (f := ic) (q := fun n => -9223372036854775808 ≤ n ∧ n ≤ 9223372036854775807) h hg hk he fun c hc => by
    obtain ⟨b, h1, h2⟩ := has_int hc he hj
    exact ⟨b, h1, h2⟩
  exact ⟨l, h1, by rw [hb] at h2; exact h2, h3⟩
theorem has_bytess {d : Nat} {t e e2 : TypeId} {i j j2 : TI} {cs : List AV} (h : Has te (d + 2) t cs) (hg : te.get t = some i) (hk : i.k = .slice e) (he : te.get e = some j) (hj : j.k = .slice e2) (he2 : te.get e2 = some j2) (hj2 : j2.k = .int .u8) (hb2 : j2.bytes = 1) (hb : j.bytes = 24) :
    ∃ l : List (List UInt8), cs = [.fz 0 l.length (cl (lc 0 bc) l)] ∧ l.length * 24 ≤ 140737488351232 ∧ ∀ x ∈ l, x.length ≤ 140737488351232 := by
  obtain ⟨l, h1, h2, h3⟩ := has_sl (f := lc 0 bc) (q := fun x => x.length ≤ 140737488351232) h hg hk he fun c hc => by
    obtain ⟨b, h1, h2⟩ := has_bytes hc he hj he2 hj2 hb2
    exact ⟨b, h1, h2⟩
  exact ⟨l, h1, by rw [hb] at h2; exact h2, h3⟩
end
end Go.Proofs.Ytaemmklgofddmaa.Fw
