/- Q6: the cells of elements, and the arguments of laws that have them; no condition. -/
import Derived.Test.YtahkngplohnliaaQ5
import Derived.Test.YtahkngplohnliaaFwS
set_option linter.unusedVariables false
set_option linter.unusedSimpArgs false
namespace Go.Proofs.Ytahkngplohnliaa.Fw
open Go.RowKit
/-- The cell of a number, of a text, of a truth value; a list as a cell. -/
def ic (x : Int) : List AV := [i64 x]
def sc (x : List UInt8) : List AV := [str x]
def tc (x : Bool) : List AV := [tf x]
def lc {α : Type} (lv : Nat) (f : α → List AV) (l : List α) : List AV := [.fz lv l.length (cl f l)]
def kc (k : IntKind) (x : Int) : List AV := [.v (.int k x)]
theorem getD_mem {α : Type} [Inhabited α] {l : List α} {i : Nat} (h : i < l.length) : l.getD i default ∈ l := by
  rw [List.getD_eq_getElem?_getD, List.getElem?_eq_getElem h]
  exact List.getElem_mem h
section
variable {te : TE}
theorem has_sl {α : Type} {f : α → List AV} {q : α → Prop} {d : Nat} {t e : TypeId} {i j : TI} {cs : List AV} (h : Has te (d + 1) t cs) (hg : te.get t = some i) (hk : i.k = .slice e) (he : te.get e = some j)
    (hq : ∀ c, Has te d e c → ∃ a, c = f a ∧ q a) : ∃ l : List α, cs = [.fz 0 l.length (cl f l)] ∧ l.length * j.bytes ≤ 140737488351232 ∧ ∀ a ∈ l, q a := has_slice h hg hk he hq
theorem has_intsc {d : Nat} {t e : TypeId} {i j : TI} {cs : List AV} (h : Has te (d + 1) t cs) (hg : te.get t = some i) (hk : i.k = .slice e) (he : te.get e = some j) (hj : j.k = .int .i64) (hb : j.bytes = 8) :
    ∃ l : List Int, cs = [.fz 0 l.length (cl ic l)] ∧ l.length * 8 ≤ 140737488351232 ∧ ∀ n ∈ l, -9223372036854775808 ≤ n ∧ n ≤ 9223372036854775807 := by
  obtain ⟨l, h1, h2, h3⟩ := has_sl (f := ic) (q := fun n => -9223372036854775808 ≤ n ∧ n ≤ 9223372036854775807) h hg hk he fun c hc => by
    obtain ⟨b, h1, h2⟩ := has_int hc he hj
    exact ⟨b, h1, h2⟩
  exact ⟨l, h1, by rw [hb] at h2; exact h2, h3⟩
theorem has_bytess {d : Nat} {t e e2 : TypeId} {i j j2 : TI} {cs : List AV} (h : Has te (d + 2) t cs) (hg : te.get t = some i) (hk : i.k = .slice e) (he : te.get e = some j) (hj : j.k = .slice e2) (he2 : te.get e2 = some j2) (hj2 : j2.k = .int .u8) (hb2 : j2.bytes = 1) (hb : j.bytes = 24) :
    ∃ l : List (List UInt8), cs = [.fz 0 l.length (cl (lc 0 bc) l)] ∧ l.length * 24 ≤ 140737488351232 ∧ ∀ x ∈ l, x.length ≤ 140737488351232 := by
  obtain ⟨l, h1, h2, h3⟩ := has_sl (f := lc 0 bc) (q := fun x => x.length ≤ 140737488351232) h hg hk he fun c hc => by
    obtain ⟨b, h1, h2⟩ := has_bytes hc he hj he2 hj2 hb2
    exact ⟨b, h1, h2⟩
  exact ⟨l, h1, by rw [hb] at h2; exact h2, h3⟩
end
end Go.Proofs.Ytahkngplohnliaa.Fw
