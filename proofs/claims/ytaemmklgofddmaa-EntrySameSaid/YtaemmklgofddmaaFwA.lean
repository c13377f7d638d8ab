/- Fw1: abstract values over the model's values; what they stand for; no condition. -/
import Derived.Below
import Derived.WalkKit
set_option linter.unusedVariables false
namespace Go.Proofs.Ytaemmklgofddmaa.Fw
open Go.RowKit

/-- Abstract values. -/
inductive AV where
  | v (x : Value)
  | any
  | bl
  | ptr (id ver off : Nat)
  | sl (id ver off len esz : Nat)
  | fz (lv n : Nat) (cells : List AV)
  | fp (lv : Nat) (cells : List AV)
  | agg (cells : List AV)
  | tup (cells : List AV)
  | fn (f : Fn) (first caps : List AV)
  | ifc (t : TypeId) (x : AV)
  | mp (id ver : Nat)
  | dp (id ver off len : Nat)
  deriving Inhabited

mutual
/-- No reference to an own object; all levels at most lv. -/
def AV.ok (lv : Nat) : AV → Bool
  | .v _ | .any | .bl => true
  | .ptr .. | .sl .. | .mp .. | .dp .. => false
  | .fz l _ _ | .fp l _ => Nat.ble l lv
  | .agg cs | .tup cs => AV.oks lv cs
  | .fn _ a b => AV.oks lv a && AV.oks lv b
  | .ifc _ x => x.ok lv
def AV.oks (lv : Nat) : List AV → Bool
  | [] => true
  | c :: cs => c.ok lv && AV.oks lv cs
end

theorem AV.oks_iff {lv : Nat} : ∀ {l : List AV}, AV.oks lv l = true ↔ ∀ c ∈ l, c.ok lv = true
  | [] => by simp [AV.oks]
  | c :: cs => by simp [AV.oks, AV.oks_iff (l := cs)]

theorem AV.oks_of {lv : Nat} {l : List AV} (h : ∀ c ∈ l, c.ok lv = true) : AV.oks lv l = true := AV.oks_iff.2 h

mutual
theorem AV.ok_mono {l1 l2 : Nat} (h : l1 ≤ l2) : ∀ {x : AV}, x.ok l1 = true → x.ok l2 = true
  | .v _, _ | .any, _ | .bl, _ => rfl
  | .ptr .., h1 | .sl .., h1 | .mp .., h1 | .dp .., h1 => by simp [AV.ok] at h1
  | .fz l _ _, h1 | .fp l _, h1 => by
    simp only [AV.ok] at h1 ⊢
    exact Nat.ble_eq_true_of_le (Nat.le_trans (Nat.le_of_ble_eq_true h1) h)
  | .agg cs, h1 | .tup cs, h1 => by
    simp only [AV.ok] at h1 ⊢
    exact AV.oks_mono h h1
  | .fn _ a b, h1 => by
    simp only [AV.ok, Bool.and_eq_true] at h1 ⊢
    exact ⟨AV.oks_mono h h1.1, AV.oks_mono h h1.2⟩
  | .ifc _ x, h1 => by
    simp only [AV.ok] at h1 ⊢
    exact AV.ok_mono h h1
theorem AV.oks_mono {l1 l2 : Nat} (h : l1 ≤ l2) : ∀ {x : List AV}, AV.oks l1 x = true → AV.oks l2 x = true
  | [], _ => rfl
  | c :: cs, h1 => by
    simp only [AV.oks, Bool.and_eq_true] at h1 ⊢
    exact ⟨AV.ok_mono h h1.1, AV.oks_mono h h1.2⟩
end

/-- Where an own object lies. -/
structure Loc where
  bo : Option (Nat × Nat)
  ver : Nat

abbrev PMap := Nat → Option Loc
def owned (φ : PMap) (b : Nat) : Prop := ∃ id l o, φ id = some l ∧ l.bo = some (b, o)
abbrev Lent := Nat → Nat → Prop
def may (φ : PMap) (Λ : Lent) (lv b : Nat) : Prop := ¬ owned φ b ∧ ∀ k, lv < k → ¬ Λ k b

inductive Rep (w : World) (φ : PMap) (Λ : Lent) : AV → Value → Prop
  | v {x} : Rep w φ Λ (.v x) x
  | any {x} : Rep w φ Λ .any x
  | bl {b} : Rep w φ Λ .bl (.bool b)
  | fz0 {lv a cap} : Rep w φ Λ (.fz lv 0 []) (.slice a 0 cap)
  | fz {lv n cells b o cap} (vf : Nat → Value) : may φ Λ lv b → n ≤ cap → (∀ c ∈ cells, c.ok lv = true) →
      (∀ j, j < cells.length → w.cell? ⟨b, o + j, none⟩ = some (vf j)) → (∀ j c, cells[j]? = some c → Rep w φ Λ c (vf j)) →
      0 < cells.length → Rep w φ Λ (.fz lv n cells) (.slice (some ⟨b, o, none⟩) n cap)
  | fp {lv cells b o} (vf : Nat → Value) : may φ Λ lv b → (∀ c ∈ cells, c.ok lv = true) →
      (∀ j, j < cells.length → w.cell? ⟨b, o + j, none⟩ = some (vf j)) → (∀ j c, cells[j]? = some c → Rep w φ Λ c (vf j)) →
      0 < cells.length → Rep w φ Λ (.fp lv cells) (.pointer (some ⟨b, o, none⟩))
  | agg {cells vs} (vf : Nat → Value) : vs.size = cells.length → (∀ j, j < cells.length → vs[j]? = some (vf j)) → (∀ j c, cells[j]? = some c → Rep w φ Λ c (vf j)) →
      Rep w φ Λ (.agg cells) (.agg vs)
  | tup {cells vs} (vf : Nat → Value) : vs.size = cells.length → (∀ j, j < cells.length → vs[j]? = some (vf j)) → (∀ j c, cells[j]? = some c → Rep w φ Λ c (vf j)) →
      Rep w φ Λ (.tup cells) (.tuple vs)
  | fn {f first caps a b} (vf wf : Nat → Value) : a.size = first.length → (∀ j, j < first.length → a[j]? = some (vf j)) → (∀ j c, first[j]? = some c → Rep w φ Λ c (vf j)) →
      b.size = caps.length → (∀ j, j < caps.length → b[j]? = some (wf j)) → (∀ j c, caps[j]? = some c → Rep w φ Λ c (wf j)) →
      Rep w φ Λ (.fn f first caps) (.func f a b)
  | ifc {t x v} : Rep w φ Λ x v → Rep w φ Λ (.ifc t x) (.iface t v)
  | ptr {id ver off l b o} : φ id = some l → l.ver = ver → l.bo = some (b, o) → Rep w φ Λ (.ptr id ver off) (.pointer (some ⟨b, o + off, none⟩))
  | ptrx {id ver off l a} : φ id = some l → ver < l.ver → Rep w φ Λ (.ptr id ver off) (.pointer (some a))
  | sl {id ver off len esz l b o cap arr T m} : φ id = some l → l.ver = ver → l.bo = some (b, o) → w.heap[b]? = some (.cells arr T m) →
      o + off + cap * esz ≤ arr.size → len ≤ cap → Rep w φ Λ (.sl id ver off len esz) (.slice (some ⟨b, o + off, none⟩) len cap)
  | sl0 {id ver off esz l a} : φ id = some l → l.ver = ver → Rep w φ Λ (.sl id ver off 0 esz) (.slice a 0 0)
  | slx {id ver off len esz l a cap} : φ id = some l → ver < l.ver → len ≤ cap → Rep w φ Λ (.sl id ver off len esz) (.slice a len cap)
  | mp {id ver l b o} : φ id = some l → l.ver = ver → l.bo = some (b, o) → Rep w φ Λ (.mp id ver) (.map (some b))
  | mpx {id ver l b} : φ id = some l → ver < l.ver → Rep w φ Λ (.mp id ver) (.map (some b))
  | dp {id ver off len l b o arr T m} : φ id = some l → l.ver = ver → l.bo = some (b, o) → w.heap[b]? = some (.cells arr T m) → o + off + len ≤ arr.size → Rep w φ Λ (.dp id ver off len) (.pointer (some ⟨b, o + off, none⟩))
  | dp0 {id ver off l a} : φ id = some l → Rep w φ Λ (.dp id ver off 0) (.pointer a)
  | dpx {id ver off len l a} : φ id = some l → ver < l.ver → Rep w φ Λ (.dp id ver off len) (.pointer a)

/-- The objects below 8 (those that were borrowed) stay. -/
def Pin (w : World) (φ : PMap) (w' : World) (φ' : PMap) : Prop :=
  ∀ id l, id < 8 → φ id = some l → ∃ l', φ' id = some l' ∧ (l' = l ∨ l.ver < l'.ver) ∧
    (l' = l → ∀ b o arr T m, l.bo = some (b, o) → w.heap[b]? = some (.cells arr T m) → ∃ arr' T' m', w'.heap[b]? = some (.cells arr' T' m') ∧ arr.size ≤ arr'.size)
theorem Pin.refl (w : World) (φ : PMap) : Pin w φ w φ := fun id l _ h => ⟨l, h, .inl rfl, fun _ b o arr T m _ hh => ⟨arr, T, m, hh, Nat.le_refl _⟩⟩
theorem Pin.trans {w w1 w2 : World} {φ φ1 φ2 : PMap} (h : Pin w φ w1 φ1) (k : Pin w1 φ1 w2 φ2) : Pin w φ w2 φ2 := by
  intro id l hid hl
  obtain ⟨l1, h1, h2, h3⟩ := h id l hid hl
  obtain ⟨l2, k1, k2, k3⟩ := k id l1 hid h1
  refine ⟨l2, k1, ?_, ?_⟩
  · rcases h2 with rfl | h2
    · exact k2
    · rcases k2 with rfl | k2
      · exact .inr h2
      · exact .inr (by omega)
  · intro e b o arr T m hb hh
    have e1 : l1 = l := by
      rcases h2 with h2 | h2
      · exact h2
      · rcases k2 with rfl | k2
        · exact e
        · subst e; omega
    subst e1
    obtain ⟨arr1, T1, m1, g1, g2⟩ := h3 rfl b o arr T m hb hh
    obtain ⟨arr2, T2, m2, g3, g4⟩ := k3 e b o arr1 T1 m1 hb g1
    exact ⟨arr2, T2, m2, g3, by omega⟩
theorem Pin.none (w w' : World) {φ φ' : PMap} (h : ∀ id, id < 8 → φ id = Option.none) : Pin w φ w' φ' := fun id l hid hl => by
  rw [h id hid] at hl
  cases hl

/-- How the world and the own objects go on. -/
structure Goes (w : World) (φ : PMap) (w' : World) (φ' : PMap) : Prop where
  keep : ∀ b, b < w.heap.size → ¬ owned φ b → w'.heap[b]? = w.heap[b]?
  size : w.heap.size ≤ w'.heap.size
  own : ∀ b, owned φ' b → owned φ b ∨ w.heap.size ≤ b
  os : w'.os = w.os
  tape : w'.tape = w.tape
  output : w'.output = w.output
  pin : Pin w φ w' φ'

theorem Goes.refl (w : World) (φ : PMap) : Goes w φ w φ := ⟨fun _ _ _ => rfl, Nat.le_refl _, fun _ h => .inl h, rfl, rfl, rfl, .refl w φ⟩
theorem Goes.trans {w w1 w2 : World} {φ φ1 φ2 : PMap} (h : Goes w φ w1 φ1) (k : Goes w1 φ1 w2 φ2) : Goes w φ w2 φ2 where
  keep b hb ho := by
    have h1 : ¬ owned φ1 b := fun h1 => (h.own b h1).elim ho (fun h2 => by omega)
    rw [k.keep b (Nat.lt_of_lt_of_le hb h.size) h1, h.keep b hb ho]
  size := Nat.le_trans h.size k.size
  own b hb := by
    rcases k.own b hb with h1 | h1
    · exact h.own b h1
    · exact .inr (Nat.le_trans h.size h1)
  os := k.os.trans h.os
  tape := k.tape.trans h.tape
  output := k.output.trans h.output
  pin := h.pin.trans k.pin

theorem may.goes {w w' : World} {φ φ' : PMap} {Λ : Lent} (g : Goes w φ w' φ') {lv b : Nat} (hb : b < w.heap.size) (h : may φ Λ lv b) : may φ' Λ lv b :=
  ⟨fun h1 => (g.own b h1).elim h.1 (fun h2 => by omega), h.2⟩

/-- Own references stay: the location is the same, or the version has gone up. -/
def Stays (w : World) (φ : PMap) (w' : World) (φ' : PMap) : Prop :=
  (∀ id l, φ id = some l → ∃ l', φ' id = some l' ∧ (l' = l ∨ l.ver < l'.ver)) ∧
  (∀ id l, φ id = some l → φ' id = some l → ∀ b o arr T m, l.bo = some (b, o) → w.heap[b]? = some (.cells arr T m) → ∃ arr' T' m', w'.heap[b]? = some (.cells arr' T' m') ∧ arr.size ≤ arr'.size)

theorem Stays.pin {w w' : World} {φ φ' : PMap} (st : Stays w φ w' φ') : Pin w φ w' φ' := fun id l _ h => by
  obtain ⟨l', h1, h2⟩ := st.1 id l h
  exact ⟨l', h1, h2, fun e b o arr T m hb hh => st.2 id l h (e ▸ h1) b o arr T m hb hh⟩

theorem cell?_lt {w : World} {b o : Nat} {x : Value} (h : w.cell? ⟨b, o, none⟩ = some x) : b < w.heap.size := block_lt_of_cell h

theorem Rep.goes {w w' : World} {φ φ' : PMap} {Λ : Lent} (g : Goes w φ w' φ') (st : Stays w φ w' φ') {x : AV} {v : Value} (h : Rep w φ Λ x v) : Rep w' φ' Λ x v := by
  induction h with
  | v => exact .v
  | any => exact .any
  | bl => exact .bl
  | fz0 => exact .fz0
  | fz vf hm hn hok hc hr hp ih =>
    have hb := cell?_lt (hc 0 hp)
    refine .fz vf (hm.goes g hb) hn hok (fun j hj => ?_) ih hp
    rw [World.cell?_of_block (g.keep _ hb hm.1)]
    exact hc j hj
  | fp vf hm hok hc hr hp ih =>
    have hb := cell?_lt (hc 0 hp)
    refine .fp vf (hm.goes g hb) hok (fun j hj => ?_) ih hp
    rw [World.cell?_of_block (g.keep _ hb hm.1)]
    exact hc j hj
  | agg vf h1 h2 h3 ih => exact .agg vf h1 h2 ih
  | tup vf h1 h2 h3 ih => exact .tup vf h1 h2 ih
  | fn vf wf h1 h2 h3 h4 h5 h6 ih1 ih2 => exact .fn vf wf h1 h2 ih1 h4 h5 ih2
  | ifc h ih => exact .ifc ih
  | ptr h1 h2 h3 =>
    obtain ⟨l', h4, h5⟩ := st.1 _ _ h1
    rcases h5 with rfl | h5
    · exact .ptr h4 h2 h3
    · exact .ptrx h4 (by omega)
  | ptrx h1 h2 =>
    obtain ⟨l', h4, h5⟩ := st.1 _ _ h1
    rcases h5 with rfl | h5
    · exact .ptrx h4 h2
    · exact .ptrx h4 (by omega)
  | sl h1 h2 h3 h4 h5 h6 =>
    obtain ⟨l', h7, h8⟩ := st.1 _ _ h1
    rcases h8 with rfl | h8
    · obtain ⟨arr', T', m', h9, h10⟩ := st.2 _ _ h1 h7 _ _ _ _ _ h3 h4
      exact .sl h7 h2 h3 h9 (by omega) h6
    · exact .slx h7 (by omega) h6
  | sl0 h1 h2 =>
    obtain ⟨l', h4, h5⟩ := st.1 _ _ h1
    rcases h5 with rfl | h5
    · exact .sl0 h4 h2
    · exact .slx h4 (by omega) (Nat.le_refl _)
  | slx h1 h2 h3 =>
    obtain ⟨l', h4, h5⟩ := st.1 _ _ h1
    rcases h5 with rfl | h5
    · exact .slx h4 h2 h3
    · exact .slx h4 (by omega) h3
  | mp h1 h2 h3 =>
    obtain ⟨l', h4, h5⟩ := st.1 _ _ h1
    rcases h5 with rfl | h5
    · exact .mp h4 h2 h3
    · exact .mpx h4 (by omega)
  | dp h1 h2 h3 h4 h5 =>
    obtain ⟨l', h7, h8⟩ := st.1 _ _ h1
    rcases h8 with rfl | h8
    · obtain ⟨arr', T', m', h9, h10⟩ := st.2 _ _ h1 h7 _ _ _ _ _ h3 h4
      exact .dp h7 h2 h3 h9 (by omega)
    · exact .dpx h7 (by omega)
  | dp0 h1 =>
    obtain ⟨l', h7, _⟩ := st.1 _ _ h1
    exact .dp0 h7
  | dpx h1 h2 =>
    obtain ⟨l', h4, h5⟩ := st.1 _ _ h1
    rcases h5 with rfl | h5
    · exact .dpx h4 h2
    · exact .dpx h4 (by omega)
  | mpx h1 h2 =>
    obtain ⟨l', h4, h5⟩ := st.1 _ _ h1
    rcases h5 with rfl | h5
    · exact .mpx h4 h2
    · exact .mpx h4 (by omega)

/-- What has no own reference stands for the same among other own objects. -/
theorem Rep.move {w : World} {φ φ' : PMap} {Λ Λ' : Lent} {lv : Nat} (hm : ∀ lv' b, lv' ≤ lv → b < w.heap.size → may φ Λ lv' b → may φ' Λ' lv' b) {x : AV} {v : Value}
    (h : Rep w φ Λ x v) (hok : x.ok lv = true) : Rep w φ' Λ' x v := by
  induction h with
  | v => exact .v
  | any => exact .any
  | bl => exact .bl
  | fz0 => exact .fz0
  | fz vf hm' hn hok' hc hr hp ih =>
    have hl : _ ≤ lv := Nat.le_of_ble_eq_true (by simpa [AV.ok] using hok)
    refine .fz vf (hm _ _ hl (cell?_lt (hc 0 hp)) hm') hn hok' hc (fun j c hj => ih j c hj ?_) hp
    have h1 := hok' c (List.mem_of_getElem? hj)
    exact AV.ok_mono hl h1
  | fp vf hm' hok' hc hr hp ih =>
    have hl : _ ≤ lv := Nat.le_of_ble_eq_true (by simpa [AV.ok] using hok)
    refine .fp vf (hm _ _ hl (cell?_lt (hc 0 hp)) hm') hok' hc (fun j c hj => ih j c hj ?_) hp
    have h1 := hok' c (List.mem_of_getElem? hj)
    exact AV.ok_mono hl h1
  | agg vf h1 h2 h3 ih => exact .agg vf h1 h2 (fun j c hj => ih j c hj (AV.oks_iff.1 (by simpa [AV.ok] using hok) c (List.mem_of_getElem? hj)))
  | tup vf h1 h2 h3 ih => exact .tup vf h1 h2 (fun j c hj => ih j c hj (AV.oks_iff.1 (by simpa [AV.ok] using hok) c (List.mem_of_getElem? hj)))
  | fn vf wf h1 h2 h3 h4 h5 h6 ih1 ih2 =>
    simp only [AV.ok, Bool.and_eq_true] at hok
    exact .fn vf wf h1 h2 (fun j c hj => ih1 j c hj (AV.oks_iff.1 hok.1 c (List.mem_of_getElem? hj))) h4 h5 (fun j c hj => ih2 j c hj (AV.oks_iff.1 hok.2 c (List.mem_of_getElem? hj)))
  | ifc h ih => exact .ifc (ih (by simpa [AV.ok] using hok))
  | ptr h1 h2 h3 => simp [AV.ok] at hok
  | ptrx h1 h2 => simp [AV.ok] at hok
  | sl h1 h2 h3 h4 h5 h6 => simp [AV.ok] at hok
  | sl0 h1 h2 => simp [AV.ok] at hok
  | slx h1 h2 h3 => simp [AV.ok] at hok
  | mp h1 h2 h3 => simp [AV.ok] at hok
  | mpx h1 h2 => simp [AV.ok] at hok
  | dp h1 h2 h3 h4 h5 => simp [AV.ok] at hok
  | dp0 h1 => simp [AV.ok] at hok
  | dpx h1 h2 => simp [AV.ok] at hok

end Go.Proofs.Ytaemmklgofddmaa.Fw
