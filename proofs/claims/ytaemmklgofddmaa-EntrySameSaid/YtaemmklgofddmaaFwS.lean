/- Fw19: the arguments of laws by their shapes; no condition. -/
import Derived.Test.YtaemmklgofddmaaFwP
import Derived.Test.YtaemmklgofddmaaFwR
set_option linter.unusedVariables false
set_option linter.unusedSimpArgs false
namespace Go.Proofs.Ytaemmklgofddmaa.Fw
open Go.RowKit

theorem flatMap_one {α β : Type} (f : α → β) : ∀ l : List α, (l.flatMap fun x => [f x]) = l.map f
  | [] => rfl
  | a :: l => by rw [List.flatMap_cons, flatMap_one f l]; rfl

section
variable {te : TE}
/-- Bytes. -/
theorem has_u8 {d : Nat} {t : TypeId} {i : TI} {cs : List AV} (h : Has te d t cs) (hg : te.get t = some i) (hk : i.k = .int .u8) : ∃ b : UInt8, cs = [u8 b.toNat] := by
  cases d with
  | zero => simp [Has] at h
  | succ d =>
    simp only [Has, hg, hk] at h
    obtain ⟨n, h1, rfl⟩ := h
    have h2 : (0 : Int) ≤ n ∧ n ≤ 255 := by
      simp only [Lit.wf, Bool.and_eq_true, decide_eq_true_eq] at h1
      have e1 : IntKind.u8.min = 0 := by decide
      have e2 : IntKind.u8.max = 255 := by decide
      omega
    refine ⟨byte n, ?_⟩
    rw [byte_toNat, Int.emod_eq_of_lt h2.1 (by omega)]
theorem has_int {d : Nat} {t : TypeId} {i : TI} {cs : List AV} (h : Has te d t cs) (hg : te.get t = some i) (hk : i.k = .int .i64) : ∃ n : Int, cs = [i64 n] ∧ -9223372036854775808 ≤ n ∧ n ≤ 9223372036854775807 := by
  cases d with
  | zero => simp [Has] at h
  | succ d =>
    simp only [Has, hg, hk] at h
    obtain ⟨n, h1, rfl⟩ := h
    simp only [Lit.wf, Bool.and_eq_true, decide_eq_true_eq] at h1
    have e1 : IntKind.i64.min = -9223372036854775808 := by decide
    have e2 : IntKind.i64.max = 9223372036854775807 := by decide
    exact ⟨n, rfl, by omega, by omega⟩
theorem has_bool {d : Nat} {t : TypeId} {i : TI} {cs : List AV} (h : Has te d t cs) (hg : te.get t = some i) (hk : i.k = .bool) : ∃ b : Bool, cs = [tf b] := by
  cases d with
  | zero => simp [Has] at h
  | succ d => simpa only [Has, hg, hk] using h
theorem has_str {d : Nat} {t : TypeId} {i : TI} {cs : List AV} (h : Has te d t cs) (hg : te.get t = some i) (hk : i.k = .str) : ∃ l : List UInt8, cs = [str l] ∧ l.length ≤ 140737488351232 := by
  cases d with
  | zero => simp [Has] at h
  | succ d =>
    simp only [Has, hg, hk] at h
    obtain ⟨l, h1, h2⟩ := h
    exact ⟨l, h2, h1⟩

/-- A list of what each of a list is. -/
theorem choose_map {α β : Type} {p : α → β → Prop} : ∀ {es : List β}, (∀ c ∈ es, ∃ a, p a c) → ∃ l : List α, l.length = es.length ∧ ∀ (j : Nat) a c, l[j]? = some a → es[j]? = some c → p a c
  | [], _ => ⟨[], rfl, fun j a c h => by simp at h⟩
  | c :: es, h => by
    obtain ⟨a, ha⟩ := h c List.mem_cons_self
    obtain ⟨l, h1, h2⟩ := choose_map fun x hx => h x (List.mem_cons_of_mem _ hx)
    refine ⟨a :: l, by simp [h1], fun j a' c' h3 h4 => ?_⟩
    cases j with
    | zero => simp at h3 h4; subst h3; subst h4; exact ha
    | succ j => exact h2 j a' c' (by simpa using h3) (by simpa using h4)
/-- Elements that are each a function of something. -/
theorem choose_eq {α : Type} {f : α → List AV} {q : α → Prop} : ∀ {es : List (List AV)}, (∀ c ∈ es, ∃ a, c = f a ∧ q a) → ∃ l : List α, es = l.map f ∧ ∀ a ∈ l, q a
  | [], _ => ⟨[], rfl, fun a h => by simp at h⟩
  | c :: es, h => by
    obtain ⟨a, rfl, ha⟩ := h c List.mem_cons_self
    obtain ⟨l, h1, h2⟩ := choose_eq fun x hx => h x (List.mem_cons_of_mem _ hx)
    refine ⟨a :: l, by rw [h1]; rfl, fun x hx => ?_⟩
    rcases List.mem_cons.1 hx with rfl | hx
    · exact ha
    · exact h2 x hx
/-- A slice whose elements are each a function of something. -/
theorem has_slice {α : Type} {f : α → List AV} {q : α → Prop} {d : Nat} {t e : TypeId} {i j : TI} {cs : List AV} (h : Has te (d + 1) t cs) (hg : te.get t = some i) (hk : i.k = .slice e) (he : te.get e = some j)
    (hq : ∀ c, Has te d e c → ∃ a, c = f a ∧ q a) : ∃ l : List α, cs = [.fz 0 l.length (l.flatMap f)] ∧ l.length * j.bytes ≤ 140737488351232 ∧ ∀ a ∈ l, q a := by
  simp only [Has, hg, hk] at h
  obtain ⟨es, h1, h2, h3⟩ := h
  obtain ⟨l, rfl, h4⟩ := choose_eq (f := f) (q := q) fun c hc => hq c (h1 c hc)
  exact ⟨l, by rw [h3, List.length_map, List.flatMap_def], by have := h2 j he; rw [List.length_map] at this; exact this, h4⟩
theorem has_bytes {d : Nat} {t e : TypeId} {i j : TI} {cs : List AV} (h : Has te (d + 1) t cs) (hg : te.get t = some i) (hk : i.k = .slice e) (he : te.get e = some j) (hj : j.k = .int .u8) (hb : j.bytes = 1) :
    ∃ l : List UInt8, cs = [.fz 0 l.length (cl bc l)] ∧ l.length ≤ 140737488351232 := by
  obtain ⟨l, h1, h2, _⟩ := has_slice (f := bc) (q := fun _ => True) h hg hk he fun c hc => by
    obtain ⟨b, hb⟩ := has_u8 hc he hj
    exact ⟨b, hb, trivial⟩
  exact ⟨l, h1, by rw [hb] at h2; omega⟩
theorem has_ints {d : Nat} {t e : TypeId} {i j : TI} {cs : List AV} (h : Has te (d + 1) t cs) (hg : te.get t = some i) (hk : i.k = .slice e) (he : te.get e = some j) (hj : j.k = .int .i64) (hb : j.bytes = 8) :
    ∃ l : List Int, cs = [.fz 0 l.length (l.map fun n => i64 n)] ∧ l.length * 8 ≤ 140737488351232 ∧ ∀ n ∈ l, -9223372036854775808 ≤ n ∧ n ≤ 9223372036854775807 := by
  obtain ⟨l, h1, h2, h3⟩ := has_slice (f := fun n : Int => [i64 n]) (q := fun n => -9223372036854775808 ≤ n ∧ n ≤ 9223372036854775807) h hg hk he fun c hc => by
    obtain ⟨b, h1, h2⟩ := has_int hc he hj
    exact ⟨b, h1, h2⟩
  refine ⟨l, ?_, by rw [hb] at h2; exact h2, h3⟩
  rw [h1]
  congr 2
  exact flatMap_one _ _
theorem arg_cons {d : Nat} {t : TypeId} {i : TI} {ts : List TypeId} {l : List AV} (h : HasArgs te d (t :: ts) l) (hg : te.get t = some i) : ∃ cs r, Has te d t cs ∧ HasArgs te d ts r ∧ l = mkAV i.k.agg cs :: r := by
  cases l with
  | nil => exact h.elim
  | cons a r =>
    obtain ⟨⟨i', cs, h1, h2, h3⟩, h4⟩ := h
    rw [hg] at h1
    cases h1
    subst h3
    exact ⟨cs, r, h2, h4, rfl⟩
theorem arg_nil {d : Nat} {l : List AV} (h : HasArgs te d [] l) : l = [] := by
  cases l with
  | nil => rfl
  | cons a r => exact h.elim
theorem args1 {d : Nat} {t : TypeId} {i : TI} {l : List AV} (h : HasArgs te d [t] l) (hg : te.get t = some i) : ∃ cs, Has te d t cs ∧ l = [mkAV i.k.agg cs] := by
  obtain ⟨cs, r, h1, h2, rfl⟩ := arg_cons h hg
  obtain rfl := arg_nil h2
  exact ⟨cs, h1, rfl⟩
theorem args2 {d : Nat} {t u : TypeId} {i j : TI} {l : List AV} (h : HasArgs te d [t, u] l) (hg : te.get t = some i) (hg2 : te.get u = some j) : ∃ cs es, Has te d t cs ∧ Has te d u es ∧ l = [mkAV i.k.agg cs, mkAV j.k.agg es] := by
  obtain ⟨cs, r, h1, h2, rfl⟩ := arg_cons h hg
  obtain ⟨es, h3, rfl⟩ := args1 h2 hg2
  exact ⟨cs, es, h1, h3, rfl⟩
theorem args3 {d : Nat} {t u v : TypeId} {i j k : TI} {l : List AV} (h : HasArgs te d [t, u, v] l) (hg : te.get t = some i) (hg2 : te.get u = some j) (hg3 : te.get v = some k) :
    ∃ cs es fs, Has te d t cs ∧ Has te d u es ∧ Has te d v fs ∧ l = [mkAV i.k.agg cs, mkAV j.k.agg es, mkAV k.k.agg fs] := by
  obtain ⟨cs, r, h1, h2, rfl⟩ := arg_cons h hg
  obtain ⟨es, fs, h3, h4, rfl⟩ := args2 h2 hg2 hg3
  exact ⟨cs, es, fs, h1, h3, h4, rfl⟩
theorem has_struct {d : Nat} {t : TypeId} {i : TI} {fs : List (Nat × TypeId)} {cs : List AV} (h : Has te (d + 1) t cs) (hg : te.get t = some i) (hk : i.k = .struct fs) : hasFs (Has te d) fs cs := by
  simpa only [Has, hg, hk] using h
theorem has_arr {α : Type} {f : α → List AV} {q : α → Prop} {d m : Nat} {t e : TypeId} {i : TI} {cs : List AV} (h : Has te (d + 1) t cs) (hg : te.get t = some i) (hk : i.k = .arr m e)
    (hq : ∀ c, Has te d e c → ∃ a, c = f a ∧ q a) : ∃ l : List α, l.length = m ∧ cs = l.flatMap f ∧ ∀ a ∈ l, q a := by
  simp only [Has, hg, hk] at h
  obtain ⟨es, h1, h2, h3⟩ := h
  obtain ⟨l, rfl, h4⟩ := choose_eq (f := f) (q := q) fun c hc => hq c (h2 c hc)
  exact ⟨l, by simpa using h1, by rw [h3, List.flatMap_def], h4⟩
theorem has_arr_ints {d m : Nat} {t e : TypeId} {i j : TI} {cs : List AV} (h : Has te (d + 1) t cs) (hg : te.get t = some i) (hk : i.k = .arr m e) (he : te.get e = some j) (hj : j.k = .int .i64) :
    ∃ l : List Int, l.length = m ∧ cs = l.map (fun n => i64 n) ∧ ∀ n ∈ l, -9223372036854775808 ≤ n ∧ n ≤ 9223372036854775807 := by
  obtain ⟨l, h1, h2, h3⟩ := has_arr (f := fun n : Int => [i64 n]) (q := fun n => -9223372036854775808 ≤ n ∧ n ≤ 9223372036854775807) h hg hk fun c hc => by
    obtain ⟨b, h1, h2⟩ := has_int hc he hj
    exact ⟨b, h1, h2⟩
  exact ⟨l, h1, by rw [h2, flatMap_one], h3⟩
end
end Go.Proofs.Ytaemmklgofddmaa.Fw
