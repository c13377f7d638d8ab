/- Fw21: drawn orders, for scripts that a program prints; no condition. -/
import Derived.Test.YtaemmklgofddmaaFwT
import Derived.KernelRfl
set_option linter.unusedVariables false
set_option linter.unusedSimpArgs false
namespace Go.Proofs.Ytaemmklgofddmaa.Fw
open Go.RowKit

section
variable {P : Program} {n : Nat} {Q : APost} {s : AS} {ops : Array Oper}

/-- A state that is as s at what is asked. -/
def over (s : AS) (rt rh : List Nat) (s0 : AS) : AS := ⟨fun t => bif rt.contains t then s.t t else s0.t t, fun k => bif rh.contains k then s.h k else s0.h k⟩
theorem over_eq {s s' : AS} {rt rh : List Nat} (h1 : ∀ t ∈ rt, s'.t t = s.t t) (h2 : ∀ k ∈ rh, s'.h k = s.h k) : over s rt rh s' = s' := by
  unfold over
  cases s' with
  | mk t h =>
    congr 1
    · funext i
      cases hb : rt.contains i with
      | false => rfl
      | true => exact (h1 i (by simpa using hb)).symm
    · funext i
      cases hb : rh.contains i with
      | false => rfl
      | true => exact (h2 i (by simpa using hb)).symm
theorem DS.ok_over {e : DS} (h : ∀ s0, OpAt P n ops e.i (over s e.rt e.rh s0) (e.upd (over s e.rt e.rh s0))) : e.Ok P n ops s := fun s' h1 h2 => by
  have := h s'
  rwa [over_eq h1 h2] at this

def DS.strip (e : DS) : DS := { e with x := .any, wh := e.wh.map fun p => (p.1, .box []) }
theorem strip_wf (e : DS) : e.strip.wf = e.wf := by
  obtain ⟨i, rt, rh, d, x, wh⟩ := e
  cases wh <;> rfl
theorem strip_indep (a b : DS) : indep a.strip b.strip = indep a b := by
  obtain ⟨i, rt, rh, d, x, wh⟩ := a
  obtain ⟨i', rt', rh', d', x', wh'⟩ := b
  cases wh <;> cases wh' <;> rfl
theorem drawOk_strip (es : List DS) : drawOk ops (es.map DS.strip) = drawOk ops es := by
  unfold drawOk
  congr 1
  · congr 1
    · congr 1
      · simp
      · rw [List.zipIdx_map, List.all_map]
        congr 1
        funext p
        obtain ⟨e, k⟩ := p
        show (Nat.beq e.strip.i k && e.strip.wf) = _
        rw [strip_wf]
        rfl
  · simp only [List.length_map]
    congr 1
    funext b
    congr 1
    funext a
    simp only [List.getElem?_map]
    cases es[a]? with
    | none => rfl
    | some x =>
      cases es[b]? with
      | none => rfl
      | some y => simp only [Option.map_some, strip_indep]

theorem AWp.draws {id : Nat} {s : AS} (es ks : List DS) (hmix : P.follows .mixedOrders = true) (hk : es.map DS.strip = ks) (hok : drawOk ops ks = true) (hgood : Good P n ops es s) (hQ : Q .normal (final es s)) :
    AWp P n (.region id ops true) Q s := AWp.draw es hmix (by rw [← drawOk_strip, hk]; exact hok) hgood hQ

theorem OpOk.dec_t {o : Oper} {d : Option Tmp} {p : Prop} {hp : Decidable p} (h : OpOk P n o s (s.put d (tf (decide p)))) (hx : p) : OpOk P n o s (s.put d (tf true)) := by
  rwa [decide_eq_true hx] at h
theorem OpOk.dec_f {o : Oper} {d : Option Tmp} {p : Prop} {hp : Decidable p} (h : OpOk P n o s (s.put d (tf (decide p)))) (hx : ¬ p) : OpOk P n o s (s.put d (tf false)) := by
  rwa [decide_eq_false hx] at h
theorem OpOk.bool_is {o : Oper} {d : Option Tmp} {b c : Bool} (h : OpOk P n o s (s.put d (tf b))) (hx : b = c) : OpOk P n o s (s.put d (tf c)) := by
  rwa [hx] at h
theorem OpOk.to {o : Oper} {d : Option Tmp} {x y : AV} (h : OpOk P n o s (s.put d x)) (hx : x = y) : OpOk P n o s (s.put d y) := hx ▸ h
theorem tf_dec {b : Bool} {p : Prop} {hp : Decidable p} (h : b = true ↔ p) : resVal [tf b] = tf (decide p) := by
  show tf b = tf (decide p)
  congr 2
  rw [Bool.eq_iff_iff, h, decide_eq_true_iff]
theorem tf_eq {b c : Bool} (h : b = true ↔ c = true) : resVal [tf b] = tf c := by
  show tf b = tf c
  rw [Bool.eq_iff_iff.2 h]
end
end Go.Proofs.Ytaemmklgofddmaa.Fw
