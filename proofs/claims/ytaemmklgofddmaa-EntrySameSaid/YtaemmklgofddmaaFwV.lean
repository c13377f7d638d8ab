/- Fw22: calls that borrow objects of the caller's and hand back new ones; no condition. -/
import Derived.Test.YtaemmklgofddmaaFwU
set_option linter.unusedVariables false
set_option linter.unusedSimpArgs false
namespace Go.Proofs.Ytaemmklgofddmaa.Fw
open Go.RowKit

/-! ### Names of objects: the callee's, and the caller's -/
abbrev IdMap := List (Nat × Nat)
def IdMap.get : IdMap → Nat → Option Nat
  | [], _ => none
  | (c, k) :: r, i => bif Nat.beq i c then some k else IdMap.get r i
def IdMap.inv : IdMap → Nat → Option Nat
  | [], _ => none
  | (c, k) :: r, i => bif Nat.beq i k then some c else IdMap.inv r i
def IdMap.has (σ : IdMap) (c : Nat) : Bool := (σ.get c).isSome
def IdMap.wf : IdMap → Bool
  | [] => true
  | (c, k) :: r => (IdMap.get r c).isNone && (IdMap.inv r k).isNone && IdMap.wf r
theorem IdMap.inv_of_get : ∀ {σ : IdMap} {c k : Nat}, σ.wf = true → σ.get c = some k → σ.inv k = some c
  | [], c, k, _, h => by cases h
  | (c', k') :: r, c, k, hw, h => by
    simp only [IdMap.wf, Bool.and_eq_true] at hw
    simp only [IdMap.get] at h
    simp only [IdMap.inv]
    cases hb : Nat.beq c c' with
    | true =>
      rw [hb] at h
      cases h
      have := Nat.eq_of_beq_eq_true hb
      subst this
      have : Nat.beq k' k' = true := by simp
      rw [this]
      rfl
    | false =>
      rw [hb] at h
      have h2 := IdMap.inv_of_get hw.2 h
      cases hb2 : Nat.beq k k' with
      | true =>
        have := Nat.eq_of_beq_eq_true hb2
        subst this
        rw [h2] at hw
        simp at hw
      | false => exact h2
theorem IdMap.get_of_inv : ∀ {σ : IdMap} {c k : Nat}, σ.wf = true → σ.inv k = some c → σ.get c = some k
  | [], c, k, _, h => by cases h
  | (c', k') :: r, c, k, hw, h => by
    simp only [IdMap.wf, Bool.and_eq_true] at hw
    simp only [IdMap.inv] at h
    simp only [IdMap.get]
    cases hb : Nat.beq k k' with
    | true =>
      rw [hb] at h
      cases h
      have := Nat.eq_of_beq_eq_true hb
      subst this
      have : Nat.beq c' c' = true := by simp
      rw [this]
      rfl
    | false =>
      rw [hb] at h
      have h2 := IdMap.get_of_inv hw.2 h
      cases hb2 : Nat.beq c c' with
      | true =>
        have := Nat.eq_of_beq_eq_true hb2
        subst this
        rw [h2] at hw
        simp at hw
      | false => exact h2

/-! ### Values lent to a callee -/
/-- A version that is counted anew. -/
def Loc.re (b : Bool) (l : Loc) : Loc := bif b then ⟨l.bo, 0⟩ else l
def LVal (ρ : Nat → Bool) (σ : IdMap) (h : Heap) (lo hi : Nat) (a b : AV) : Prop := lo ≤ hi → ∀ (w : World) (φ φc : PMap) (Λ Λ' : Lent) (v : Value), HSim w φ Λ h →
  (∀ l b, l ≤ lo → b < w.heap.size → may φ Λ l b → may φc Λ' l b) → (∀ id l b o, φ id = some l → l.bo = some (b, o) → σ.inv id = none → may φc Λ' hi b) →
  (∀ c k, σ.get c = some k → φc c = (φ k).map (Loc.re (ρ c))) → Rep w φ Λ a v → Rep w φc Λ' b v

section
variable {ρ : Nat → Bool} {σ : IdMap} {h : Heap} {lo hi : Nat}
theorem lv_ok {a : AV} (e : a.ok lo = true) : LVal ρ σ h lo hi a a := fun _ _ _ _ _ _ _ _ hm _ _ hr => hr.move (lv := lo) hm e
theorem lv_up {l l' n : Nat} {cs : List AV} (e : l ≤ lo) (e2 : l ≤ l') : LVal ρ σ h lo hi (.fz l n cs) (.fz l' n cs) :=
  fun _ _ _ _ _ _ _ _ hm _ _ hr => (hr.move (lv := lo) hm (Nat.ble_eq_true_of_le e)).up_fz e2
theorem lv_nil {l k : Nat} : LVal ρ σ h lo hi (.v (.slice none 0 k)) (.fz l 0 []) := fun _ _ _ _ _ _ _ _ _ _ _ hr => by
  cases hr
  exact .fz0
theorem re_false {φ φc : PMap} {c k : Nat} {b : Bool} (hb : b = false) (h : φc c = (φ k).map (Loc.re b)) : φc c = φ k := by
  subst hb
  rw [h]
  cases φ k <;> rfl
theorem lv_ptr {c k ver off : Nat} (e : σ.get c = some k) (hρ : ρ c = false := by rfl) : LVal ρ σ h lo hi (.ptr k ver off) (.ptr c ver off) := fun _ _ _ _ _ _ _ _ _ _ hσ hr => by
  have := re_false hρ (hσ c k e)
  cases hr with
  | ptr h1 h2 h3 => exact .ptr (this.trans h1) h2 h3
  | ptrx h1 h2 => exact .ptrx (this.trans h1) h2
theorem lv_sl {c k ver off len esz : Nat} (e : σ.get c = some k) (hρ : ρ c = false := by rfl) : LVal ρ σ h lo hi (.sl k ver off len esz) (.sl c ver off len esz) := fun _ _ _ _ _ _ _ _ _ _ hσ hr => by
  have := re_false hρ (hσ c k e)
  cases hr with
  | sl h1 h2 h3 h4 h5 h6 => exact .sl (this.trans h1) h2 h3 h4 h5 h6
  | sl0 h1 h2 => exact .sl0 (this.trans h1) h2
  | slx h1 h2 h3 => exact .slx (this.trans h1) h2 h3
theorem lv_mp {c k ver : Nat} (e : σ.get c = some k) (hρ : ρ c = false := by rfl) : LVal ρ σ h lo hi (.mp k ver) (.mp c ver) := fun _ _ _ _ _ _ _ _ _ _ hσ hr => by
  have := re_false hρ (hσ c k e)
  cases hr with
  | mp h1 h2 h3 => exact .mp (this.trans h1) h2 h3
  | mpx h1 h2 => exact .mpx (this.trans h1) h2
theorem at_ver {w : World} {φ : PMap} {Λ : Lent} (hs : HSim w φ Λ h) {id ver : Nat} {ob : AObj} {cells : List AV} (ho : h id = some ob) (hc : ob.at ver = some cells) : ∃ l, φ id = some l ∧ l.ver = ver := hs.ver ho hc
/-- A row whose versions are counted anew. -/
theorem lv_sl0 {c k ver off len esz : Nat} {ob : AObj} {cells : List AV} (e : σ.get c = some k) (ho : h k = some ob) (hc : ob.at ver = some cells) (hρ : ρ c = true := by rfl) : LVal ρ σ h lo hi (.sl k ver off len esz) (.sl c 0 off len esz) :=
  fun _ _ _ _ _ _ _ hs _ _ hσ hr => by
  have hq := hσ c k e
  rw [hρ] at hq
  obtain ⟨l0, g1, g2⟩ := hs.ver ho hc
  rw [g1] at hq
  cases hr with
  | sl h1 h2 h3 h4 h5 h6 => rw [g1] at h1; cases h1; exact .sl hq rfl h3 h4 h5 h6
  | sl0 h1 h2 => exact .sl0 hq rfl
  | slx h1 h2 h3 => rw [g1] at h1; cases h1; omega
/-- A row that is not borrowed: frozen. -/
theorem lv_row {id ver off len esz : Nat} {ob : AObj} {cells cs : List AV} (hi' : σ.inv id = none) (h1 : h id = some ob) (h2 : ob.at ver = some cells) (h3 : AV.oks lo cells = true) (h4 : off + len * esz ≤ cells.length) (h5 : 0 < esz)
    (h6 : (cells.drop off).take (len * esz) = cs) : LVal ρ σ h lo hi (.sl id ver off len esz) (.fz hi len cs) := by
  intro hle w φ φc Λ Λ' v hs hm hown _ hr
  subst h6
  have h3' := AV.oks_iff.1 h3
  have hlen : ((cells.drop off).take (len * esz)).length = len * esz := by simp; omega
  by_cases hz : len * esz = 0
  · have hnil : (cells.drop off).take (len * esz) = [] := by rw [hz]; simp
    rw [hnil]
    obtain ⟨ad, cap, rfl⟩ := rep_len hr rfl
    have hl0 : len = 0 := by
      rcases Nat.mul_eq_zero.1 hz with h6 | h6
      · exact h6
      · omega
    subst hl0
    exact .fz0
  · obtain ⟨l0, b0, oo0, arr, T, lo', hi'', g1, g2, g3, g4, g5, g6, g7⟩ := hs.at h1 h2 (by omega)
    cases hr with
    | slx e1 e2 => rw [g1] at e1; cases e1; omega
    | sl0 e1 e2 => simp at hz
    | sl e1 e2 e3 e4 e5 e6 =>
      rw [g1] at e1
      cases e1
      rw [g3] at e3
      cases e3
      refine .fz (fun j => arr.getD (oo0 + off + j) undef) (hown id _ b0 _ g1 g3 hi') e6 (fun c hc => AV.ok_mono hle (h3' c (List.mem_of_mem_drop (List.mem_of_mem_take hc)))) (fun j hj => ?_) (fun j c hj => ?_) (by omega)
      · have : oo0 + off + j < arr.size := by omega
        simp [World.cell?, g4, Array.getD, this]
      · rw [List.getElem?_take] at hj
        split at hj
        · rw [List.getElem?_drop] at hj
          obtain ⟨u, q1, q2⟩ := g7 _ c hj
          rw [← Nat.add_assoc] at q1
          rw [Array.getD_eq_getD_getElem?, q1]
          exact q2.move hm (h3' c (List.mem_of_getElem? hj))
        · cases hj
theorem lv_fptr {id ver off : Nat} {ob : AObj} {cells cs : List AV} (hi' : σ.inv id = none) (h1 : h id = some ob) (h2 : ob.at ver = some cells) (h3 : AV.oks lo cells = true) (h4 : off < cells.length)
    (h6 : cells.drop off = cs) : LVal ρ σ h lo hi (.ptr id ver off) (.fp hi cs) := by
  intro hle w φ φc Λ Λ' v hs hm hown _ hr
  subst h6
  have h3' := AV.oks_iff.1 h3
  obtain ⟨l0, b0, oo0, arr, T, lo', hi'', g1, g2, g3, g4, g5, g6, g7⟩ := hs.at h1 h2 (by omega)
  cases hr with
  | ptrx e1 e2 => rw [g1] at e1; cases e1; omega
  | ptr e1 e2 e3 =>
    rw [g1] at e1
    cases e1
    rw [g3] at e3
    cases e3
    refine .fp (fun j => arr.getD (oo0 + off + j) undef) (hown id _ b0 _ g1 g3 hi') (fun c hc => AV.ok_mono hle (h3' c (List.mem_of_mem_drop hc))) (fun j hj => ?_) (fun j c hj => ?_) (by simp; omega)
    · simp only [List.length_drop] at hj
      have : oo0 + off + j < arr.size := by omega
      simp [World.cell?, g4, Array.getD, this]
    · rw [List.getElem?_drop] at hj
      obtain ⟨u, q1, q2⟩ := g7 _ c hj
      rw [← Nat.add_assoc] at q1
      rw [Array.getD_eq_getD_getElem?, q1]
      exact q2.move hm (h3' c (List.mem_of_getElem? hj))
def LVals (ρ : Nat → Bool) (σ : IdMap) (h : Heap) (lo hi : Nat) : List AV → List AV → Prop
  | [], [] => True
  | a :: l, b :: m => LVal ρ σ h lo hi a b ∧ LVals ρ σ h lo hi l m
  | _, _ => False
theorem LVals.length : ∀ {l m : List AV}, LVals ρ σ h lo hi l m → l.length = m.length
  | [], [], _ => rfl
  | a :: l, b :: m, e => by simp [LVals.length e.2]
  | [], _ :: _, e => e.elim
  | _ :: _, [], e => e.elim
theorem LVals.get : ∀ {l m : List AV}, LVals ρ σ h lo hi l m → ∀ (j : Nat) b, m[j]? = some b → ∃ a, l[j]? = some a ∧ LVal ρ σ h lo hi a b
  | [], [], _, j, b, hj => by simp at hj
  | a :: l, b :: m, e, 0, c, hj => by simp at hj; subst hj; exact ⟨a, rfl, e.1⟩
  | a :: l, b :: m, e, j + 1, c, hj => by simpa using LVals.get e.2 j c (by simpa using hj)
  | [], _ :: _, e, _, _, _ => e.elim
  | _ :: _, [], e, _, _, _ => e.elim
theorem lvs_ok : ∀ {l : List AV}, AV.oks lo l = true → LVals ρ σ h lo hi l l
  | [], _ => trivial
  | a :: l, e => by
    simp only [AV.oks, Bool.and_eq_true] at e
    exact ⟨lv_ok e.1, lvs_ok e.2⟩
theorem lv_agg {l m : List AV} (e : LVals ρ σ h lo hi l m) : LVal ρ σ h lo hi (.agg l) (.agg m) := by
  intro hle w φ φc Λ Λ' v hs hm hown hσ hr
  cases hr with
  | agg vf h1 h2 h3 =>
    refine .agg vf (by rw [h1, e.length]) (fun j hj => h2 j (by rw [e.length]; exact hj)) (fun j c hj => ?_)
    obtain ⟨a, h4, h5⟩ := e.get j c hj
    exact h5 hle w φ φc Λ Λ' _ hs hm hown hσ (h3 j a h4)
theorem lv_fn {f : Fn} {a b a' b' : List AV} (e : LVals ρ σ h lo hi a a') (e2 : LVals ρ σ h lo hi b b') : LVal ρ σ h lo hi (.fn f a b) (.fn f a' b') := by
  intro hle w φ φc Λ Λ' v hs hm hown hσ hr
  cases hr with
  | fn vf wf h1 h2 h3 h4 h5 h6 =>
    refine .fn vf wf (by rw [h1, e.length]) (fun j hj => h2 j (by rw [e.length]; exact hj)) (fun j c hj => ?_) (by rw [h4, e2.length]) (fun j hj => h5 j (by rw [e2.length]; exact hj)) (fun j c hj => ?_)
    · obtain ⟨x, k1, k2⟩ := e.get j c hj
      exact k2 hle w φ φc Λ Λ' _ hs hm hown hσ (h3 j x k1)
    · obtain ⟨x, k1, k2⟩ := e2.get j c hj
      exact k2 hle w φ φc Λ Λ' _ hs hm hown hσ (h6 j x k1)

/-- An object, as the callee sees it. -/
def LObj (ρ : Nat → Bool) (σ : IdMap) (h : Heap) (lo hi : Nat) (rn : Bool) : AObj → AObj → Prop
  | .box cs, .box cs' => LVals ρ σ h lo hi cs cs'
  | .row cs e v, .row cs' e' v' => e = e' ∧ (bif rn then v' = 0 else v = v') ∧ LVals ρ σ h lo hi cs cs'
  | .map es, .map es' => es.map (·.1) = es'.map (·.1) ∧ LVals ρ σ h lo hi (es.map (·.2)) (es'.map (·.2))
  | _, _ => False
end

/-! ### The way back -/
mutual
def AV.ren (τ : Nat → Nat) : AV → AV
  | .ptr id vr o => .ptr (τ id) vr o
  | .sl id vr o l e => .sl (τ id) vr o l e
  | .mp id vr => .mp (τ id) vr
  | .dp id vr o l => .dp (τ id) vr o l
  | .agg cs => .agg (AV.rens τ cs)
  | .tup cs => .tup (AV.rens τ cs)
  | .fn f a b => .fn f (AV.rens τ a) (AV.rens τ b)
  | .ifc t x => .ifc t (x.ren τ)
  | x => x
def AV.rens (τ : Nat → Nat) : List AV → List AV
  | [] => []
  | c :: cs => c.ren τ :: AV.rens τ cs
end
mutual
/-- All frozen parts are of level lv at most. -/
def AV.lev (lv : Nat) : AV → Bool
  | .v _ | .any | .bl | .ptr .. | .sl .. | .mp .. | .dp .. => true
  | .fz l _ _ | .fp l _ => Nat.ble l lv
  | .agg cs | .tup cs => AV.levs lv cs
  | .fn _ a b => AV.levs lv a && AV.levs lv b
  | .ifc _ x => x.lev lv
def AV.levs (lv : Nat) : List AV → Bool
  | [] => true
  | c :: cs => c.lev lv && AV.levs lv cs
end
theorem AV.levs_iff {lv : Nat} : ∀ {l : List AV}, AV.levs lv l = true ↔ ∀ c ∈ l, c.lev lv = true
  | [] => by simp [AV.levs]
  | c :: cs => by simp [AV.levs, AV.levs_iff (l := cs)]
theorem AV.rens_eq {τ : Nat → Nat} : ∀ {l : List AV}, AV.rens τ l = l.map (AV.ren τ)
  | [] => rfl
  | c :: cs => by simp [AV.rens, AV.rens_eq (l := cs)]

theorem Rep.ren {w : World} {φ φn : PMap} {Λ Λn : Lent} {lv : Nat} {S : Nat → Bool} {τ : Nat → Nat} (hm : ∀ l b, l ≤ lv → b < w.heap.size → may φ Λ l b → may φn Λn l b) (hτ : ∀ c l, S c = true → φ c = some l → φn (τ c) = some l)
    {x : AV} {v : Value} (h : Rep w φ Λ x v) (h1 : x.lev lv = true) (h2 : x.refs S = true) : Rep w φn Λn (x.ren τ) v := by
  induction h with
  | v => exact .v
  | any => exact .any
  | bl => exact .bl
  | fz0 => exact .fz0
  | fz vf a b c d e f ih => exact (Rep.fz vf a b c d e f).move (lv := lv) hm h1
  | fp vf a c d e f ih => exact (Rep.fp vf a c d e f).move (lv := lv) hm h1
  | agg vf a b c ih =>
    simp only [AV.ren, AV.rens_eq]
    simp only [AV.lev] at h1
    simp only [AV.refs] at h2
    refine .agg vf (by rw [a, List.length_map]) (fun j hj => b j (by simpa using hj)) (fun j y hj => ?_)
    rw [List.getElem?_map, Option.map_eq_some_iff] at hj
    obtain ⟨z, hz, rfl⟩ := hj
    exact ih j z hz (AV.levs_iff.1 h1 z (List.mem_of_getElem? hz)) (AV.refss_iff.1 h2 z (List.mem_of_getElem? hz))
  | tup vf a b c ih =>
    simp only [AV.ren, AV.rens_eq]
    simp only [AV.lev] at h1
    simp only [AV.refs] at h2
    refine .tup vf (by rw [a, List.length_map]) (fun j hj => b j (by simpa using hj)) (fun j y hj => ?_)
    rw [List.getElem?_map, Option.map_eq_some_iff] at hj
    obtain ⟨z, hz, rfl⟩ := hj
    exact ih j z hz (AV.levs_iff.1 h1 z (List.mem_of_getElem? hz)) (AV.refss_iff.1 h2 z (List.mem_of_getElem? hz))
  | fn vf wf a b c d e f ih1 ih2 =>
    simp only [AV.ren, AV.rens_eq]
    simp only [AV.lev, Bool.and_eq_true] at h1
    simp only [AV.refs, Bool.and_eq_true] at h2
    refine .fn vf wf (by rw [a, List.length_map]) (fun j hj => b j (by simpa using hj)) (fun j y hj => ?_) (by rw [d, List.length_map]) (fun j hj => e j (by simpa using hj)) (fun j y hj => ?_)
    · rw [List.getElem?_map, Option.map_eq_some_iff] at hj
      obtain ⟨z, hz, rfl⟩ := hj
      exact ih1 j z hz (AV.levs_iff.1 h1.1 z (List.mem_of_getElem? hz)) (AV.refss_iff.1 h2.1 z (List.mem_of_getElem? hz))
    · rw [List.getElem?_map, Option.map_eq_some_iff] at hj
      obtain ⟨z, hz, rfl⟩ := hj
      exact ih2 j z hz (AV.levs_iff.1 h1.2 z (List.mem_of_getElem? hz)) (AV.refss_iff.1 h2.2 z (List.mem_of_getElem? hz))
  | ifc h ih => exact .ifc (ih (by simpa [AV.lev] using h1) (by simpa [AV.refs] using h2))
  | ptr a b c => exact .ptr (hτ _ _ h2 a) b c
  | ptrx a b => exact .ptrx (hτ _ _ h2 a) b
  | sl a b c d e f => exact .sl (hτ _ _ h2 a) b c d e f
  | sl0 a b => exact .sl0 (hτ _ _ h2 a) b
  | slx a b c => exact .slx (hτ _ _ h2 a) b c
  | mp a b c => exact .mp (hτ _ _ h2 a) b c
  | dp a b c d e => exact .dp (hτ _ _ h2 a) b c d e
  | dp0 a => exact .dp0 (hτ _ _ h2 a)
  | dpx a b => exact .dpx (hτ _ _ h2 a) b
  | mpx a b => exact .mpx (hτ _ _ h2 a) b

def AObj.ren (τ : Nat → Nat) : AObj → AObj
  | .box cs => .box (AV.rens τ cs)
  | .row cs e v => .row (AV.rens τ cs) e v
  | .map es => .map (es.map fun p => (p.1, p.2.ren τ))
def AObj.lev (lv : Nat) : AObj → Bool
  | .box cs => AV.levs lv cs
  | .row cs _ _ => AV.levs lv cs
  | .map es => AV.levs lv (es.map (·.2))

theorem ObjRep.ren {w : World} {φ φn : PMap} {Λ Λn : Lent} {lv : Nat} {S : Nat → Bool} {τ : Nat → Nat} (hm : ∀ l b, l ≤ lv → b < w.heap.size → may φ Λ l b → may φn Λn l b) (hτ : ∀ c l, S c = true → φ c = some l → φn (τ c) = some l)
    {ob : AObj} {l : Loc} (h : ObjRep w φ Λ ob l) (h1 : ob.lev lv = true) (h2 : ObjIn S ob) : ObjRep w φn Λn (ob.ren τ) l := by
  have cells : ∀ {arr : Array Value} {o : Nat} {cs : List AV}, CellsRep w φ Λ arr o cs → AV.levs lv cs = true → AV.refss S cs = true → CellsRep w φn Λn arr o (AV.rens τ cs) := by
    intro arr o cs hc e1 e2 j c hj
    rw [AV.rens_eq, List.getElem?_map, Option.map_eq_some_iff] at hj
    obtain ⟨z, hz, rfl⟩ := hj
    obtain ⟨v, g1, g2⟩ := hc j z hz
    exact ⟨v, g1, g2.ren hm hτ (AV.levs_iff.1 e1 z (List.mem_of_getElem? hz)) (AV.refss_iff.1 e2 z (List.mem_of_getElem? hz))⟩
  cases ob with
  | box cs =>
    obtain ⟨b, arr, T, g1, g2, g3, g4, g5⟩ := h
    exact ⟨b, arr, T, g1, g2, g3, by rw [g4, AV.rens_eq, List.length_map], cells g5 h1 h2⟩
  | row cs e v =>
    obtain ⟨g0, g⟩ := h
    refine ⟨g0, ?_⟩
    rcases g with ⟨g1, g2⟩ | ⟨b, o, arr, T, lo, hi, g1, g2, g3, g4, g5⟩
    · exact .inl ⟨g1, by rw [g2]; rfl⟩
    · exact .inr ⟨b, o, arr, T, lo, hi, g1, g2, g3, by rw [AV.rens_eq, List.length_map]; exact g4, cells g5 h1 h2⟩
  | map es =>
    obtain ⟨b, ents, clock, g1, g2, g3, g4, g5⟩ := h
    refine ⟨b, ents, clock, g1, g2, g3, by rw [g4, List.length_map], fun j p hp => ?_⟩
    rw [List.getElem?_map, Option.map_eq_some_iff] at hp
    obtain ⟨q, hq, rfl⟩ := hp
    obtain ⟨e, k1, k2, k3⟩ := g5 j q hq
    simp only [AObj.lev] at h1
    exact ⟨e, k1, k2, k3.ren hm hτ (AV.levs_iff.1 h1 q.2 (List.mem_map_of_mem (List.mem_of_getElem? hq))) (h2 q (List.mem_of_getElem? hq))⟩
end Go.Proofs.Ytaemmklgofddmaa.Fw
