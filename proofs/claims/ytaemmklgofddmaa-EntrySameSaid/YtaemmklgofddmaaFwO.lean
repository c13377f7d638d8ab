/- Fw15: arguments of plain data, seen by the abstract values; from a contract to the row of a law; no condition. -/
import Derived.Test.YtaemmklgofddmaaFwN
import Derived.Test.YtaemmklgofddmaaRows
import Derived.ProofKit
import Derived.OpenShut
import Derived.ShutString
import Derived.ChangeOld
import Derived.Below
import Derived.SizedLaws
import Derived.Carry
set_option linter.unusedVariables false
set_option linter.unusedSimpArgs false
namespace Go.Proofs.Ytaemmklgofddmaa.Fw
open Go.RowKit Go.ChangeShapes Go.WideShapes

def contig (te : TE) : Nat → List (Nat × TypeId) → Nat → Bool
  | o, [], z => Nat.beq o z
  | o, (o', t) :: r, z => Nat.beq o o' && match te.get t with | some j => contig te (o + j.size) r z | none => false
/-- A type of plain data, of depth at most d. -/
def plainT (te : TE) : Nat → TypeId → Bool
  | 0, _ => false
  | d + 1, t => match te.get t with
    | none => false
    | some i => match i.k with
      | .int _ | .bool | .str => true
      | .slice e => plainT te d e && (match te.get e with | some j => Nat.blt 0 j.size | none => false)
      | .arr m e => plainT te d e && (match te.get e with | some j => Nat.blt 0 j.size && Nat.beq i.size (m * j.size) | none => false)
      | .struct fs => contig te 0 fs i.size && fs.all (fun p => plainT te d p.2)
      | _ => false

def hasFs (H : TypeId → List AV → Prop) : List (Nat × TypeId) → List AV → Prop
  | [], cs => cs = []
  | (_, t) :: r, cs => ∃ a b, cs = a ++ b ∧ H t a ∧ hasFs H r b
/-- What the cells of a value of plain data look like. -/
def Has (te : TE) : Nat → TypeId → List AV → Prop
  | 0, _, _ => False
  | d + 1, t, cs => match te.get t with
    | none => False
    | some i => match i.k with
      | .bool => ∃ b, cs = [tf b]
      | .int k => ∃ n : Int, (Lit.int k n).wf = true ∧ cs = [.v (.int k n)]
      | .str => ∃ l : List UInt8, l.length ≤ reachBytes ∧ cs = [str l]
      | .slice e => ∃ es : List (List AV), (∀ c ∈ es, Has te d e c) ∧ (∀ j, te.get e = some j → es.length * j.bytes ≤ reachBytes) ∧ cs = [.fz 0 es.length es.flatten]
      | .arr m e => ∃ es : List (List AV), es.length = m ∧ (∀ c ∈ es, Has te d e c) ∧ cs = es.flatten
      | .struct fs => hasFs (Has te d) fs cs
      | _ => False

theorem exists_list {α : Type} {p : Nat → α → Prop} : ∀ n : Nat, (∀ i, i < n → ∃ x, p i x) → ∃ l : List α, l.length = n ∧ ∀ i x, l[i]? = some x → p i x
  | 0, _ => ⟨[], rfl, fun i x h => by simp at h⟩
  | n + 1, h => by
    obtain ⟨l, h1, h2⟩ := exists_list n fun i hi => h i (by omega)
    obtain ⟨x, hx⟩ := h n (by omega)
    refine ⟨l ++ [x], by simp [h1], fun i y hy => ?_⟩
    by_cases hi : i < n
    · rw [List.getElem?_append_left (by omega)] at hy
      exact h2 i y hy
    · rw [List.getElem?_append_right (by omega)] at hy
      have : i - l.length = 0 := by
        have := (List.getElem?_eq_some_iff.1 hy).1
        simp at this
        omega
      rw [this] at hy
      simp at hy
      subst hy
      have : i = n := by omega
      subst this
      exact hx

theorem flatten_length_of {α : Type} {m : Nat} : ∀ {es : List (List α)}, (∀ c ∈ es, c.length = m) → es.flatten.length = es.length * m
  | [], _ => by simp
  | c :: es, h => by
    rw [List.flatten_cons, List.length_append, h c List.mem_cons_self, flatten_length_of fun x hx => h x (List.mem_cons_of_mem _ hx), List.length_cons, Nat.add_mul, Nat.one_mul, Nat.add_comm]
theorem flatten_get {α : Type} {m : Nat} (hm : 0 < m) : ∀ {es : List (List α)}, (∀ c ∈ es, c.length = m) → ∀ {j : Nat} {x : α}, es.flatten[j]? = some x → ∃ c, es[j / m]? = some c ∧ c[j % m]? = some x
  | [], _, j, x, hj => by simp at hj
  | c :: es, h, j, x, hj => by
    have hc := h c List.mem_cons_self
    rw [List.flatten_cons] at hj
    by_cases h1 : j < m
    · rw [List.getElem?_append_left (by omega)] at hj
      exact ⟨c, by rw [Nat.div_eq_of_lt h1]; rfl, by rw [Nat.mod_eq_of_lt h1]; exact hj⟩
    · rw [List.getElem?_append_right (by omega), hc] at hj
      obtain ⟨c', k1, k2⟩ := flatten_get hm (fun x hx => h x (List.mem_cons_of_mem _ hx)) hj
      refine ⟨c', ?_, ?_⟩
      · have : j / m = (j - m) / m + 1 := by
          rw [Nat.div_eq_sub_div hm (by omega)]
        rw [this]
        simpa using k1
      · rw [Nat.mod_eq_sub_mod (by omega)]
        exact k2

abbrev noL : Lent := fun _ _ => False
abbrev noO : PMap := fun _ => none
theorem may_none (lv b : Nat) : may noO noL lv b := ⟨owned_none, fun _ _ h => h⟩

theorem weightsAll_mem {H : Type} {P : Program} {e : TypeId} : ∀ {l : List (DataW H)} {d : DataW H}, d ∈ l → ∀ m ∈ d.weights P e, m ∈ DataW.weightsAll P e l
  | a :: l, d, h, m, hm => by
    simp only [DataW.weightsAll, List.mem_append]
    rcases List.mem_cons.1 h with rfl | h
    · exact .inl hm
    · exact .inr (weightsAll_mem h m hm)

section
variable {P : Program} {te : TE} {w : World} {H : Type} {enc : TypeId × Value → H} {held : Bool}

def CellsAre (w : World) (cs : List Value) (av : List AV) : Prop := av.length = cs.length ∧ ∀ (j : Nat) c, av[j]? = some c → c.ok 0 = true ∧ ∃ v, cs[j]? = some v ∧ Rep w noO noL c v

theorem CellsAre.one {v : Value} {a : AV} (h1 : a.ok 0 = true) (h2 : Rep w noO noL a v) : CellsAre w [v] [a] :=
  ⟨rfl, fun j c hj => by
    cases j with
    | zero => simp at hj; subst hj; exact ⟨h1, v, rfl, h2⟩
    | succ j => simp at hj⟩

theorem Tells.cells {t : TypeId} {i : TI} (h : Tells P t i) : P.cellsOf t = i.size ∧ P.bytesOf t = i.bytes := by
  obtain ⟨f, z, h1, h2, h3, _⟩ := h.info
  exact ⟨by simp [Program.cellsOf, h1, h2], by simp [Program.bytesOf, h1, h3]⟩

theorem open_fields (hte : TEok P te) {d n : Nat} (ih : ∀ t, plainT te d t = true → ∀ n (cs : List Value) x, DataW.trod enc P w 0 (fun _ => true) held n t cs = some x → (∀ m ∈ x.1.weights P t, m ≤ reachBytes) → ∃ av, Has te d t av ∧ CellsAre w cs av)
    {cs : List Value} : ∀ (l : List Field) (o : Nat) (xs : List (DataW H × List MemPlace)), xs.length = l.length → (∀ (i : Nat) (f : Field), l[i]? = some f → DataW.trod enc P w 0 (fun _ => true) held n f.type ((cs.drop f.offset).take (P.cellsOf f.type)) = xs[i]?) →
      contig te o (l.map fun f => (f.offset, f.type)) cs.length = true → ((l.map fun f => (f.offset, f.type)).all fun p => plainT te d p.2) = true →
      (∀ m ∈ DataW.weightsEach P (l.map (·.type)) (xs.map (·.1)), m ≤ reachBytes) → ∃ av, hasFs (Has te d) (l.map fun f => (f.offset, f.type)) av ∧ CellsAre w (cs.drop o) av
  | [], o, xs, hx, hf, hc, hp, hw => by
    simp only [List.map_nil, contig] at hc
    have := Nat.eq_of_beq_eq_true hc
    refine ⟨[], rfl, by simp; omega, fun j c hj => by simp at hj⟩
  | f :: l, o, [], hx, hf, hc, hp, hw => by simp at hx
  | f :: l, o, y :: xs, hx, hf, hc, hp, hw => by
    simp only [List.map_cons, contig, Bool.and_eq_true] at hc
    obtain ⟨c1, c2⟩ := hc
    have c1 := Nat.eq_of_beq_eq_true c1
    simp only [List.map_cons, List.all_cons, Bool.and_eq_true] at hp
    have h0 := hf 0 f rfl
    simp only [List.getElem?_cons_zero] at h0
    simp only [List.map_cons, DataW.weightsEach, List.mem_append] at hw
    obtain ⟨a, a1, a2⟩ := ih f.type hp.1 n _ y h0 fun m hm => hw m (.inl hm)
    cases hg : te.get f.type with
    | none => rw [hg] at c2; cases c2
    | some j =>
      rw [hg] at c2
      simp only at c2
      obtain ⟨b, b1, b2⟩ := open_fields hte ih l (o + j.size) xs (by simpa using hx) (fun i g hg => by simpa using hf (i + 1) g (by simpa using hg)) c2 hp.2 (fun m hm => hw m (.inr hm))
      rw [((hte.tells hg).cells).1, ← c1] at a2
      refine ⟨a ++ b, ⟨a, b, rfl, a1, b1⟩, ?_⟩
      -- how long the parts are
      have hle : ∀ (l : List (Nat × TypeId)) (o : Nat), contig te o l cs.length = true → o ≤ cs.length := by
        intro l
        induction l with
        | nil => intro o h; simp only [contig] at h; exact Nat.le_of_eq (Nat.eq_of_beq_eq_true h)
        | cons p l ihl =>
          intro o h
          obtain ⟨po, pt⟩ := p
          simp only [contig, Bool.and_eq_true] at h
          cases hgp : te.get pt with
          | none => rw [hgp] at h; cases h.2
          | some q =>
            rw [hgp] at h
            have := ihl _ h.2
            omega
      have hlen := hle _ _ c2
      have al : a.length = j.size := by rw [a2.1]; simp; omega
      refine ⟨by rw [List.length_append, al, b2.1]; simp; omega, fun k c hk => ?_⟩
      by_cases hk1 : k < a.length
      · rw [List.getElem?_append_left hk1] at hk
        obtain ⟨z1, v, z2, z3⟩ := a2.2 k c hk
        rw [List.getElem?_take, if_pos (by omega)] at z2
        exact ⟨z1, v, z2, z3⟩
      · rw [List.getElem?_append_right (by omega)] at hk
        obtain ⟨z1, v, z2, z3⟩ := b2.2 _ c hk
        refine ⟨z1, v, ?_, z3⟩
        rw [List.getElem?_drop] at z2 ⊢
        rw [← z2]
        congr 1
        omega

theorem open_has (hte : TEok P te) : ∀ d t, plainT te d t = true → ∀ n (cs : List Value) x, DataW.trod enc P w 0 (fun _ => true) held n t cs = some x → (∀ m ∈ x.1.weights P t, m ≤ reachBytes) →
    ∃ av, Has te d t av ∧ CellsAre w cs av
  | 0, t, hp, n, cs, x, h, hw => by simp [plainT] at hp
  | d + 1, t, hp, n, cs, x, h, hw => by
    have ih := open_has hte d
    simp only [plainT] at hp
    simp only [Has]
    cases hg : te.get t with
    | none => rw [hg] at hp; cases hp
    | some i =>
      rw [hg] at hp
      have ht := hte.tells hg
      obtain ⟨k, size, bytes, zero⟩ := i
      cases k with
      | int k =>
        obtain ⟨m, rfl, rfl, h3⟩ := DataW.trod_int (ht.int rfl) h
        exact ⟨[.v (.int k m)], ⟨m, h3, rfl⟩, .one rfl .v⟩
      | bool =>
        obtain ⟨b, rfl, rfl⟩ := DataW.trod_bool (ht.bool rfl) h
        exact ⟨[tf b], ⟨b, rfl⟩, .one rfl .v⟩
      | str =>
        obtain ⟨s, rfl, rfl, _⟩ := DataW.trod_string (ht.str rfl) h
        exact ⟨[str s.data.toList], ⟨_, hw _ (by simp [DataW.weights]), rfl⟩, .one rfl .v⟩
      | slice e =>
        simp only [Bool.and_eq_true] at hp
        obtain ⟨hp1, hp2⟩ := hp
        cases he : te.get e with
        | none => rw [he] at hp2; cases hp2
        | some j =>
          rw [he] at hp2
          have hpos : 0 < j.size := Nat.blt_eq.mp hp2
          have hce := (hte.tells he).cells
          rcases DataW.trod_slice (ht.slice rfl) h with ⟨rfl, rfl⟩ | ⟨a, len, cap, elems, rest, n', rfl, rfl, rfl, hb, hlc, hcm, hel, hget, _, _⟩
          · exact ⟨[.fz 0 0 []], ⟨[], by simp, fun _ _ => by simp, rfl⟩, .one rfl .fz0⟩
          · have hwt : ∀ y ∈ elems, ∀ m ∈ y.1.weights P e, m ≤ reachBytes := fun y hy m hm => by
              refine hw m ?_
              simp only [DataW.weights, ht.slice rfl, List.mem_cons, List.mem_append]
              exact .inr (.inl (weightsAll_mem (List.mem_map_of_mem hy) m hm))
            have hone : ∀ i, i < len → ∃ av, Has te d e av ∧ av.length = j.size ∧ ∀ (r : Nat) c, av[r]? = some c → c.ok 0 = true ∧ ∃ v, w.cell? ((a.add (i * j.size)).add r) = some v ∧ Rep w noO noL c v := by
              intro i hi
              have h1 := hget i hi
              have hil : i < elems.length := by omega
              rw [List.getElem?_eq_getElem hil] at h1
              obtain ⟨cs', h2, h3⟩ := Option.bind_eq_some_iff.1 h1
              obtain ⟨_, q1, q2⟩ := World.cells?_some h2
              obtain ⟨av, b1, b2, b3⟩ := ih e hp1 n' cs' _ h3 (hwt _ (List.getElem_mem hil))
              rw [hce.1] at q1 q2
              refine ⟨av, b1, by rw [b2, q1], fun r c hr => ?_⟩
              obtain ⟨z1, v, z2, z3⟩ := b3 r c hr
              have hrl : r < j.size := by rw [← q1, ← b2]; exact (List.getElem?_eq_some_iff.1 hr).1
              exact ⟨z1, v, by rw [q2 r hrl, z2], z3⟩
            obtain ⟨es, l1, l2⟩ := exists_list len hone
            have hlen : ∀ c ∈ es, c.length = j.size := fun c hc => by
              obtain ⟨i, hi⟩ := List.mem_iff_getElem?.1 hc
              exact (l2 i c hi).2.1
            have hfl := flatten_length_of hlen
            refine ⟨[.fz 0 es.length es.flatten], ⟨es, fun c hc => ?_, fun j' hj' => ?_, rfl⟩, .one rfl ?_⟩
            · obtain ⟨i, hi⟩ := List.mem_iff_getElem?.1 hc
              exact (l2 i c hi).1
            · rw [he] at hj'
              cases hj'
              have := hw ((elems.length + rest.length) * P.bytesOf e) (by simp [DataW.weights, ht.slice rfl])
              rw [hce.2] at this
              have h2 : es.length * j.bytes ≤ (elems.length + rest.length) * j.bytes := Nat.mul_le_mul_right _ (by omega)
              omega
            · by_cases hl0 : len = 0
              · have : es = [] := List.eq_nil_of_length_eq_zero (by omega)
                subst this
                rw [hl0]
                exact .fz0
              · -- a cell is there: the address has no spot
                have hc0 : ∀ q, q < es.flatten.length → ∃ c v, es.flatten[q]? = some c ∧ c.ok 0 = true ∧ w.cell? (a.add q) = some v ∧ Rep w noO noL c v := by
                  intro q hq
                  obtain ⟨c, k1, k2⟩ := flatten_get hpos hlen (List.getElem?_eq_getElem hq)
                  obtain ⟨_, _, g3⟩ := l2 _ c k1
                  obtain ⟨z1, v, z2, z3⟩ := g3 _ _ k2
                  refine ⟨_, v, List.getElem?_eq_getElem hq, z1, ?_, z3⟩
                  rw [Addr.add_add, Nat.mul_comm, Nat.div_add_mod] at z2
                  exact z2
                have hpf : 0 < es.flatten.length := by rw [hfl, l1]; exact Nat.mul_pos (by omega) hpos
                obtain ⟨b, o, sp⟩ := a
                have hsp : sp = none := by
                  obtain ⟨c, v, _, _, h3, _⟩ := hc0 0 hpf
                  simp only [Addr.add, if_true, World.cell?] at h3
                  split at h3
                  · split at h3
                    · cases h3
                    · rename_i hs
                      simpa using hs
                  · cases h3
                subst hsp
                rw [l1]
                refine .fz (fun q => (w.cell? ⟨b, o + q, none⟩).getD undef) (may_none _ _) hlc (fun c hc => ?_) (fun q hq => ?_) (fun q c hq => ?_) hpf
                · obtain ⟨q, hq⟩ := List.mem_iff_getElem?.1 hc
                  obtain ⟨c', v, h1, h2, _⟩ := hc0 q (List.getElem?_eq_some_iff.1 hq).1
                  rw [hq] at h1
                  cases h1
                  exact h2
                · obtain ⟨c', v, h1, h2, h3, h4⟩ := hc0 q hq
                  rw [Addr.add_lit] at h3
                  rw [h3]
                  rfl
                · obtain ⟨c', v, h1, h2, h3, h4⟩ := hc0 q (List.getElem?_eq_some_iff.1 hq).1
                  rw [hq] at h1
                  cases h1
                  rw [Addr.add_lit] at h3
                  rw [h3]
                  exact h4
      | arr m e =>
        simp only [Bool.and_eq_true] at hp
        obtain ⟨hp1, hp2⟩ := hp
        cases he : te.get e with
        | none => rw [he] at hp2; cases hp2
        | some j =>
          rw [he] at hp2
          simp only [Bool.and_eq_true] at hp2
          have hpos : 0 < j.size := Nat.blt_eq.mp hp2.1
          have hsz : size = m * j.size := Nat.eq_of_beq_eq_true hp2.2
          have hce := (hte.tells he).cells
          obtain ⟨xs, n', rfl, rfl, hl, hxl, hget⟩ := DataW.trod_array (ht.arr rfl) h
          have hl : cs.length = m * j.size := by rw [hl, ht.cells.1, ← hsz]
          have hone : ∀ i, i < m → ∃ av, Has te d e av ∧ CellsAre w ((cs.drop (i * j.size)).take j.size) av := by
            intro i hi
            have h1 := hget i hi
            have hil : i < xs.length := by omega
            rw [List.getElem?_eq_getElem hil, hce.1] at h1
            refine ih e hp1 n' _ _ h1 fun q hq => hw q ?_
            simp only [DataW.weights, ht.arr rfl]
            exact weightsAll_mem (List.mem_map_of_mem (List.getElem_mem hil)) q hq
          obtain ⟨es, l1, l2⟩ := exists_list m hone
          have hlen : ∀ c ∈ es, c.length = j.size := fun c hc => by
            obtain ⟨i, hi⟩ := List.mem_iff_getElem?.1 hc
            have hil : i < m := by rw [← l1]; exact (List.getElem?_eq_some_iff.1 hi).1
            rw [(l2 i c hi).2.1]
            show ((cs.drop (i * j.size)).take j.size).length = j.size
            have : (i + 1) * j.size ≤ m * j.size := Nat.mul_le_mul_right _ hil
            rw [Nat.add_mul, Nat.one_mul, ← hl] at this
            simp
            omega
          refine ⟨es.flatten, ⟨es, l1, fun c hc => ?_, rfl⟩, by rw [flatten_length_of hlen, l1, hl], fun q c hq => ?_⟩
          · obtain ⟨i, hi⟩ := List.mem_iff_getElem?.1 hc
            exact (l2 i c hi).1
          · obtain ⟨c', k1, k2⟩ := flatten_get hpos hlen hq
            obtain ⟨z1, v, z2, z3⟩ := (l2 _ c' k1).2.2 _ c k2
            refine ⟨z1, v, ?_, z3⟩
            rw [List.getElem?_take, if_pos (Nat.mod_lt _ hpos), List.getElem?_drop, Nat.mul_comm, Nat.div_add_mod] at z2
            exact z2
      | struct fs =>
        simp only [Bool.and_eq_true] at hp
        obtain ⟨fl, f1, f2⟩ := ht.struct rfl
        obtain ⟨xs, n', rfl, rfl, hl, hxl, hget⟩ := DataW.trod_struct f1 h
        rw [ht.cells.1] at hl
        subst f2
        simp only at hl
        rw [← hl] at hp
        have := open_fields hte ih (n := n') (cs := cs) fl.toList 0 xs (by simpa using hxl) (fun i f hf => hget i f (by simpa using hf)) hp.1 hp.2 (fun m hm => hw m (by simpa [DataW.weights, f1] using hm))
        simpa using this
      | _ => cases hp

end
end Go.Proofs.Ytaemmklgofddmaa.Fw
