/- Q4: comparisons of pointers and slices with nil, and of plain data as a whole; no condition. -/
import Derived.Test.YtaemmklgofddmaaQ3
import Derived.Test.YtaemmklgofddmaaFwS
import Derived.Laws.StructEq
set_option linter.unusedVariables false
set_option linter.unusedSimpArgs false
namespace Go.Proofs.Ytaemmklgofddmaa.Fw
open Go.RowKit

section
variable {n : Nat} {s : AS} {o : Oper} {d : Option Tmp}
theorem run_equal_pnil {P : Program} {t e : TypeId} {a : Option Addr} (ht : P.underlying t = some (.pointer e)) (w : World) : (Op.equal t (.pointer a) (.pointer none)).run P w = .ok a.isNone w := by
  have h : ∀ q, (Op.equalIn (q + 1) t (.pointer a) (.pointer none)).run P w = .ok a.isNone w := fun q => by cases a <;> simp [Op.equalIn, run_underlying ht]
  exact h 9999
theorem run_equal_snil {P : Program} {t e : TypeId} {a : Option Addr} {k m l : Nat} (ht : P.underlying t = some (.slice e)) (w : World) : (Op.equal t (.slice a k m) (.slice none 0 l)).run P w = .ok a.isNone w := by
  have h : ∀ q, (Op.equalIn (q + 1) t (.slice a k m) (.slice none 0 l)).run P w = .ok a.isNone w := fun q => by cases a <;> simp [Op.equalIn, run_underlying ht]
  exact h 9999
/-- Whether a pointer is nil. -/
def pnil? : AV → Option Bool
  | .ptr .. | .fp .. => some false
  | .v (.pointer a) => some a.isNone
  | _ => none
theorem rep_pnil {w : World} {φ : PMap} {Λ : Lent} {x : AV} {v : Value} {b : Bool} (h : Rep w φ Λ x v) (hb : pnil? x = some b) : ∃ a, v = .pointer a ∧ a.isNone = b := by
  cases h with
  | v =>
    cases v <;> simp [pnil?] at hb
    exact ⟨_, rfl, hb⟩
  | fp => simp [pnil?] at hb; subst hb; exact ⟨_, rfl, rfl⟩
  | ptr => simp [pnil?] at hb; subst hb; exact ⟨_, rfl, rfl⟩
  | ptrx => simp [pnil?] at hb; subst hb; exact ⟨_, rfl, rfl⟩
  | _ => simp [pnil?] at hb
theorem q_pnil {op : BinOp} {t u e : TypeId} {x y : Operand} {a : AV} {b r : Bool} {ti : TI} (ho : o.op = .binOp op t x y u := by exact rfl) (hx : s.ev x = a := by conv => lhs; whnf) (ha : pnil? a = some b := by exact rfl) (hy : s.ev y = .v (.pointer none) := by exact rfl)
    (ht : te.get t = some ti := by exact rfl) (hk : ti.k = .ptr e := by exact rfl) (hop : (op = .eql ∧ r = b) ∨ (op = .neq ∧ r = !b) := by first | exact .inl ⟨rfl, rfl⟩ | exact .inr ⟨rfl, rfl⟩)
    (hdd : o.dst = d := by conv => lhs; whnf) (hd : d.all (Nat.blt · n) = true := by exact rfl) : OpOk Try.prog n o s (s.put d (tf r)) :=
  .val hdd hd fun Λ w φ ac hs => by
    have hr := hs.ev x
    rw [hx] at hr
    obtain ⟨ad, e1, e2⟩ := rep_pnil hr ha
    have e3 := run_equal_pnil (a := ad) ((te_ok.tells ht).ptr hk) w
    refine ⟨.bool r, ?_, .v⟩
    rcases hop with ⟨rfl, rfl⟩ | ⟨rfl, rfl⟩ <;> simp [execOp, ho, e1, ev_v hs hy, eqGuard, binOp, e3, e2]
/-- A slice beside nil: nothing is told. -/
theorem q_snil {op : BinOp} {t u e : TypeId} {x y : Operand} {a : AV} {m l : Nat} {ti : TI} (ho : o.op = .binOp op t x y u := by exact rfl) (hx : s.ev x = a := by conv => lhs; whnf) (ha : a.len? = some m := by exact rfl) (hy : s.ev y = .v (.slice none 0 l) := by exact rfl)
    (ht : te.get t = some ti := by exact rfl) (hk : ti.k = .slice e := by exact rfl) (hop : op = .eql ∨ op = .neq := by first | exact .inl rfl | exact .inr rfl)
    (hdd : o.dst = d := by conv => lhs; whnf) (hd : d.all (Nat.blt · n) = true := by exact rfl) : OpOk Try.prog n o s (s.put d .bl) :=
  .val hdd hd fun Λ w φ ac hs => by
    have hr := hs.ev x
    rw [hx] at hr
    obtain ⟨ad, cap, e1⟩ := rep_len hr ha
    have e3 := run_equal_snil (a := ad) (k := m) (m := cap) (l := l) ((te_ok.tells ht).slice hk) w
    rcases hop with rfl | rfl
    · exact ⟨.bool ad.isNone, by simp [execOp, ho, e1, ev_v hs hy, eqGuard, binOp, e3], .bl⟩
    · exact ⟨.bool (!ad.isNone), by simp [execOp, ho, e1, ev_v hs hy, eqGuard, binOp, e3], .bl⟩
end

/-! ### Plain data as a whole -/
def flatK (te : TE) : Nat → TypeId → List ZC
  | 0, _ => []
  | d + 1, t => match te.get t with
    | none => []
    | some i => match i.k with
      | .int k => [.int k]
      | .bool => [.bool]
      | .str => [.str]
      | .arr m e => (List.replicate m (flatK te d e)).flatten
      | .struct fs => (fs.map fun p => flatK te d p.2).flatten
      | _ => []
def plainEq (P : Program) (te : TE) : Nat → TypeId → Bool
  | 0, _ => false
  | d + 1, t => match te.get t with
    | none => false
    | some i => (flatK te (d + 1) t).length == i.size && match i.k with
      | .int _ | .bool | .str => true
      | .arr m e => plainEq P te d e && (match te.get e with | some j => Nat.blt 0 j.size | none => false)
      | .struct fs => contig te 0 fs i.size && fs.all (fun p => plainEq P te d p.2) && !P.stoodInHeld t && (P.fieldsOf t).toList.all fun f => decide (f.name ≠ "_")
      | _ => false
def eq1 : Value → Value → Bool
  | .int _ a, .int _ b => decide (a = b)
  | .bool a, .bool b => a == b
  | .string a, .string b => decide (a.data.toList = b.data.toList)
  | _, _ => false
def eqV : List Value → List Value → Bool
  | [], [] => true
  | a :: l, b :: m => eq1 a b && eqV l m
  | _, _ => false
def fitV : List ZC → List Value → Prop
  | [], [] => True
  | .int k :: zs, v :: vs => (∃ n, v = .int k n) ∧ fitV zs vs
  | .bool :: zs, v :: vs => (∃ b, v = .bool b) ∧ fitV zs vs
  | .str :: zs, v :: vs => (∃ b, v = .string b) ∧ fitV zs vs
  | _, _ => False
theorem fitV_length : ∀ {zs : List ZC} {l : List Value}, fitV zs l → l.length = zs.length
  | [], [], _ => rfl
  | .int k :: zs, v :: vs, h => by simp [fitV_length h.2]
  | .bool :: zs, v :: vs, h => by simp [fitV_length h.2]
  | .str :: zs, v :: vs, h => by simp [fitV_length h.2]
  | .ptr :: _, _ :: _, h | .slice :: _, _ :: _, h | .map :: _, _ :: _, h | .func :: _, _ :: _, h | .iface :: _, _ :: _, h => h.elim
  | [], _ :: _, h => h.elim
  | z :: _, [], h => by cases z <;> exact h.elim
theorem fitV_append : ∀ {zs ys : List ZC} {l : List Value}, fitV (zs ++ ys) l → fitV zs (l.take zs.length) ∧ fitV ys (l.drop zs.length)
  | [], ys, l, h => by simpa [fitV] using h
  | .int k :: zs, ys, v :: vs, h => ⟨⟨h.1, (fitV_append h.2).1⟩, (fitV_append h.2).2⟩
  | .bool :: zs, ys, v :: vs, h => ⟨⟨h.1, (fitV_append h.2).1⟩, (fitV_append h.2).2⟩
  | .str :: zs, ys, v :: vs, h => ⟨⟨h.1, (fitV_append h.2).1⟩, (fitV_append h.2).2⟩
  | .ptr :: _, _, _ :: _, h | .slice :: _, _, _ :: _, h | .map :: _, _, _ :: _, h | .func :: _, _, _ :: _, h | .iface :: _, _, _ :: _, h => h.elim
  | z :: _, _, [], h => by cases z <;> exact h.elim
theorem eqV_append : ∀ {a b c d : List Value}, a.length = c.length → eqV (a ++ b) (c ++ d) = (eqV a c && eqV b d)
  | [], b, [], d, _ => by simp [eqV]
  | x :: a, b, y :: c, d, h => by
    simp only [List.cons_append, eqV]
    rw [eqV_append (by simpa using h), Bool.and_assoc]
  | [], _, _ :: _, _, h => by simp at h
  | _ :: _, _, [], _, h => by simp at h
theorem eqV_cut {xs ys : List Value} {k : Nat} (h : xs.length = ys.length) : eqV xs ys = (eqV (xs.take k) (ys.take k) && eqV (xs.drop k) (ys.drop k)) := by
  conv => lhs; rw [← List.take_append_drop k xs, ← List.take_append_drop k ys]
  exact eqV_append (by simp [h])
def whole (agg : Bool) (xs : List Value) : Value := bif agg then .agg xs.toArray else xs.headD undef

section
variable {P : Program} {te : TE}
theorem run_part_at (hte : TEok P te) {t : TypeId} {i : TI} (ht : te.get t = some i) {xs : List Value} {off : Nat} (h : off + i.size ≤ xs.length) (hp : 0 < i.size ∨ i.k.agg = true) (w : World) :
    (part t xs.toArray off).run P w = .ok (whole i.k.agg ((xs.drop off).take i.size)) w := by
  have h1 := (hte.tells ht).run_isAgg w
  have h2 := (hte.tells ht).run_sizeOf w
  unfold part
  cases hk : i.k.agg with
  | true =>
    rw [hk] at h1
    simp only [Sem.run_bind, h1, Result.andThen_ok, if_true, h2, Sem.run_pure, whole, cond_true]
    congr 2
    apply Array.ext'
    simp [List.take_drop]
  | false =>
    rw [hk] at h1
    have hp : 0 < i.size := by rcases hp with hp | hp
                               · exact hp
                               · rw [hk] at hp; cases hp
    have hlt : off < xs.length := by omega
    simp only [Sem.run_bind, h1, Result.andThen_ok, Bool.false_eq_true, if_false, whole, cond_false, List.getElem?_toArray, List.getElem?_eq_getElem hlt, Sem.run_pure]
    congr 1
    rw [List.drop_eq_getElem_cons hlt]
    obtain ⟨m, hm⟩ : ∃ m, i.size = m + 1 := ⟨i.size - 1, by omega⟩
    rw [hm]
    rfl

theorem run_eqWhole (hte : TEok P te) : ∀ (d : Nat) {t : TypeId} {i : TI}, te.get t = some i → plainEq P te d t = true → ∀ (D : Nat), d ≤ D → ∀ {xs ys : List Value}, fitV (flatK te d t) xs → fitV (flatK te d t) ys → ∀ w : World,
    (Op.equalIn D t (whole i.k.agg xs) (whole i.k.agg ys)).run P w = .ok (eqV xs ys) w
  | 0, _, _, _, h, _, _, _, _, _, _, _ => by cases h
  | d + 1, t, i, ht, h, D, hD, xs, ys, hx, hy, w => by
    obtain ⟨D, rfl⟩ : ∃ E, D = E + 1 := ⟨D - 1, by omega⟩
    simp only [plainEq, ht, Bool.and_eq_true, beq_iff_eq] at h
    obtain ⟨hsz, h⟩ := h
    have lx := fitV_length hx
    have ly := fitV_length hy
    simp only [flatK, ht] at hx hy hsz lx ly
    cases hk : i.k with
    | int k =>
      simp only [hk] at hx hy
      match xs, ys, hx, hy with
      | [x], [y], hx, hy =>
        obtain ⟨⟨a, rfl⟩, _⟩ := hx
        obtain ⟨⟨b, rfl⟩, _⟩ := hy
        simp only [TK.agg, whole, cond_false, List.headD_cons]
        rw [run_equalIn_int w D t k k a b ((hte.tells ht).int hk)]
        simp only [eqV, eq1, Bool.and_true]; congr 1; try (by_cases h : a = b <;> simp [h])
    | bool =>
      simp only [hk] at hx hy
      match xs, ys, hx, hy with
      | [x], [y], hx, hy =>
        obtain ⟨⟨a, rfl⟩, _⟩ := hx
        obtain ⟨⟨b, rfl⟩, _⟩ := hy
        simp only [TK.agg, whole, cond_false, List.headD_cons]
        rw [run_equalIn_bool' w D t a b ((hte.tells ht).bool hk)]
        simp [eqV, eq1]
    | str =>
      simp only [hk] at hx hy
      match xs, ys, hx, hy with
      | [x], [y], hx, hy =>
        obtain ⟨⟨a, rfl⟩, _⟩ := hx
        obtain ⟨⟨b, rfl⟩, _⟩ := hy
        simp only [TK.agg, whole, cond_false, List.headD_cons]
        rw [run_equalIn_string w D t a b ((hte.tells ht).str hk)]
        obtain ⟨⟨a⟩⟩ := a
        obtain ⟨⟨b⟩⟩ := b
        simp only [eqV, eq1, Bool.and_true, toList_mk]; congr 1; try (by_cases h : a = b <;> simp [h])
    | arr m e =>
      simp only [hk, Bool.and_eq_true] at hx hy h hsz lx ly
      obtain ⟨h1, h2⟩ := h
      cases he : te.get e with
      | none => rw [he] at h2; cases h2
      | some j =>
        rw [he] at h2
        have hjp : 0 < j.size := Nat.blt_eq.mp h2
        have hjs : (flatK te d e).length = j.size := by
          cases d with
          | zero => cases h1
          | succ d =>
            simp only [plainEq, he, Bool.and_eq_true, beq_iff_eq] at h1
            exact h1.1
        have hu := (hte.tells ht).arr hk
        have hDd : d ≤ D := by omega
        have ih := fun {xs ys : List Value} => run_eqWhole hte d he h1 D hDd (xs := xs) (ys := ys)
        have hszo := (hte.tells he).run_sizeOf w
        have hl : (List.replicate m (flatK te d e)).flatten.length = m * j.size := by simp [hjs]
        rw [hl] at lx ly
        have key : ∀ (c k : Nat), k + c = m → fitV (List.replicate c (flatK te d e)).flatten (xs.drop (k * j.size)) → fitV (List.replicate c (flatK te d e)).flatten (ys.drop (k * j.size)) →
            ((forIn (List.range' k c) ((none, ()) : Option Bool × Unit) fun i (_ : Option Bool × Unit) => do
              let a ← part e xs.toArray (i * j.size)
              let b ← part e ys.toArray (i * j.size)
              let r ← Op.equalIn D e a b
              if (!r) = true then pure (ForInStep.done (some false, ())) else pure (ForInStep.yield (none, ())) : Sem (Option Bool × Unit))).run P w =
              .ok (if eqV (xs.drop (k * j.size)) (ys.drop (k * j.size)) = true then (none, ()) else (some false, ())) w := by
          intro c
          induction c with
          | zero =>
            intro k hkm _ _
            have e1 : xs.drop (k * j.size) = [] := List.drop_eq_nil_of_le (by rw [lx, ← hkm, Nat.add_zero]; omega)
            have e2 : ys.drop (k * j.size) = [] := List.drop_eq_nil_of_le (by rw [ly, ← hkm, Nat.add_zero]; omega)
            simp [e1, e2, eqV]
          | succ c ihc =>
            intro k hkm fx fy
            rw [List.replicate_succ, List.flatten_cons] at fx fy
            obtain ⟨fx1, fx2⟩ := fitV_append fx
            obtain ⟨fy1, fy2⟩ := fitV_append fy
            rw [hjs] at fx1 fx2 fy1 fy2
            rw [List.drop_drop] at fx2 fy2
            have hkk : (k + 1) * j.size ≤ m * j.size := Nat.mul_le_mul_right _ (by omega)
            rw [Nat.add_mul, Nat.one_mul] at hkk
            have p1 := run_part_at hte he (xs := xs) (off := k * j.size) (by omega) (.inl hjp) w
            have p2 := run_part_at hte he (xs := ys) (off := k * j.size) (by omega) (.inl hjp) w
            have p3 := ih fx1 fy1 w
            have e3 : k * j.size + j.size = (k + 1) * j.size := by rw [Nat.add_mul, Nat.one_mul]
            rw [e3] at fx2 fy2
            rw [eqV_cut (k := j.size) (by simp [lx, ly]), List.drop_drop, List.drop_drop, e3]
            simp only [List.range'_succ, List.forIn_cons, Sem.run_bind, p1, p2, p3, Result.andThen_ok]
            cases hq : eqV ((xs.drop (k * j.size)).take j.size) ((ys.drop (k * j.size)).take j.size) with
            | false => simp
            | true =>
              simp only [Bool.not_true, Bool.false_eq_true, if_false, Sem.run_pure, Result.andThen_ok, Bool.true_and]
              exact ihc (k + 1) (by omega) fx2 fy2
        have k0 := key m 0 (by omega) (by simpa using hx) (by simpa using hy)
        simp only [Nat.zero_mul, List.drop_zero] at k0
        simp only [TK.agg, whole, cond_true, Op.equalIn, Sem.run_bind, run_underlying hu, Result.andThen_ok, hszo]
        rw [Std.Legacy.Range.forIn_eq_forIn_range']
        simp only [Std.Legacy.Range.size, Nat.sub_zero, Nat.add_sub_cancel, Nat.div_one]
        rw [k0]
        cases eqV xs ys <;> simp
    | struct fs =>
      simp only [hk, Bool.and_eq_true, Bool.not_eq_true'] at hx hy h hsz lx ly
      obtain ⟨⟨⟨h1, h2⟩, h3⟩, h4⟩ := h
      obtain ⟨fa, hu, hfs⟩ := (hte.tells ht).struct hk
      have hfo : P.fieldsOf t = fa := by simp [Program.fieldsOf, hu]
      rw [hfo] at h4
      have hu' : P.underlying t = some (.struct (P.fieldsOf t)) := by rw [hfo]; exact hu
      simp only [TK.agg, whole, cond_true]
      rw [run_equalIn_agg w D t _ _ hu' h3, hfo]
      rw [hsz] at lx ly
      have key : ∀ (l : List Field) (off : Nat), contig te off (l.map fun f => (f.offset, f.type)) i.size = true → ((l.map fun f => (f.offset, f.type)).all fun p => plainEq P te d p.2) = true → (l.all fun f => decide (f.name ≠ "_")) = true →
          fitV ((l.map fun f => (f.offset, f.type)).map fun p => flatK te d p.2).flatten (xs.drop off) → fitV ((l.map fun f => (f.offset, f.type)).map fun p => flatK te d p.2).flatten (ys.drop off) →
          (Op.eqFields D xs.toArray ys.toArray l).run P w = .ok (eqV (xs.drop off) (ys.drop off)) w := by
        intro l
        induction l with
        | nil =>
          intro off hc _ _ _ _
          have := Nat.eq_of_beq_eq_true hc
          subst this
          rw [List.drop_eq_nil_of_le (by omega), List.drop_eq_nil_of_le (by omega)]
          simp [Op.eqFields, eqV]
        | cons f l ihl =>
          intro off hc ha hn fx fy
          simp only [List.map_cons, contig, Bool.and_eq_true] at hc
          obtain ⟨ho, hc⟩ := hc
          have ho := Nat.eq_of_beq_eq_true ho
          subst ho
          simp only [List.map_cons, List.all_cons, Bool.and_eq_true, decide_eq_true_eq] at ha hn
          simp only [List.map_cons, List.flatten_cons] at fx fy
          cases hj : te.get f.type with
          | none => rw [hj] at hc; cases hc
          | some j =>
            rw [hj] at hc
            have hjs : (flatK te d f.type).length = j.size := by
              cases d with
              | zero => cases ha.1
              | succ d =>
                have h1 := ha.1
                simp only [plainEq, hj, Bool.and_eq_true, beq_iff_eq] at h1
                exact h1.1
            have hpos : 0 < j.size ∨ j.k.agg = true := by
              cases d with
              | zero => cases ha.1
              | succ d =>
                have h1 := ha.1
                simp only [plainEq, hj, Bool.and_eq_true, beq_iff_eq] at h1
                obtain ⟨h1, h2⟩ := h1
                simp only [flatK, hj] at h1
                cases hjk : j.k <;> simp_all [TK.agg]
                all_goals omega
            obtain ⟨fx1, fx2⟩ := fitV_append fx
            obtain ⟨fy1, fy2⟩ := fitV_append fy
            have gx := fitV_length fx1
            have gx2 := fitV_length fx
            have gy2 := fitV_length fy
            rw [hjs] at fx1 fx2 fy1 fy2
            rw [List.drop_drop] at fx2 fy2
            simp only [List.length_append, List.length_drop, hjs] at gx2 gy2
            have hle : f.offset + j.size ≤ xs.length := by
              rcases Nat.lt_or_ge xs.length f.offset with q | q
              · have : j.size = 0 := by omega
                simp only [contig] at hc
                have : ∀ (l : List (Nat × TypeId)) (o z : Nat), contig te o l z = true → o ≤ z := by
                  intro l
                  induction l with
                  | nil => intro o z h; exact Nat.le_of_eq (Nat.eq_of_beq_eq_true h)
                  | cons p l ih =>
                    intro o z h
                    simp only [contig, Bool.and_eq_true] at h
                    cases hp : te.get p.2 with
                    | none => rw [hp] at h; cases h.2
                    | some q =>
                      rw [hp] at h
                      have := ih _ _ h.2
                      omega
                have := this _ _ _ hc
                omega
              · omega
            have p1 := run_part_at hte hj (xs := xs) (off := f.offset) hle hpos w
            have p2 := run_part_at hte hj (xs := ys) (off := f.offset) (by omega) hpos w
            have p3 := run_eqWhole hte d hj ha.1 D (by omega) fx1 fy1 w
            rw [eqV_cut (k := j.size) (by simp [lx, ly]), List.drop_drop, List.drop_drop]
            simp only [Op.eqFields, hn.1, ne_eq, not_false_eq_true, if_true, Sem.run_bind]
            simp only [p1, p2, p3, Result.andThen_ok]
            have ih2 := ihl (f.offset + j.size) hc ha.2 hn.2 fx2 fy2
            cases hq : eqV ((xs.drop f.offset).take j.size) ((ys.drop f.offset).take j.size) with
            | false => simp
            | true =>
              simp only [Bool.not_true, Bool.false_eq_true, if_false, Bool.true_and]
              exact ih2
      have := key fa.toList 0 (by rw [hfs]; exact h1) (by rw [hfs]; exact h2) h4 (by rw [hfs]; simpa using hx) (by rw [hfs]; simpa using hy)
      simpa using this
    | slice e => simp only [hk] at h; cases h
    | ptr e => simp only [hk] at h; cases h
    | map a b => simp only [hk] at h; cases h
    | iface b => simp only [hk] at h; cases h
    | func => simp only [hk] at h; cases h
    | other => simp only [hk] at h; cases h
end
def unv : AV → Value
  | .v x => x
  | _ => undef
def fit1 : ZC → AV → Bool
  | .int k, .v (.int k' _) => k == k'
  | .bool, .v (.bool _) => true
  | .str, .v (.string _) => true
  | _, _ => false
def fitC : List ZC → List AV → Bool
  | [], [] => true
  | z :: zs, c :: cs => fit1 z c && fitC zs cs
  | _, _ => false
theorem fit1_spec {z : ZC} {c : AV} (h : fit1 z c = true) : (∀ zs vs, fitV zs vs → fitV (z :: zs) (unv c :: vs)) ∧ c = .v (unv c) := by
  unfold fit1 at h
  split at h
  · simp only [beq_iff_eq] at h
    subst h
    exact ⟨fun zs vs k => ⟨⟨_, rfl⟩, k⟩, rfl⟩
  · exact ⟨fun zs vs k => ⟨⟨_, rfl⟩, k⟩, rfl⟩
  · exact ⟨fun zs vs k => ⟨⟨_, rfl⟩, k⟩, rfl⟩
  · cases h
theorem fitC_spec : ∀ {zs : List ZC} {cs : List AV}, fitC zs cs = true → fitV zs (cs.map unv) ∧ ∀ c ∈ cs, c = .v (unv c)
  | [], [], _ => ⟨trivial, fun c h => by cases h⟩
  | z :: zs, c :: cs, h => by
    simp only [fitC, Bool.and_eq_true] at h
    have h1 := fit1_spec h.1
    have ih := fitC_spec h.2
    exact ⟨h1.1 _ _ ih.1, fun x hx => by
      rcases List.mem_cons.1 hx with rfl | hx
      · exact h1.2
      · exact ih.2 x hx⟩
  | [], _ :: _, h => by simp [fitC] at h
  | _ :: _, [], h => by simp [fitC] at h
def plainC : List AV → Bool
  | [] => true
  | .v (.int _ _) :: l => plainC l
  | .v (.bool _) :: l => plainC l
  | .v (.string _) :: l => plainC l
  | _ :: _ => false
theorem eqV_same : ∀ {cs : List AV}, plainC cs = true → eqV (cs.map unv) (cs.map unv) = true
  | [], _ => rfl
  | c :: l, h => by
    cases c with
    | v x =>
      cases x <;> first | (simp [plainC] at h; done) | (simp only [plainC] at h; simp [unv, eqV, eq1, eqV_same h])
    | _ => simp [plainC] at h
theorem rep_plain {w : World} {φ : PMap} {Λ : Lent} {cs : List AV} {v : Value} (h : Rep w φ Λ (.agg cs) v) (hc : ∀ c ∈ cs, c = .v (unv c)) : v = .agg (cs.map unv).toArray := by
  cases h with
  | @agg _ vs vf h1 h2 h3 =>
    congr 1
    apply Array.ext'
    apply List.ext_getElem?
    intro j
    simp only [Array.getElem?_toList, List.getElem?_toArray, List.getElem?_map]
    by_cases hj : j < cs.length
    · have e := h3 j cs[j] (List.getElem?_eq_getElem hj)
      have e2 := hc cs[j] (List.getElem_mem hj)
      rw [h2 j hj, List.getElem?_eq_getElem hj, Option.map_some]
      generalize vf j = z at e
      rw [e2] at e
      cases e
      rfl
    · rw [List.getElem?_eq_none (by omega), Array.getElem?_eq_none (by omega)]
      rfl
section
variable {n : Nat} {s : AS} {o : Oper} {d : Option Tmp}
theorem q_eqp {op : BinOp} {t u : TypeId} {x y : Operand} {cs ds : List AV} {r r' : Bool} {ti : TI} (ho : o.op = .binOp op t x y u := by exact rfl) (hx : s.ev x = .agg cs := by exact rfl) (hy : s.ev y = .agg ds := by exact rfl)
    (ht : te.get t = some ti := by exact rfl) (hk : ti.k.agg = true := by exact rfl) (hp : plainEq Try.prog te 9 t = true := by kernel_rfl) (hm : Try.prog.eqGuardType Try.prog.depth t = false := by kernel_rfl)
    (hc : fitC (flatK te 9 t) cs = true := by exact rfl) (hc2 : fitC (flatK te 9 t) ds = true := by exact rfl) (hr : eqV (cs.map unv) (ds.map unv) = r := by exact rfl)
    (hop : (op = .eql ∧ r' = r) ∨ (op = .neq ∧ r' = !r) := by first | exact .inl ⟨rfl, rfl⟩ | exact .inr ⟨rfl, rfl⟩)
    (hdd : o.dst = d := by conv => lhs; whnf) (hd : d.all (Nat.blt · n) = true := by exact rfl) : OpOk Try.prog n o s (s.put d (tf r')) :=
  .val hdd hd fun Λ w φ ac hs => by
    obtain ⟨f1, g1⟩ := fitC_spec hc
    obtain ⟨f2, g2⟩ := fitC_spec hc2
    have r1 := hs.ev x
    rw [hx] at r1
    have e1 := rep_plain r1 g1
    have r2 := hs.ev y
    rw [hy] at r2
    have e2 := rep_plain r2 g2
    have e3 := run_eqWhole te_ok 9 ht hp 10000 (by decide) f1 f2 w
    rw [hk, hr] at e3
    simp only [whole, cond_true] at e3
    have e4 := run_eqGuard_agg w op t x y (cs.map unv).toArray (ds.map unv).toArray hm
    refine ⟨.bool r', ?_, .v⟩
    rcases hop with ⟨rfl, rfl⟩ | ⟨rfl, rfl⟩
    · simp only [execOp, ho, e1, e2, Sem.run_bind, e4, Result.andThen_ok, run_eql_struct, e3, Sem.run_pure]
    · simp only [execOp, ho, e1, e2, Sem.run_bind, e4, Result.andThen_ok, run_neq_struct, e3, Sem.run_pure]
end
end Go.Proofs.Ytaemmklgofddmaa.Fw
