/- The texts Q12, W24, W24b, L24a, M2, L24h, one behind the other: what the walks and plain laws need; conditions stand with each theorem. -/
import Derived.MapKept
import Derived.Test.YtolaeondhhnfoaaCat3
/- Q12: maps whose keys are numbers or strings. -/
set_option linter.unusedVariables false
set_option linter.unusedSimpArgs false
set_option linter.unusedSectionVars false
namespace Go.Proofs.Ytolaeondhhnfoaa.Fw
open Go.RowKit
/-! ### Lists of keys and values -/
section pure
variable {κ β : Type} [DecidableEq κ]
def mget : List (κ × β) → κ → Option β
  | [], _ => none
  | (a, b) :: m, k => if a = k then some b else mget m k
def mput : List (κ × β) → κ → β → List (κ × β)
  | [], k, v => [(k, v)]
  | (a, b) :: m, k, v => if a = k then (k, v) :: m else (a, b) :: mput m k v
def mdel : List (κ × β) → κ → List (κ × β)
  | [], _ => []
  | (a, b) :: m, k => if a = k then m else (a, b) :: mdel m k
def MNd (m : List (κ × β)) : Prop := (m.map (·.1)).Nodup
theorem mget_put (m : List (κ × β)) (k k' : κ) (v : β) : mget (mput m k v) k' = if k = k' then some v else mget m k' := by
  induction m with
  | nil => simp [mput, mget]
  | cons p m ih =>
    obtain ⟨a, b⟩ := p
    simp only [mput]
    split
    · rename_i h; subst h
      simp only [mget]
      split <;> rfl
    · rename_i h
      simp only [mget, ih]
      by_cases h1 : a = k'
      · subst h1
        rw [if_pos rfl, if_neg (fun e => h e.symm), if_pos rfl]
      · rw [if_neg h1, if_neg h1]
theorem mget_none {m : List (κ × β)} {k : κ} (h : k ∉ m.map (·.1)) : mget m k = none := by
  induction m with
  | nil => rfl
  | cons p m ih =>
    obtain ⟨a, b⟩ := p
    simp only [List.map_cons, List.mem_cons, not_or] at h
    rw [mget, if_neg (fun e => h.1 e.symm), ih h.2]
theorem mget_del {m : List (κ × β)} (hn : MNd m) (k k' : κ) : mget (mdel m k) k' = if k = k' then none else mget m k' := by
  induction m with
  | nil => simp [mdel, mget]
  | cons p m ih =>
    obtain ⟨a, b⟩ := p
    have hn' : a ∉ m.map (·.1) ∧ MNd m := by simpa [MNd] using hn
    simp only [mdel]
    split
    · rename_i h; subst h
      by_cases h1 : a = k'
      · subst h1; rw [if_pos rfl]; exact mget_none hn'.1
      · rw [if_neg h1, mget, if_neg h1]
    · rename_i h
      simp only [mget, ih hn'.2]
      by_cases h1 : a = k'
      · subst h1
        rw [if_pos rfl, if_neg (fun e => h e.symm), if_pos rfl]
      · rw [if_neg h1, if_neg h1]
theorem mput_mem {m : List (κ × β)} {k x : κ} {v : β} (h : x ∈ (mput m k v).map (·.1)) : x = k ∨ x ∈ m.map (·.1) := by
  induction m with
  | nil => simp [mput] at h; exact .inl h
  | cons p m ih =>
    obtain ⟨a, b⟩ := p
    simp only [mput] at h
    split at h
    · rename_i e; subst e; exact .inr (by simpa using h)
    · simp only [List.map_cons, List.mem_cons] at h ⊢
      rcases h with h | h
      · exact .inr (.inl h)
      · rcases ih h with h | h
        · exact .inl h
        · exact .inr (.inr h)
theorem MNd.put {m : List (κ × β)} (hn : MNd m) (k : κ) (v : β) : MNd (mput m k v) := by
  induction m with
  | nil => simp [mput, MNd]
  | cons p m ih =>
    obtain ⟨a, b⟩ := p
    have hn' : a ∉ m.map (·.1) ∧ MNd m := by simpa [MNd] using hn
    simp only [mput]
    split
    · rename_i e; subst e; exact hn
    · rename_i e
      show ((a, b) :: mput m k v |>.map (·.1)).Nodup
      rw [List.map_cons, List.nodup_cons]
      refine ⟨fun h => ?_, ih hn'.2⟩
      rcases mput_mem h with h | h
      · exact e h
      · exact hn'.1 h
theorem mdel_mem {m : List (κ × β)} {k x : κ} (h : x ∈ (mdel m k).map (·.1)) : x ∈ m.map (·.1) := by
  induction m with
  | nil => exact h
  | cons p m ih =>
    obtain ⟨a, b⟩ := p
    simp only [mdel] at h
    split at h
    · simp only [List.map_cons, List.mem_cons]; exact .inr h
    · simp only [List.map_cons, List.mem_cons] at h ⊢
      exact h.imp_right ih
theorem MNd.del {m : List (κ × β)} (hn : MNd m) (k : κ) : MNd (mdel m k) := by
  induction m with
  | nil => exact hn
  | cons p m ih =>
    obtain ⟨a, b⟩ := p
    have hn' : a ∉ m.map (·.1) ∧ MNd m := by simpa [MNd] using hn
    simp only [mdel]
    split
    · exact hn'.2
    · show ((a, b) :: mdel m k |>.map (·.1)).Nodup
      rw [List.map_cons, List.nodup_cons]
      exact ⟨fun h => hn'.1 (mdel_mem h), ih hn'.2⟩
theorem MNd.nil : MNd ([] : List (κ × β)) := by simp [MNd]
theorem mfind (m : List (κ × β)) (k : κ) : (mget m k = none ∧ (∀ (i : Nat) (q : κ × β), m[i]? = some q → q.1 ≠ k) ∧ (∀ v, mput m k v = m ++ [(k, v)]) ∧ mdel m k = m) ∨
    ∃ j p, m[j]? = some p ∧ p.1 = k ∧ (∀ (i : Nat) (q : κ × β), i < j → m[i]? = some q → q.1 ≠ k) ∧ mget m k = some p.2 ∧ (∀ v, mput m k v = m.set j (k, v)) ∧ mdel m k = m.eraseIdx j := by
  induction m with
  | nil => exact .inl ⟨rfl, by simp, fun v => rfl, rfl⟩
  | cons p m ih =>
    obtain ⟨a, b⟩ := p
    by_cases h : a = k
    · refine .inr ⟨0, (a, b), rfl, h, by simp, by rw [mget, if_pos h], fun v => by rw [mput, if_pos h]; rfl, by rw [mdel, if_pos h]; rfl⟩
    · rcases ih with ⟨h1, h2, h3, h4⟩ | ⟨j, p, h1, h2, h3, h4, h5, h6⟩
      · refine .inl ⟨by rw [mget, if_neg h, h1], fun i q hq => ?_, fun v => by rw [mput, if_neg h, h3]; rfl, by rw [mdel, if_neg h, h4]⟩
        cases i with
        | zero => simp at hq; subst hq; exact h
        | succ i => exact h2 i q (by simpa using hq)
      · refine .inr ⟨j + 1, p, by simpa using h1, h2, fun i q hi hq => ?_, by rw [mget, if_neg h, h4], fun v => by rw [mput, if_neg h, h5]; rfl, by rw [mdel, if_neg h, h6]; rfl⟩
        cases i with
        | zero => simp at hq; subst hq; exact h
        | succ i => exact h3 i q (by omega) (by simpa using hq)
end pure
/-! ### Keys -/
structure MKey (κ : Type) where
  kv : κ → Value
  d : TypeDesc
  isKey : ∀ k, MapKept.IsKey d (kv k)
  inj : ∀ a b, kv a = kv b → a = b
  same : ∀ k, Instr.sameBits 10000 (kv k) (kv k) = true
def MInt : MKey Int := ⟨fun k => .int .i64 k, .int .i64, fun _ => rfl, fun a b h => by cases h; rfl, fun k => by simp [Instr.sameBits]⟩
def MStr : MKey (List UInt8) := ⟨fun k => .string ⟨⟨k⟩⟩, .string, fun _ => trivial, fun a b h => by cases h; rfl, fun k => MapKept.sameBits_self (d := .string) (show MapKept.IsKey .string (.string ⟨⟨k⟩⟩) from trivial) 10000⟩
theorem findNow_none {d : TypeDesc} {kk : Value} (hk : MapKept.IsKey d kk) : ∀ (l : List MapEntry) (i : Nat), (∀ e ∈ l, MapKept.IsKey d e.key ∧ e.key ≠ kk) → Instr.findNow d kk l i = some none
  | [], _, _ => rfl
  | e :: l, i, h => by
    obtain ⟨r, hr, hiff⟩ := MapKept.sameNow_of_keys hk (h e (by simp)).1
    cases r with
    | true => exact absurd (hiff.1 rfl).symm (h e (by simp)).2
    | false =>
      simp only [Instr.findNow, hr]
      exact findNow_none hk l (i + 1) fun e he => h e (by simp [he])
theorem findNow_some {d : TypeDesc} {kk : Value} (hk : MapKept.IsKey d kk) : ∀ (l : List MapEntry) (i j : Nat) (e : MapEntry), l[j]? = some e → e.key = kk → (∀ i' e', i' < j → l[i']? = some e' → MapKept.IsKey d e'.key ∧ e'.key ≠ kk) →
    Instr.findNow d kk l i = some (some (i + j, e.val))
  | [], _, _, _, h, _, _ => by simp at h
  | x :: l, i, 0, e, h, he, _ => by
    simp at h; subst h
    obtain ⟨r, hr, hiff⟩ := MapKept.sameNow_of_keys hk (he ▸ hk : MapKept.IsKey d x.key)
    have : r = true := hiff.2 he.symm
    subst this
    simp [Instr.findNow, hr]
  | x :: l, i, j + 1, e, h, he, hb => by
    have h0 := hb 0 x (by omega) rfl
    obtain ⟨r, hr, hiff⟩ := MapKept.sameNow_of_keys hk h0.1
    cases r with
    | true => exact absurd (hiff.1 rfl).symm h0.2
    | false =>
      simp only [Instr.findNow, hr]
      have := findNow_some hk l (i + 1) j e (by simpa using h) he fun i' e' hi he' => hb (i' + 1) e' (by omega) (by simpa using he')
      rw [this]
      congr 3; omega
section rules
variable {n : Nat} {s : AS} {o : Oper} {d : Option Tmp} {κ β : Type} [DecidableEq κ]
def me (K : MKey κ) (f : β → AV) (m : List (κ × β)) : List (Value × AV) := m.map fun p => (K.kv p.1, f p.2)
structure MEnts (w : World) (φ : PMap) (Λ : Lent) (K : MKey κ) (f : β → AV) (m : List (κ × β)) (ents : Array MapEntry) : Prop where
  size : ents.size = m.length
  at' : ∀ (j : Nat) p, m[j]? = some p → ∃ e, ents[j]? = some e ∧ e.key = K.kv p.1 ∧ Rep w φ Λ (f p.2) e.val
theorem map_at {w : World} {φ : PMap} {Λ : Lent} {h : Heap} (hs : HSim w φ Λ h) {id : Nat} {K : MKey κ} {f : β → AV} {m : List (κ × β)} (hob : h id = some (.map (me K f m))) :
    ∃ l b ents clock, φ id = some l ∧ l.bo = some (b, 0) ∧ l.ver = 0 ∧ w.heap[b]? = some (.map ents clock) ∧ MEnts w φ Λ K f m ents := by
  obtain ⟨l, hl, b, ents, clock, h1, h2, h3, h4, h5⟩ := hs.heap id _ hob
  refine ⟨l, b, ents, clock, hl, h1, h2, h3, by rw [h4, me, List.length_map], fun j p hp => ?_⟩
  exact h5 j (K.kv p.1, f p.2) (by rw [me, List.getElem?_map, hp]; rfl)
theorem MEnts.key {w : World} {φ : PMap} {Λ : Lent} {K : MKey κ} {f : β → AV} {m : List (κ × β)} {ents : Array MapEntry} (h : MEnts w φ Λ K f m ents) {i : Nat} {e : MapEntry} (he : ents[i]? = some e) : ∃ p, m[i]? = some p ∧ e.key = K.kv p.1 := by
  have hlt : i < m.length := by
    have := (Array.getElem?_eq_some_iff.1 he).1
    rw [← h.size]; exact this
  obtain ⟨e', h1, h2, _⟩ := h.at' i m[i] (List.getElem?_eq_getElem hlt)
  rw [he] at h1; cases h1
  exact ⟨_, List.getElem?_eq_getElem hlt, h2⟩
theorem MEnts.none {w : World} {φ : PMap} {Λ : Lent} {K : MKey κ} {f : β → AV} {m : List (κ × β)} {ents : Array MapEntry} (h : MEnts w φ Λ K f m ents) {k : κ} (hk : ∀ (i : Nat) (q : κ × β), m[i]? = some q → q.1 ≠ k) :
    Instr.findNow K.d (K.kv k) ents.toList 0 = some none := by
  refine findNow_none (K.isKey k) _ 0 fun e he => ?_
  obtain ⟨i, hi, rfl⟩ := List.getElem_of_mem he
  obtain ⟨p, h1, h2⟩ := h.key (i := i) (e := ents.toList[i]) (by rw [← Array.getElem?_toList, List.getElem?_eq_getElem hi])
  rw [h2]
  exact ⟨K.isKey _, fun e => hk i p h1 (K.inj _ _ e)⟩
theorem MEnts.some {w : World} {φ : PMap} {Λ : Lent} {K : MKey κ} {f : β → AV} {m : List (κ × β)} {ents : Array MapEntry} (h : MEnts w φ Λ K f m ents) {k : κ} {j : Nat} {p : κ × β} (h1 : m[j]? = some p) (h2 : p.1 = k) (hk : ∀ (i : Nat) (q : κ × β), i < j → m[i]? = some q → q.1 ≠ k) :
    ∃ e, ents[j]? = some e ∧ e.key = K.kv k ∧ Rep w φ Λ (f p.2) e.val ∧ Instr.findNow K.d (K.kv k) ents.toList 0 = some (some (j, e.val)) := by
  obtain ⟨e, q1, q2, q3⟩ := h.at' j p h1
  refine ⟨e, q1, by rw [q2, h2], q3, ?_⟩
  have := findNow_some (K.isKey k) ents.toList 0 j e (by rw [Array.getElem?_toList, q1]) (by rw [q2, h2]) fun i' e' hi he' => ?_
  · rwa [Nat.zero_add] at this
  · rw [Array.getElem?_toList] at he'
    obtain ⟨p', g1, g2⟩ := h.key he'
    rw [g2]
    exact ⟨K.isKey _, fun e => hk i' p' hi g1 (K.inj _ _ e)⟩
theorem rep_mp {w : World} {φ : PMap} {Λ : Lent} {id : Nat} {l : Loc} {b : Nat} {v : Value} (h : Rep w φ Λ (.mp id 0) v) (hl : φ id = some l) (hv : l.ver = 0) (hb : l.bo = some (b, 0)) : v = .map (some b) := by
  cases h with
  | mp h1 h2 h3 => rw [hl] at h1; cases h1; rw [hb] at h3; cases h3; rfl
  | mpx h1 h2 => rw [hl] at h1; cases h1; omega
def mres (f : β → AV) (z : AV) : Option β → AV
  | some b => f b
  | none => z
theorem mres_tf (x : Option Bool) : mres (fun b => tf b) (tf false) x = tf (x.getD false) := by cases x <;> rfl
theorem mres_int (x : Option Int) : mres (fun b => i64 b) (i64 0) x = i64 (x.getD 0) := by cases x <;> rfl
theorem objIn_me {S : Nat → Bool} {K : MKey κ} {f : β → AV} {m : List (κ × β)} (h : ∀ b, (f b).refs S = true) : ObjIn S (.map (me K f m)) := by
  intro p hp
  rw [me, List.mem_map] at hp
  obtain ⟨q, _, rfl⟩ := hp
  exact h q.2
theorem q_makeMap (id : Nat) (K : MKey κ) (f : β → AV) {t : TypeId} (ho : o.op = .makeMap t none := by exact rfl) (hid : s.h id = none := by exact rfl)
    (hdd : o.dst = d := by conv => lhs; whnf) (hd : d.all (Nat.blt · n) = true := by exact rfl) : OpOk Try.prog n o s ((s.seth id (some (.map (me K f [])))).put d (.mp id 0)) :=
  .chg hdd hd fun Λ w φ a hs => by
    have hc := Chg.alloc hs.hs hid (.map #[] 0) 0 0
    refine ⟨_, _, _, ?_, hc, ?_, .map (some w.heap.size), .inl rfl, .mp (upd_same _ _ _) rfl rfl⟩
    · simp [execOp, ho, Instr.makeMap]
    · exact ⟨w.heap.size, #[], 0, rfl, rfl, (MapKept.heap_alloc w _).1, rfl, fun j p hp => by simp [me] at hp⟩
theorem run_lookup {P : Program} {w : World} {φ : PMap} {Λ : Lent} {K : MKey κ} {f : β → AV} {m : List (κ × β)} {ents : Array MapEntry} {b clock : Nat} {t kt et : TypeId} {z : Value} {k : κ} {ok : Bool} (hu : P.underlying t = some (.map kt et)) (hd : P.underlying kt = some K.d)
    (hz : (zeroValue et).run P w = .ok z w) (hb : w.heap[b]? = some (.map ents clock)) (hm : MEnts w φ Λ K f m ents) {za : AV} (hza : Rep w φ Λ za z) :
    ∃ v, Rep w φ Λ (mres f za (mget m k)) v ∧ (Instr.lookup t (.map (some b)) (K.kv k) ok).run P w = .ok (if ok then .tuple #[v, .bool (mget m k).isSome] else v) w := by
  have hck := MapKept.run_checkKey (w := w) hd (K.isKey k) ents.isEmpty 9999
  rcases mfind m k with ⟨h1, h2, _, _⟩ | ⟨j, p, h1, h2, h3, h4, _, _⟩
  · have hf := MapKept.run_findKey (w := w) hd (hm.none h2)
    refine ⟨z, by rw [h1]; exact hza, ?_⟩
    rw [h1]
    simp [Instr.lookup, run_underlying hu, MapKept.run_getObj_map hb, hck, hf, hz, Result.andThen]
  · obtain ⟨e, e1, e2, e3, e4⟩ := hm.some h1 h2 h3
    have hf := MapKept.run_findKey (w := w) hd e4
    refine ⟨e.val, by rw [h4]; exact e3, ?_⟩
    rw [h4]
    simp [Instr.lookup, run_underlying hu, MapKept.run_getObj_map hb, hck, hf, Result.andThen]
theorem q_lookup {t kt et : TypeId} {x y : Operand} {id : Nat} (K : MKey κ) {f : β → AV} {m : List (κ × β)} {k : κ} {ti tj : TI} {r : AV} (ho : o.op = .lookup t x y false := by exact rfl) (hx : s.ev x = .mp id 0 := by exact rfl) (hy : s.ev y = .v (K.kv k) := by exact rfl)
    (hob : s.h id = some (.map (me K f m)) := by exact rfl) (ht : te.get t = some ti := by exact rfl) (hk : ti.k = .map kt et := by exact rfl) (hkd : Try.prog.underlying kt = some K.d := by exact rfl) (he : te.get et = some tj := by exact rfl) (ha : tj.k.agg = false := by exact rfl)
    (hr : mres f (.v ((tj.zero.map ZC.val).headD undef)) (mget m k) = r := by first | exact mres_tf _ | exact mres_int _ | exact rfl)
    (hdd : o.dst = d := by conv => lhs; whnf) (hd : d.all (Nat.blt · n) = true := by exact rfl) : OpOk Try.prog n o s (s.put d r) :=
  .val hdd hd fun Λ w φ a hs => by
    obtain ⟨l, b, ents, clock, h1, h2, h3, h4, h5⟩ := map_at hs.hs hob
    have hxv := hs.ev x
    rw [hx] at hxv
    have e1 := rep_mp hxv h1 h3 h2
    have e2 := ev_v hs hy
    obtain ⟨z, z1, z2, z3⟩ := (te_ok.tells he).run_zero w
    rw [ha] at z3
    obtain ⟨v, v1, v2⟩ := run_lookup (P := Try.prog) (k := k) (ok := false) ((te_ok.tells ht).map hk) hkd z1 h4 h5 (za := .v ((tj.zero.map ZC.val).headD undef)) (by rw [z3]; exact .v)
    exact ⟨v, by simp [execOp, ho, e1, e2, v2], hr ▸ v1⟩
theorem q_lookupo {t kt et : TypeId} {x y : Operand} {id : Nat} (K : MKey κ) {f : β → AV} {m : List (κ × β)} {k : κ} {ti tj : TI} {r : AV} (ho : o.op = .lookup t x y true := by exact rfl) (hx : s.ev x = .mp id 0 := by exact rfl) (hy : s.ev y = .v (K.kv k) := by exact rfl)
    (hob : s.h id = some (.map (me K f m)) := by exact rfl) (ht : te.get t = some ti := by exact rfl) (hk : ti.k = .map kt et := by exact rfl) (hkd : Try.prog.underlying kt = some K.d := by exact rfl) (he : te.get et = some tj := by exact rfl) (ha : tj.k.agg = false := by exact rfl)
    (hr : mres f (.v ((tj.zero.map ZC.val).headD undef)) (mget m k) = r := by first | exact mres_tf _ | exact mres_int _ | exact rfl)
    (hdd : o.dst = d := by conv => lhs; whnf) (hd : d.all (Nat.blt · n) = true := by exact rfl) : OpOk Try.prog n o s (s.put d (.tup [r, tf (mget m k).isSome])) :=
  .val hdd hd fun Λ w φ a hs => by
    obtain ⟨l, b, ents, clock, h1, h2, h3, h4, h5⟩ := map_at hs.hs hob
    have hxv := hs.ev x
    rw [hx] at hxv
    have e1 := rep_mp hxv h1 h3 h2
    have e2 := ev_v hs hy
    obtain ⟨z, z1, z2, z3⟩ := (te_ok.tells he).run_zero w
    rw [ha] at z3
    obtain ⟨v, v1, v2⟩ := run_lookup (P := Try.prog) (k := k) (ok := true) ((te_ok.tells ht).map hk) hkd z1 h4 h5 (za := .v ((tj.zero.map ZC.val).headD undef)) (by rw [z3]; exact .v)
    refine ⟨_, by simp [execOp, ho, e1, e2, v2]; rfl, .tup (fun j => if j = 0 then v else .bool (mget m k).isSome) rfl (fun j hj => ?_) (fun j c hj => ?_)⟩
    · match j, hj with
      | 0, _ => rfl
      | 1, _ => rfl
    · match j, hj with
      | 0, hj => cases hj; exact hr ▸ v1
      | 1, hj => cases hj; exact .v
theorem Chg.map {w : World} {φ : PMap} {Λ : Lent} {h : Heap} (hs : HSim w φ Λ h) {id b : Nat} {l : Loc} {ents : Array MapEntry} {clock : Nat} (hl : φ id = some l) (hbo : l.bo = some (b, 0)) (hb : w.heap[b]? = some (.map ents clock)) (ob : Obj) :
    Chg w φ Λ h id l { w with heap := w.heap.setIfInBounds b ob } where
  hs := hs
  size := by simp
  os := rfl
  tape := rfl
  output := rfl
  other k hk hne := (MapKept.heap_set hb).2 k (hne l b 0 hl hbo)
  loc b' o' h' := by
    rw [hbo] at h'; cases h'
    exact ⟨by have := (Array.getElem?_eq_some_iff.1 hb).1; simpa using this, .inr ⟨l, 0, hl, hbo⟩⟩
  ver l0 h0 := by rw [hl] at h0; cases h0; exact .inl rfl
  sizes l0 h0 _ b0 o0 arr T mm hb0 hh := by
    rw [hl] at h0; cases h0
    rw [hbo] at hb0; cases hb0
    rw [hb] at hh; cases hh
theorem q_mapUpdate {t kt et : TypeId} {x y z : Operand} {id : Nat} (K : MKey κ) {f : β → AV} {m : List (κ × β)} {k : κ} (v : β) {ti : TI} (ho : o.op = .mapUpdate t x y z := by exact rfl) (hx : s.ev x = .mp id 0 := by exact rfl) (hy : s.ev y = .v (K.kv k) := by exact rfl)
    (hob : s.h id = some (.map (me K f m)) := by exact rfl) (hz : s.ev z = f v := by exact rfl) (ht : te.get t = some ti := by exact rfl) (hk : ti.k = .map kt et := by exact rfl) (hkd : Try.prog.underlying kt = some K.d := by exact rfl)
    (hdd : o.dst = d := by conv => lhs; whnf) (hd : d.all (Nat.blt · n) = true := by exact rfl) : OpOk Try.prog n o s ((s.seth id (some (.map (me K f (mput m k v))))).put d (.v undef)) :=
  .chg hdd hd fun Λ w φ a hs => by
    obtain ⟨l, b, ents, clock, h1, h2, h3, h4, h5⟩ := map_at hs.hs hob
    have hxv := hs.ev x
    rw [hx] at hxv
    have e1 := rep_mp hxv h1 h3 h2
    have e2 := ev_v hs hy
    have e3 := hs.ev z
    rw [hz] at e3
    have hu := (te_ok.tells ht).map hk
    have hck := MapKept.run_checkKey (w := w) hkd (K.isKey k) false 9999
    rcases mfind m k with ⟨g1, g2, g3, _⟩ | ⟨j, p, g1, g2, g3, g4, g5, _⟩
    · have hf := MapKept.run_findKey (w := w) hkd (h5.none g2)
      have hc := Chg.map hs.hs h1 h2 h4 (.map (ents.push { key := K.kv k, val := a.eval z, born := clock }) (clock + 1))
      refine ⟨.skip, _, l, ?_, hc, ⟨b, _, _, h2, h3, (MapKept.heap_set h4).1, ?_, fun q r hq => ?_⟩, undef, .inr ⟨rfl, rfl⟩, .v⟩
      · simp [execOp, ho, e1, e2, Instr.mapUpdate, run_underlying hu, MapKept.run_getObj_map h4, hck, hf, Result.andThen, MapKept.run_setObj_map _ h4]
      · rw [g3]; simp [me, h5.size]
      · rw [g3, me, List.getElem?_map, Option.map_eq_some_iff] at hq
        obtain ⟨p, hp, rfl⟩ := hq
        by_cases hlt : q < m.length
        · rw [List.getElem?_append_left hlt] at hp
          obtain ⟨e, q1, q2, q3⟩ := h5.at' q p hp
          exact ⟨e, by rw [Array.getElem?_push, if_neg (by rw [h5.size]; omega)]; exact q1, q2, hc.rep q3⟩
        · rw [List.getElem?_append_right (by omega)] at hp
          have hq0 : q - m.length = 0 := by
            have := (List.getElem?_eq_some_iff.1 hp).1
            simp at this; omega
          rw [hq0] at hp
          simp at hp; subst hp
          exact ⟨{ key := K.kv k, val := a.eval z, born := clock }, by rw [Array.getElem?_push, if_pos (by rw [h5.size]; omega)], rfl, hc.rep e3⟩
    · obtain ⟨e, q1, q2, q3, q4⟩ := h5.some g1 g2 g3
      have hf := MapKept.run_findKey (w := w) hkd q4
      have hc := Chg.map hs.hs h1 h2 h4 (.map (ents.modify j fun e => { e with key := K.kv k, val := a.eval z }) clock)
      refine ⟨.skip, _, l, ?_, hc, ⟨b, _, _, h2, h3, (MapKept.heap_set h4).1, ?_, fun q r hq => ?_⟩, undef, .inr ⟨rfl, rfl⟩, .v⟩
      · simp [execOp, ho, e1, e2, Instr.mapUpdate, run_underlying hu, MapKept.run_getObj_map h4, hck, hf, Result.andThen, MapKept.run_setObj_map _ h4, q1, q2, Instr.keyThatStays, K.same]
      · rw [g5]; simp [me, h5.size]
      · rw [g5, me, List.getElem?_map, Option.map_eq_some_iff] at hq
        obtain ⟨p', hp, rfl⟩ := hq
        rw [List.getElem?_set] at hp
        by_cases hjq : j = q
        · subst hjq
          have hlt := (List.getElem?_eq_some_iff.1 g1).1
          simp [hlt] at hp; subst hp
          exact ⟨{ e with key := K.kv k, val := a.eval z }, by rw [Array.getElem?_modify, if_pos rfl, q1]; rfl, rfl, hc.rep e3⟩
        · rw [if_neg hjq] at hp
          obtain ⟨e', r1, r2, r3⟩ := h5.at' q p' hp
          exact ⟨e', by rw [Array.getElem?_modify, if_neg hjq]; exact r1, r2, hc.rep r3⟩
theorem q_delete {t t2 kt et : TypeId} {x y : Operand} {id : Nat} (K : MKey κ) {f : β → AV} {m : List (κ × β)} {k : κ} {ti : TI} (ho : o.op = .call { callee := .builtin .delete, args := #[x, y], argTypes := #[t, t2] } := by exact rfl) (hx : s.ev x = .mp id 0 := by exact rfl) (hy : s.ev y = .v (K.kv k) := by exact rfl)
    (hob : s.h id = some (.map (me K f m)) := by exact rfl) (ht : te.get t = some ti := by exact rfl) (hk : ti.k = .map kt et := by exact rfl) (hkd : Try.prog.underlying kt = some K.d := by exact rfl)
    (hdd : o.dst = d := by conv => lhs; whnf) (hd : d.all (Nat.blt · n) = true := by exact rfl) : OpOk Try.prog n o s ((s.seth id (some (.map (me K f (mdel m k))))).put d (.tup [])) :=
  .chg hdd hd fun Λ w φ a hs => by
    obtain ⟨l, b, ents, clock, h1, h2, h3, h4, h5⟩ := map_at hs.hs hob
    have hxv := hs.ev x
    rw [hx] at hxv
    have e1 := rep_mp hxv h1 h3 h2
    have e2 := ev_v hs hy
    have hu := (te_ok.tells ht).map hk
    have hck := MapKept.run_checkKey (w := w) hkd (K.isKey k) ents.isEmpty 9999
    have ht0 : ∀ (w' : World) φ', Rep w' φ' Λ (.tup []) (.tuple #[]) := fun w' φ' => .tup (fun _ => undef) rfl (fun j hj => by simp at hj) (fun j c hj => by simp at hj)
    rcases mfind m k with ⟨g1, g2, _, g3⟩ | ⟨j, p, g1, g2, g3, g4, _, g5⟩
    · have hf := MapKept.run_findKey (w := w) hkd (h5.none g2)
      have hc := Chg.map hs.hs h1 h2 h4 (.map ents clock)
      refine ⟨.value (.tuple #[]), _, l, ?_, hc, ⟨b, _, _, h2, h3, (MapKept.heap_set h4).1, ?_, fun q r hq => ?_⟩, .tuple #[], .inl rfl, ht0 _ _⟩
      · simp [execOp, ho, resolve, invoke, builtin, e1, e2, Builtin.delete_, run_underlying hu, MapKept.run_getObj_map h4, hck, hf, Result.andThen, MapKept.run_setObj_map _ h4]
      · rw [g3]; simp [me, h5.size]
      · rw [g3, me, List.getElem?_map, Option.map_eq_some_iff] at hq
        obtain ⟨p, hp, rfl⟩ := hq
        obtain ⟨e, q1, q2, q3⟩ := h5.at' q p hp
        exact ⟨e, q1, q2, hc.rep q3⟩
    · obtain ⟨e, q1, q2, q3, q4⟩ := h5.some g1 g2 g3
      have hf := MapKept.run_findKey (w := w) hkd q4
      have hc := Chg.map hs.hs h1 h2 h4 (.map (ents.eraseIdxIfInBounds j) clock)
      have hjl : j < ents.size := (Array.getElem?_eq_some_iff.1 q1).1
      have hl : (ents.eraseIdxIfInBounds j).toList = ents.toList.eraseIdx j := by
        simp [Array.eraseIdxIfInBounds, hjl]
      refine ⟨.value (.tuple #[]), _, l, ?_, hc, ⟨b, _, _, h2, h3, (MapKept.heap_set h4).1, ?_, fun q r hq => ?_⟩, .tuple #[], .inl rfl, ht0 _ _⟩
      · simp [execOp, ho, resolve, invoke, builtin, e1, e2, Builtin.delete_, run_underlying hu, MapKept.run_getObj_map h4, hck, hf, Result.andThen, MapKept.run_setObj_map _ h4]
      · rw [g5, ← Array.length_toList, hl]; simp [me, List.length_eraseIdx, h5.size]
      · rw [g5, me, List.getElem?_map, Option.map_eq_some_iff] at hq
        obtain ⟨p', hp, rfl⟩ := hq
        rw [List.getElem?_eraseIdx] at hp
        rw [← Array.getElem?_toList, hl, List.getElem?_eraseIdx]
        split at hp
        · rename_i hlt
          rw [if_pos hlt, Array.getElem?_toList]
          obtain ⟨e', r1, r2, r3⟩ := h5.at' q p' hp
          exact ⟨e', r1, r2, hc.rep r3⟩
        · rename_i hlt
          rw [if_neg hlt, Array.getElem?_toList]
          obtain ⟨e', r1, r2, r3⟩ := h5.at' (q + 1) p' hp
          exact ⟨e', r1, r2, hc.rep r3⟩
end rules
end Go.Proofs.Ytolaeondhhnfoaa.Fw

/- Walks of layer 24: pairs. -/
set_option linter.unusedVariables false
set_option linter.unusedSimpArgs false
namespace Go.Proofs.Ytolaeondhhnfoaa.Fw
open Go.RowKit


structure Ev where
  rp : Bool
  st : Int
  tm : Int
  m : Msg
  deriving Inhabited, DecidableEq
def evC (x : Ev) : List AV := [tf x.rp, i64 x.st, i64 x.tm, i64 x.m.h.id, tf x.m.h.resp, i64 x.m.h.op, tf x.m.h.aa, tf x.m.h.tc, tf x.m.h.rd, tf x.m.h.ra, i64 x.m.h.code, .fz 0 x.m.qs.length (cl quc x.m.qs), .fz 0 x.m.an.length (cl rrc x.m.an), .fz 0 x.m.au.length (cl rrc x.m.au), .fz 0 x.m.ad.length (cl rrc x.m.ad)]
def EvsOk (l : List Ev) : Prop := l.length * 160 ≤ 140737488351232 ∧ ∀ x ∈ l, MsgOk x.m
/-- A reply is one of a query. -/
def ansB (q r : Ev) : Bool := !q.rp && decide (q.st = r.st) && decide (q.m.h.id = r.m.h.id) && decide (q.m.h.op = r.m.h.op) && (q.m.h.rd == r.m.h.rd) && decide ((q.m.qs.length : Int) = 1) && decide (q.m.qs = r.m.qs)
def okB (r : Ev) : Bool := r.m.h.resp && r.m.h.ra
def fitB (l : List Ev) (done : List Bool) (r : Ev) (j : Nat) : Bool := !done.getD j false && ansB (l.getD j default) r
/-- Each reply answers the first query that waits. -/
def prdF (l : List Ev) : Nat → Nat → List Bool → Bool
  | 0, _, _ => true
  | n + 1, i, done => if (l.getD i default).rp then
      match (List.range i).find? (fitB l done (l.getD i default)) with
      | none => false
      | some j => if okB (l.getD i default) then prdF l n (i + 1) (done.set j true) else false
    else prdF l n (i + 1) done
def prd (l : List Ev) : Bool := prdF l l.length 0 (List.replicate l.length false)
theorem prdF_q {l : List Ev} {n i : Nat} {done : List Bool} (h : (l.getD i default).rp = false) : prdF l (n + 1) i done = prdF l n (i + 1) done := by rw [prdF, h]; rfl
theorem prdF_no {l : List Ev} {n i : Nat} {done : List Bool} (h : (l.getD i default).rp = true) (hf : ∀ j, j < i → fitB l done (l.getD i default) j = false) : prdF l (n + 1) i done = false := by
  rw [prdF, if_pos h]
  have : (List.range i).find? (fitB l done (l.getD i default)) = none := by
    rw [List.find?_eq_none]; intro j hj; rw [List.mem_range] at hj; rw [hf j hj]; exact Bool.false_ne_true
  rw [this]
theorem find_first {p : Nat → Bool} {i j : Nat} (hj : j < i) (h : p j = true) (hf : ∀ k, k < j → p k = false) : (List.range i).find? p = some j := by
  rw [List.find?_range_eq_some]
  exact ⟨h, by simpa using hj, fun k hk => by simp [hf k hk]⟩
theorem prdF_yes {l : List Ev} {n i j : Nat} {done : List Bool} (h : (l.getD i default).rp = true) (hj : j < i) (hfj : fitB l done (l.getD i default) j = true) (hf : ∀ k, k < j → fitB l done (l.getD i default) k = false) :
    prdF l (n + 1) i done = if okB (l.getD i default) then prdF l n (i + 1) (done.set j true) else false := by
  rw [prdF, if_pos h, find_first hj hfj hf]
/-- The program's map and the reference's list. -/
structure Open (l : List Ev) (i : Nat) (m : List (Int × Bool)) (done : List Bool) : Prop where
  nd : MNd m
  len : done.length = l.length
  fresh : ∀ j : Nat, i ≤ j → done.getD j false = false
  dom : ∀ j : Nat, (mget m (j : Int)).getD false = true → j < i
  get : ∀ j : Nat, j < i → (mget m (j : Int)).getD false = (!(l.getD j default).rp && !done.getD j false)
theorem Open.start (l : List Ev) : Open l 0 [] (List.replicate l.length false) := ⟨MNd.nil, by simp, fun j _ => by
  rw [List.getD_eq_getElem?_getD, List.getElem?_replicate]; split <;> rfl, fun j h => by simp [mget] at h, fun j h => absurd h (by omega)⟩
theorem Open.query {l : List Ev} {i : Nat} {m : List (Int × Bool)} {done : List Bool} (h : Open l i m done) (hq : (l.getD i default).rp = false) : Open l (i + 1) (mput m (i : Int) true) done := by
  refine ⟨h.nd.put _ _, h.len, fun j hj => h.fresh j (by omega), fun j hj => ?_, fun j hj => ?_⟩
  · rw [mget_put] at hj
    by_cases e : (i : Int) = j
    · omega
    · rw [if_neg e] at hj; have := h.dom j hj; omega
  · rw [mget_put]
    by_cases e : (i : Int) = j
    · obtain rfl : i = j := by omega
      rw [if_pos rfl, hq, h.fresh i (Nat.le_refl _)]; rfl
    · rw [if_neg e]; exact h.get j (by omega)
theorem Open.reply {l : List Ev} {i k : Nat} {m : List (Int × Bool)} {done : List Bool} (h : Open l i m done) (hk : k < i) (hi : i < l.length) (hr : (l.getD i default).rp = true) : Open l (i + 1) (mdel m (k : Int)) (done.set k true) := by
  have hset : ∀ j, k ≠ j → (done.set k true).getD j false = done.getD j false := fun j e => by
    rw [List.getD_eq_getElem?_getD, List.getD_eq_getElem?_getD, List.getElem?_set_ne e]
  refine ⟨h.nd.del _, by simp [h.len], fun j hj => by rw [hset j (by omega)]; exact h.fresh j (by omega), fun j hj => ?_, fun j hj => ?_⟩
  · rw [mget_del h.nd] at hj
    by_cases e : (k : Int) = j
    · rw [if_pos e] at hj; cases hj
    · rw [if_neg e] at hj; have := h.dom j hj; omega
  · rw [mget_del h.nd]
    by_cases e : (k : Int) = j
    · obtain rfl : k = j := by omega
      have : (done.set k true).getD k false = true := by
        rw [List.getD_eq_getElem?_getD, List.getElem?_set_self (by rw [h.len]; omega)]; rfl
      rw [if_pos rfl, this]; simp
    · rw [if_neg e, hset j (by omega)]
      by_cases e2 : j = i
      · subst e2
        rw [hr, Bool.not_true, Bool.false_and]
        cases hx : (mget m (j : Int)).getD false with
        | false => rfl
        | true => exact absurd (h.dom j hx) (by omega)
      · exact h.get j (by omega)
theorem Open.fit {l : List Ev} {i j : Nat} {m : List (Int × Bool)} {done : List Bool} (h : Open l i m done) (hj : j < i) (r : Ev) : fitB l done r j = ((mget m (j : Int)).getD false && ansB (l.getD j default) r) := by
  rw [h.get j hj, fitB, ansB]
  cases (l.getD j default).rp <;> cases done.getD j false <;> simp
def prB (q r : Ev) : Bool := ansB q r && okB r

set_option maxRecDepth 20000 in
set_option maxHeartbeats 2000000 in
theorem c_audit_answers (q r : Ev) (hq : MsgOk q.m) : AC Try.prog 30 [.agg (evC q), .agg (evC r)] emp (Ret (tf (ansB q r))) := by
  refine AC.intro te_ok (fn := Try.f30) ⟨Try.func30, rfl, rfl⟩ (Nat.le_of_ble_eq_true rfl) ?_
  refine AWp.seq ?_
  refine AWp.region ?_
  refine AOps.cons rfl rfl (q_box 100) ?_
  refine AOps.cons rfl rfl (q_box 101) ?_
  refine AOps.cons rfl rfl (q_assign) ?_
  refine AOps.nil ?_
  refine AWp.seq ?_
  refine AWp.draws [⟨0, [2], [100], some 7, _, none⟩,
      ⟨1, [7], [100], some 8, _, none⟩,
      ⟨2, [3], [101], some 9, _, none⟩,
      ⟨3, [9], [101], some 10, _, none⟩,
      ⟨4, [], [204], some 5, _, some (204, _)⟩,
      ⟨5, [], [205], some 6, _, some (205, _)⟩,
      ⟨6, [5, 8], [204], none, _, some (204, _)⟩,
      ⟨7, [6, 10], [205], none, _, some (205, _)⟩]
    [⟨0, [2], [100], some 7, .any, none⟩,
        ⟨1, [7], [100], some 8, .any, none⟩,
        ⟨2, [3], [101], some 9, .any, none⟩,
        ⟨3, [9], [101], some 10, .any, none⟩,
        ⟨4, [], [204], some 5, .any, some (204, .box [])⟩,
        ⟨5, [], [205], some 6, .any, some (205, .box [])⟩,
        ⟨6, [5, 8], [204], none, .any, some (204, .box [])⟩,
        ⟨7, [6, 10], [205], none, .any, some (205, .box [])⟩]
    mixed_ok rfl (by kernel_rfl) ⟨DS.ok_over fun s0 => OpAt.go rfl rfl (q_fa),
        DS.ok_over fun s0 => OpAt.go rfl rfl (q_load),
        DS.ok_over fun s0 => OpAt.go rfl rfl (q_fa),
        DS.ok_over fun s0 => OpAt.go rfl rfl (q_load),
        DS.ok_over fun s0 => OpAt.go rfl rfl (q_alloc 204),
        DS.ok_over fun s0 => OpAt.go rfl rfl (q_alloc 205),
        DS.ok_over fun s0 => OpAt.go rfl rfl (q_store),
        DS.ok_over fun s0 => OpAt.go rfl rfl (q_store), trivial⟩ ?_
  dsimp only [final, DS.upd, AS.seto]
  refine AWp.seq ?_
  refine AWp.region ?_
  refine AOps.cons rfl rfl (q_fa) ?_
  refine AOps.bool rfl rfl (q_load) (fun h2_1 => ?_) (fun h2_1 => ?_)
  · skip
    refine AOps.cons rfl rfl (q_not) ?_
    refine AOps.cons rfl rfl (q_move) ?_
    refine AOps.gskip rfl rfl rfl rfl rfl rfl rfl rfl ?_
    refine AOps.gskip rfl rfl rfl rfl rfl rfl rfl rfl ?_
    refine AOps.gskip rfl rfl rfl rfl rfl rfl rfl rfl ?_
    refine AOps.gskip rfl rfl rfl rfl rfl rfl rfl rfl ?_
    refine AOps.gskip rfl rfl rfl rfl rfl rfl rfl rfl ?_
    refine AOps.cons rfl rfl (q_pick) ?_
    refine AOps.cons rfl rfl (q_move) ?_
    refine AOps.gskip rfl rfl rfl rfl rfl rfl rfl rfl ?_
    refine AOps.gskip rfl rfl rfl rfl rfl rfl rfl rfl ?_
    refine AOps.gskip rfl rfl rfl rfl rfl rfl rfl rfl ?_
    refine AOps.gskip rfl rfl rfl rfl rfl rfl rfl rfl ?_
    refine AOps.gskip rfl rfl rfl rfl rfl rfl rfl rfl ?_
    refine AOps.gskip rfl rfl rfl rfl rfl rfl rfl rfl ?_
    refine AOps.gskip rfl rfl rfl rfl rfl rfl rfl rfl ?_
    refine AOps.cons rfl rfl (q_pick) ?_
    refine AOps.cons rfl rfl (q_move) ?_
    refine AOps.gskip rfl rfl rfl rfl rfl rfl rfl rfl ?_
    refine AOps.gskip rfl rfl rfl rfl rfl rfl rfl rfl ?_
    refine AOps.gskip rfl rfl rfl rfl rfl rfl rfl rfl ?_
    refine AOps.gskip rfl rfl rfl rfl rfl rfl rfl rfl ?_
    refine AOps.gskip rfl rfl rfl rfl rfl rfl rfl rfl ?_
    refine AOps.gskip rfl rfl rfl rfl rfl rfl rfl rfl ?_
    refine AOps.gskip rfl rfl rfl rfl rfl rfl rfl rfl ?_
    refine AOps.cons rfl rfl (q_pick) ?_
    refine AOps.cons rfl rfl (q_move) ?_
    refine AOps.gskip rfl rfl rfl rfl rfl rfl rfl rfl ?_
    refine AOps.gskip rfl rfl rfl rfl rfl rfl rfl rfl ?_
    refine AOps.gskip rfl rfl rfl rfl rfl rfl rfl rfl ?_
    refine AOps.gskip rfl rfl rfl rfl rfl rfl rfl rfl ?_
    refine AOps.gskip rfl rfl rfl rfl rfl rfl rfl rfl ?_
    refine AOps.gskip rfl rfl rfl rfl rfl rfl rfl rfl ?_
    refine AOps.gskip rfl rfl rfl rfl rfl rfl rfl rfl ?_
    refine AOps.cons rfl rfl (q_pick) ?_
    refine AOps.cons rfl rfl (q_move) ?_
    refine AOps.gskip rfl rfl rfl rfl rfl rfl rfl rfl ?_
    refine AOps.gskip rfl rfl rfl rfl rfl rfl rfl rfl ?_
    refine AOps.gskip rfl rfl rfl rfl rfl rfl rfl rfl ?_
    refine AOps.gskip rfl rfl rfl rfl rfl rfl rfl rfl ?_
    refine AOps.cons rfl rfl (q_pick) ?_
    refine AOps.cons rfl rfl (q_move) ?_
    refine AOps.gskip rfl rfl rfl rfl rfl rfl rfl rfl ?_
    refine AOps.gskip rfl rfl rfl rfl rfl rfl rfl rfl ?_
    refine AOps.gskip rfl rfl rfl rfl rfl rfl rfl rfl ?_
    refine AOps.gskip rfl rfl rfl rfl rfl rfl rfl rfl ?_
    refine AOps.gskip rfl rfl rfl rfl rfl rfl rfl rfl ?_
    refine AOps.cons rfl rfl (q_pick) ?_
    refine AOps.cons rfl rfl (q_assign) ?_
    refine AOps.nil ?_
    refine AWp.ret ?_
    show Fin te Try.f30 _ _
    refine q_ret (0) [_] [_] ?_
    exact congrArg tf (by simp [ansB, *])
  · skip
    refine AOps.cons rfl rfl (q_not) ?_
    refine AOps.cons rfl rfl (q_move) ?_
    refine AOps.gcons rfl rfl rfl rfl rfl (q_fa) ?_
    refine AOps.gcons rfl rfl rfl rfl rfl (q_load) ?_
    refine AOps.gcons rfl rfl rfl rfl rfl (q_fa) ?_
    refine AOps.gcons rfl rfl rfl rfl rfl (q_load) ?_
    refine AOps.gdec rfl rfl rfl rfl rfl (q_eql) (fun h2_8 => ?_) (fun h2_8 => ?_)
    · skip
      refine AOps.cons rfl rfl (q_pick) ?_
      refine AOps.cons rfl rfl (q_move) ?_
      refine AOps.gcons rfl rfl rfl rfl rfl (q_fa) ?_
      refine AOps.gcons rfl rfl rfl rfl rfl (q_fa) ?_
      refine AOps.gcons rfl rfl rfl rfl rfl (q_load) ?_
      refine AOps.gcons rfl rfl rfl rfl rfl (q_fa) ?_
      refine AOps.gcons rfl rfl rfl rfl rfl (q_fa) ?_
      refine AOps.gcons rfl rfl rfl rfl rfl (q_load) ?_
      refine AOps.gdec rfl rfl rfl rfl rfl (q_eql) (fun h2_17 => ?_) (fun h2_17 => ?_)
      · skip
        refine AOps.cons rfl rfl (q_pick) ?_
        refine AOps.cons rfl rfl (q_move) ?_
        refine AOps.gcons rfl rfl rfl rfl rfl (q_fa) ?_
        refine AOps.gcons rfl rfl rfl rfl rfl (q_fa) ?_
        refine AOps.gcons rfl rfl rfl rfl rfl (q_load) ?_
        refine AOps.gcons rfl rfl rfl rfl rfl (q_fa) ?_
        refine AOps.gcons rfl rfl rfl rfl rfl (q_fa) ?_
        refine AOps.gcons rfl rfl rfl rfl rfl (q_load) ?_
        refine AOps.gdec rfl rfl rfl rfl rfl (q_eql) (fun h2_26 => ?_) (fun h2_26 => ?_)
        · skip
          refine AOps.cons rfl rfl (q_pick) ?_
          refine AOps.cons rfl rfl (q_move) ?_
          refine AOps.gcons rfl rfl rfl rfl rfl (q_fa) ?_
          refine AOps.gcons rfl rfl rfl rfl rfl (q_fa) ?_
          refine AOps.gcons rfl rfl rfl rfl rfl (q_load) ?_
          refine AOps.gcons rfl rfl rfl rfl rfl (q_fa) ?_
          refine AOps.gcons rfl rfl rfl rfl rfl (q_fa) ?_
          refine AOps.gcons rfl rfl rfl rfl rfl (q_load) ?_
          refine AOps.gbool rfl rfl rfl rfl rfl (q_beql) (fun h2_35 => ?_) (fun h2_35 => ?_)
          · skip
            refine AOps.cons rfl rfl (q_pick) ?_
            refine AOps.cons rfl rfl (q_move) ?_
            refine AOps.gcons rfl rfl rfl rfl rfl (q_fa) ?_
            refine AOps.gcons rfl rfl rfl rfl rfl (q_load) ?_
            refine AOps.gcons rfl rfl rfl rfl rfl (q_len) ?_
            refine AOps.gdec rfl rfl rfl rfl rfl (q_eql) (fun h2_41 => ?_) (fun h2_41 => ?_)
            · skip
              refine AOps.cons rfl rfl (q_pick) ?_
              refine AOps.cons rfl rfl (q_move) ?_
              refine AOps.gcons rfl rfl rfl rfl rfl (q_fa) ?_
              refine AOps.gcons rfl rfl rfl rfl rfl (q_load) ?_
              refine AOps.gcons rfl rfl rfl rfl rfl (q_fa) ?_
              refine AOps.gcons rfl rfl rfl rfl rfl (q_load) ?_
              refine AOps.gcons rfl rfl rfl rfl rfl (q_call (0) (hc := (c_Equal_qu q.m.qs r.m.qs 0 0 (by have := hq.1; omega)))) ?_
              refine AOps.cons rfl rfl (q_pick) ?_
              refine AOps.cons rfl rfl (q_assign) ?_
              refine AOps.nil ?_
              refine AWp.ret ?_
              show Fin te Try.f30 _ _
              refine q_ret (0) [_] [_] ?_
              exact congrArg tf (by simp [ansB, *])
            · skip
              refine AOps.cons rfl rfl (q_pick) ?_
              refine AOps.cons rfl rfl (q_move) ?_
              refine AOps.gskip rfl rfl rfl rfl rfl rfl rfl rfl ?_
              refine AOps.gskip rfl rfl rfl rfl rfl rfl rfl rfl ?_
              refine AOps.gskip rfl rfl rfl rfl rfl rfl rfl rfl ?_
              refine AOps.gskip rfl rfl rfl rfl rfl rfl rfl rfl ?_
              refine AOps.gskip rfl rfl rfl rfl rfl rfl rfl rfl ?_
              refine AOps.cons rfl rfl (q_pick) ?_
              refine AOps.cons rfl rfl (q_assign) ?_
              refine AOps.nil ?_
              refine AWp.ret ?_
              show Fin te Try.f30 _ _
              refine q_ret (0) [_] [_] ?_
              exact congrArg tf (by simp [ansB, *])
          · skip
            refine AOps.cons rfl rfl (q_pick) ?_
            refine AOps.cons rfl rfl (q_move) ?_
            refine AOps.gskip rfl rfl rfl rfl rfl rfl rfl rfl ?_
            refine AOps.gskip rfl rfl rfl rfl rfl rfl rfl rfl ?_
            refine AOps.gskip rfl rfl rfl rfl rfl rfl rfl rfl ?_
            refine AOps.gskip rfl rfl rfl rfl rfl rfl rfl rfl ?_
            refine AOps.cons rfl rfl (q_pick) ?_
            refine AOps.cons rfl rfl (q_move) ?_
            refine AOps.gskip rfl rfl rfl rfl rfl rfl rfl rfl ?_
            refine AOps.gskip rfl rfl rfl rfl rfl rfl rfl rfl ?_
            refine AOps.gskip rfl rfl rfl rfl rfl rfl rfl rfl ?_
            refine AOps.gskip rfl rfl rfl rfl rfl rfl rfl rfl ?_
            refine AOps.gskip rfl rfl rfl rfl rfl rfl rfl rfl ?_
            refine AOps.cons rfl rfl (q_pick) ?_
            refine AOps.cons rfl rfl (q_assign) ?_
            refine AOps.nil ?_
            refine AWp.ret ?_
            show Fin te Try.f30 _ _
            refine q_ret (0) [_] [_] ?_
            exact congrArg tf (by simp [ansB, *])
        · skip
          refine AOps.cons rfl rfl (q_pick) ?_
          refine AOps.cons rfl rfl (q_move) ?_
          refine AOps.gskip rfl rfl rfl rfl rfl rfl rfl rfl ?_
          refine AOps.gskip rfl rfl rfl rfl rfl rfl rfl rfl ?_
          refine AOps.gskip rfl rfl rfl rfl rfl rfl rfl rfl ?_
          refine AOps.gskip rfl rfl rfl rfl rfl rfl rfl rfl ?_
          refine AOps.gskip rfl rfl rfl rfl rfl rfl rfl rfl ?_
          refine AOps.gskip rfl rfl rfl rfl rfl rfl rfl rfl ?_
          refine AOps.gskip rfl rfl rfl rfl rfl rfl rfl rfl ?_
          refine AOps.cons rfl rfl (q_pick) ?_
          refine AOps.cons rfl rfl (q_move) ?_
          refine AOps.gskip rfl rfl rfl rfl rfl rfl rfl rfl ?_
          refine AOps.gskip rfl rfl rfl rfl rfl rfl rfl rfl ?_
          refine AOps.gskip rfl rfl rfl rfl rfl rfl rfl rfl ?_
          refine AOps.gskip rfl rfl rfl rfl rfl rfl rfl rfl ?_
          refine AOps.cons rfl rfl (q_pick) ?_
          refine AOps.cons rfl rfl (q_move) ?_
          refine AOps.gskip rfl rfl rfl rfl rfl rfl rfl rfl ?_
          refine AOps.gskip rfl rfl rfl rfl rfl rfl rfl rfl ?_
          refine AOps.gskip rfl rfl rfl rfl rfl rfl rfl rfl ?_
          refine AOps.gskip rfl rfl rfl rfl rfl rfl rfl rfl ?_
          refine AOps.gskip rfl rfl rfl rfl rfl rfl rfl rfl ?_
          refine AOps.cons rfl rfl (q_pick) ?_
          refine AOps.cons rfl rfl (q_assign) ?_
          refine AOps.nil ?_
          refine AWp.ret ?_
          show Fin te Try.f30 _ _
          refine q_ret (0) [_] [_] ?_
          exact congrArg tf (by simp [ansB, *])
      · skip
        refine AOps.cons rfl rfl (q_pick) ?_
        refine AOps.cons rfl rfl (q_move) ?_
        refine AOps.gskip rfl rfl rfl rfl rfl rfl rfl rfl ?_
        refine AOps.gskip rfl rfl rfl rfl rfl rfl rfl rfl ?_
        refine AOps.gskip rfl rfl rfl rfl rfl rfl rfl rfl ?_
        refine AOps.gskip rfl rfl rfl rfl rfl rfl rfl rfl ?_
        refine AOps.gskip rfl rfl rfl rfl rfl rfl rfl rfl ?_
        refine AOps.gskip rfl rfl rfl rfl rfl rfl rfl rfl ?_
        refine AOps.gskip rfl rfl rfl rfl rfl rfl rfl rfl ?_
        refine AOps.cons rfl rfl (q_pick) ?_
        refine AOps.cons rfl rfl (q_move) ?_
        refine AOps.gskip rfl rfl rfl rfl rfl rfl rfl rfl ?_
        refine AOps.gskip rfl rfl rfl rfl rfl rfl rfl rfl ?_
        refine AOps.gskip rfl rfl rfl rfl rfl rfl rfl rfl ?_
        refine AOps.gskip rfl rfl rfl rfl rfl rfl rfl rfl ?_
        refine AOps.gskip rfl rfl rfl rfl rfl rfl rfl rfl ?_
        refine AOps.gskip rfl rfl rfl rfl rfl rfl rfl rfl ?_
        refine AOps.gskip rfl rfl rfl rfl rfl rfl rfl rfl ?_
        refine AOps.cons rfl rfl (q_pick) ?_
        refine AOps.cons rfl rfl (q_move) ?_
        refine AOps.gskip rfl rfl rfl rfl rfl rfl rfl rfl ?_
        refine AOps.gskip rfl rfl rfl rfl rfl rfl rfl rfl ?_
        refine AOps.gskip rfl rfl rfl rfl rfl rfl rfl rfl ?_
        refine AOps.gskip rfl rfl rfl rfl rfl rfl rfl rfl ?_
        refine AOps.cons rfl rfl (q_pick) ?_
        refine AOps.cons rfl rfl (q_move) ?_
        refine AOps.gskip rfl rfl rfl rfl rfl rfl rfl rfl ?_
        refine AOps.gskip rfl rfl rfl rfl rfl rfl rfl rfl ?_
        refine AOps.gskip rfl rfl rfl rfl rfl rfl rfl rfl ?_
        refine AOps.gskip rfl rfl rfl rfl rfl rfl rfl rfl ?_
        refine AOps.gskip rfl rfl rfl rfl rfl rfl rfl rfl ?_
        refine AOps.cons rfl rfl (q_pick) ?_
        refine AOps.cons rfl rfl (q_assign) ?_
        refine AOps.nil ?_
        refine AWp.ret ?_
        show Fin te Try.f30 _ _
        refine q_ret (0) [_] [_] ?_
        exact congrArg tf (by simp [ansB, *])
    · skip
      refine AOps.cons rfl rfl (q_pick) ?_
      refine AOps.cons rfl rfl (q_move) ?_
      refine AOps.gskip rfl rfl rfl rfl rfl rfl rfl rfl ?_
      refine AOps.gskip rfl rfl rfl rfl rfl rfl rfl rfl ?_
      refine AOps.gskip rfl rfl rfl rfl rfl rfl rfl rfl ?_
      refine AOps.gskip rfl rfl rfl rfl rfl rfl rfl rfl ?_
      refine AOps.gskip rfl rfl rfl rfl rfl rfl rfl rfl ?_
      refine AOps.gskip rfl rfl rfl rfl rfl rfl rfl rfl ?_
      refine AOps.gskip rfl rfl rfl rfl rfl rfl rfl rfl ?_
      refine AOps.cons rfl rfl (q_pick) ?_
      refine AOps.cons rfl rfl (q_move) ?_
      refine AOps.gskip rfl rfl rfl rfl rfl rfl rfl rfl ?_
      refine AOps.gskip rfl rfl rfl rfl rfl rfl rfl rfl ?_
      refine AOps.gskip rfl rfl rfl rfl rfl rfl rfl rfl ?_
      refine AOps.gskip rfl rfl rfl rfl rfl rfl rfl rfl ?_
      refine AOps.gskip rfl rfl rfl rfl rfl rfl rfl rfl ?_
      refine AOps.gskip rfl rfl rfl rfl rfl rfl rfl rfl ?_
      refine AOps.gskip rfl rfl rfl rfl rfl rfl rfl rfl ?_
      refine AOps.cons rfl rfl (q_pick) ?_
      refine AOps.cons rfl rfl (q_move) ?_
      refine AOps.gskip rfl rfl rfl rfl rfl rfl rfl rfl ?_
      refine AOps.gskip rfl rfl rfl rfl rfl rfl rfl rfl ?_
      refine AOps.gskip rfl rfl rfl rfl rfl rfl rfl rfl ?_
      refine AOps.gskip rfl rfl rfl rfl rfl rfl rfl rfl ?_
      refine AOps.gskip rfl rfl rfl rfl rfl rfl rfl rfl ?_
      refine AOps.gskip rfl rfl rfl rfl rfl rfl rfl rfl ?_
      refine AOps.gskip rfl rfl rfl rfl rfl rfl rfl rfl ?_
      refine AOps.cons rfl rfl (q_pick) ?_
      refine AOps.cons rfl rfl (q_move) ?_
      refine AOps.gskip rfl rfl rfl rfl rfl rfl rfl rfl ?_
      refine AOps.gskip rfl rfl rfl rfl rfl rfl rfl rfl ?_
      refine AOps.gskip rfl rfl rfl rfl rfl rfl rfl rfl ?_
      refine AOps.gskip rfl rfl rfl rfl rfl rfl rfl rfl ?_
      refine AOps.cons rfl rfl (q_pick) ?_
      refine AOps.cons rfl rfl (q_move) ?_
      refine AOps.gskip rfl rfl rfl rfl rfl rfl rfl rfl ?_
      refine AOps.gskip rfl rfl rfl rfl rfl rfl rfl rfl ?_
      refine AOps.gskip rfl rfl rfl rfl rfl rfl rfl rfl ?_
      refine AOps.gskip rfl rfl rfl rfl rfl rfl rfl rfl ?_
      refine AOps.gskip rfl rfl rfl rfl rfl rfl rfl rfl ?_
      refine AOps.cons rfl rfl (q_pick) ?_
      refine AOps.cons rfl rfl (q_assign) ?_
      refine AOps.nil ?_
      refine AWp.ret ?_
      show Fin te Try.f30 _ _
      refine q_ret (0) [_] [_] ?_
      exact congrArg tf (by simp [ansB, *])

set_option maxRecDepth 20000 in
set_option maxHeartbeats 2000000 in
theorem c_audit_Paired (l : List Ev) (lv : Nat) (h : EvsOk l) : AC Try.prog 12 [.fz lv l.length (cl evC l)] emp (Ret (tf (prd l))) := by
  obtain ⟨hb, hm⟩ := id h
  refine AC.intro te_ok (fn := Try.f12) ⟨Try.func12, rfl, rfl⟩ (Nat.le_of_ble_eq_true rfl) ?_
  refine AWp.seq ?_
  refine AWp.region ?_
  refine AOps.cons rfl rfl (q_assign) ?_
  refine AOps.nil ?_
  refine AWp.seq ?_
  refine AWp.region ?_
  refine AOps.cons rfl rfl (q_makeMap 200 MInt (fun b : Bool => tf b)) ?_
  refine AOps.cons rfl rfl (q_assign) ?_
  refine AOps.nil ?_
  refine AWp.seq ?_
  refine AWp.seq ?_
  refine AWp.region ?_
  refine AOps.cons rfl rfl (q_move) ?_
  refine AOps.cons rfl rfl (q_len) ?_
  refine AOps.cons rfl rfl (q_move) ?_
  refine AOps.nil ?_
  refine AWp.block ?_
  refine AWp.loopR (α := Nat × List (Int × Bool) × List Bool) [2, 4, 5, 6, 7, 8, 12, 13, 14, 15, 16, 17, 18, 19, 20, 21, 22, 23, 24, 25, 26, 27, 28, 29, 30, 31, 32, 33, 34, 35, 36, 37, 38, 39, 40, 41, 42, 43, 44, 45, 46, 47, 48, 49, 50, 51, 52, 53, 54, 55, 56, 57, 58, 59] (fun x_ => [(12, i64 (x_.1))]) (fun x_ => [(200, .map (me MInt (fun b : Bool => tf b) (x_.2.1)))]) (fun x_ => (x_.1) ≤ l.length ∧ Open l (x_.1) (x_.2.1) (x_.2.2) ∧ prdF l (l.length - (x_.1)) (x_.1) (x_.2.2) = prd l) (fun x_ => l.length - (x_.1)) (0, [], List.replicate l.length false) ?_ (Back.mk' (HasT.cons HasT.nil) (HasH.cons HasH.nil (h2 := by exact objIn_me (fun _ => rfl)) )) ?_
  · exact ⟨Nat.zero_le _, Open.start l, rfl⟩
  · rintro ⟨i, m, done⟩ hI3
    change i ≤ l.length ∧ Open l i m done ∧ prdF l (l.length - i) i done = prd l at hI3
    obtain ⟨hi, ho, hp⟩ := hI3
    refine AWp.as (s' := AS.over _ [2, 4, 5, 6, 7, 8, 12, 13, 14, 15, 16, 17, 18, 19, 20, 21, 22, 23, 24, 25, 26, 27, 28, 29, 30, 31, 32, 33, 34, 35, 36, 37, 38, 39, 40, 41, 42, 43, 44, 45, 46, 47, 48, 49, 50, 51, 52, 53, 54, 55, 56, 57, 58, 59] [(12, i64 i)] [(200, .map (me MInt (fun b : Bool => tf b) m))]) rfl ?_
    refine AWp.seq ?_
    refine AWp.region ?_
    refine AOps.dec rfl rfl (q_lss) (fun h3_0 => ?_) (fun h3_0 => ?_)
    · skip
      refine AOps.nil ?_
      refine AWp.seq ?_
      refine AWp.cond_t rfl ?_
      refine AWp.skip ?_
      refine AWp.seq ?_
      refine AWp.block ?_
      refine AWp.seq ?_
      refine AWp.region ?_
      have hsub : l.length - i = (l.length - (i + 1)) + 1 := by omega
      have hmi : MsgOk (l.getD i default).m := hm _ (getD_mem (by omega))
      refine AOps.cons rfl rfl (q_move) ?_
      refine AOps.cons rfl rfl (q_ix) ?_
      refine AOps.cons rfl rfl (q_load) ?_
      refine AOps.cons rfl rfl (q_alloc 503) ?_
      refine AOps.cons rfl rfl (q_assign) ?_
      refine AOps.cons rfl rfl (q_store) ?_
      refine AOps.nil ?_
      refine AWp.seq ?_
      refine AWp.seq ?_
      refine AWp.region ?_
      refine AOps.cons rfl rfl (q_fa) ?_
      refine AOps.bool rfl rfl (q_load) (fun h5_1 => ?_) (fun h5_1 => ?_)
      · skip
        refine AOps.cons rfl rfl (q_not) ?_
        refine AOps.nil ?_
        refine AWp.cond_f rfl ?_
        refine AWp.skip ?_
        refine AWp.seq ?_
        refine AWp.region ?_
        refine AOps.cons rfl rfl (q_assign) ?_
        refine AOps.nil ?_
        refine AWp.seq ?_
        refine AWp.seq ?_
        refine AWp.region ?_
        refine AOps.cons rfl rfl (q_move) ?_
        refine AOps.cons rfl rfl (q_move) ?_
        refine AOps.cons rfl rfl (q_sl) ?_
        refine AOps.cons rfl rfl (q_len) ?_
        refine AOps.cons rfl rfl (q_move) ?_
        refine AOps.nil ?_
        refine AWp.block ?_
        refine AWp.loopR (α := Nat) [6, 7, 8, 26, 27, 28, 29, 30, 31, 32, 33, 34, 35, 36, 37, 38, 39, 40] (fun j => [(26, i64 j), (6, i64 (-1))]) (fun j => []) (fun j => j ≤ i ∧ ∀ k, k < j → fitB l done (l.getD i default) k = false) (fun j => i - j) 0 ?_ (Back.mk' (HasT.cons (HasT.cons HasT.nil)) HasH.nil) ?_
        · exact ⟨Nat.zero_le _, fun k hk => absurd hk (Nat.not_lt_zero k)⟩
        · rintro j ⟨hji0, hj⟩
          refine AWp.seq ?_
          refine AWp.region ?_
          refine AOps.dec rfl rfl (q_lss) (fun h9_0 => ?_) (fun h9_0 => ?_)
          · skip
            refine AOps.nil ?_
            refine AWp.seq ?_
            refine AWp.cond_t rfl ?_
            refine AWp.skip ?_
            refine AWp.seq ?_
            refine AWp.block ?_
            refine AWp.seq ?_
            refine AWp.region ?_
            have hji : j < i := by have := h9_0; simp at this; omega
            have hgj : (l.take i).getD j default = l.getD j default := by rw [List.getD_eq_getElem?_getD, List.getD_eq_getElem?_getD, List.getElem?_take_of_lt hji]
            have hmj : MsgOk (l.getD j default).m := hm _ (getD_mem (by omega))
            refine AOps.cons rfl rfl (q_move) ?_
            refine AOps.cons rfl rfl (q_ix) ?_
            refine AOps.cons rfl rfl (q_load) ?_
            refine AOps.cons rfl rfl (q_alloc 1103) ?_
            refine AOps.cons rfl rfl (q_assign) ?_
            refine AOps.cons rfl rfl (q_store) ?_
            refine AOps.nil ?_
            refine AWp.seq ?_
            refine AWp.region ?_
            refine AOps.cons rfl rfl (q_move) ?_
            refine AOps.cons rfl rfl (q_move) ?_
            refine AOps.bool rfl rfl (q_lookup MInt) (fun h11_2 => ?_) (fun h11_2 => ?_)
            · skip
              refine AOps.cons rfl rfl (q_move) ?_
              refine AOps.gcons rfl rfl rfl rfl rfl (q_load) ?_
              refine AOps.gcons rfl rfl rfl rfl rfl (q_load) ?_
              refine AOps.gbool rfl rfl rfl rfl rfl (q_call (lv) (hc := (c_audit_answers ((l.take i).getD j default) (l.getD i default) (by rw [hgj]; exact hmj)))) (fun h11_6 => ?_) (fun h11_6 => ?_)
              · skip
                refine AOps.cons rfl rfl (q_pick) ?_
                refine AOps.nil ?_
                refine AWp.cond_t rfl ?_
                refine AWp.seq ?_
                refine AWp.region ?_
                refine AOps.cons rfl rfl (q_move) ?_
                refine AOps.cons rfl rfl (q_assign) ?_
                refine AOps.nil ?_
                refine AWp.exit ?_
                refine AWp.seq ?_
                refine AWp.seq ?_
                refine AWp.region ?_
                rw [hgj] at h11_6
                have hfj : fitB l done (l.getD i default) j = true := by rw [ho.fit hji, h11_2, h11_6]; rfl
                refine AOps.cons rfl rfl (q_move) ?_
                refine AOps.dec rfl rfl (q_lss) (fun h14_1 => ?_) (fun h14_1 => ?_)
                · exfalso; omega
                · skip
                  refine AOps.cons rfl rfl (q_move) ?_
                  refine AOps.gcons rfl rfl rfl rfl rfl (q_fa) ?_
                  refine AOps.gcons rfl rfl rfl rfl rfl (q_fa) ?_
                  refine AOps.gcons rfl rfl rfl rfl rfl (q_fa) ?_
                  refine AOps.gbool rfl rfl rfl rfl rfl (q_load) (fun h14_6 => ?_) (fun h14_6 => ?_)
                  · skip
                    refine AOps.gcons rfl rfl rfl rfl rfl (q_not) ?_
                    refine AOps.cons rfl rfl (q_pick) ?_
                    refine AOps.cons rfl rfl (q_move) ?_
                    refine AOps.gcons rfl rfl rfl rfl rfl (q_fa) ?_
                    refine AOps.gcons rfl rfl rfl rfl rfl (q_fa) ?_
                    refine AOps.gcons rfl rfl rfl rfl rfl (q_fa) ?_
                    refine AOps.gbool rfl rfl rfl rfl rfl (q_load) (fun h14_13 => ?_) (fun h14_13 => ?_)
                    · skip
                      refine AOps.gcons rfl rfl rfl rfl rfl (q_not) ?_
                      refine AOps.cons rfl rfl (q_pick) ?_
                      refine AOps.nil ?_
                      refine AWp.cond_f rfl ?_
                      refine AWp.skip ?_
                      refine AWp.region ?_
                      have hok : okB (l.getD i default) = true := by
                        have e6 : (l.getD i default).m.h.resp = true := h14_6
                        have e7 : (l.getD i default).m.h.ra = true := h14_13
                        rw [okB, e6, e7]; rfl
                      refine AOps.cons rfl rfl (q_move) ?_
                      refine AOps.cons rfl rfl (q_move) ?_
                      refine AOps.cons rfl rfl (q_delete MInt) ?_
                      refine AOps.nil ?_
                      refine AWp.region ?_
                      refine AOps.cons rfl rfl (q_add) ?_
                      refine AOps.cons rfl rfl (q_move) ?_
                      refine AOps.nil ?_
                      refine ⟨(i + 1, mdel m j, done.set j true), ?_, Back.mk' (HasT.cons HasT.nil) (HasH.cons HasH.nil (h2 := by exact objIn_me (fun _ => rfl)) ), ?_⟩
                      · try dsimp only
                        exact ⟨by omega, ho.reply hji (by omega) h5_1, by rw [← hp, hsub, prdF_yes (i := i) h5_1 hji hfj hj, hok, if_pos rfl]⟩
                      · try dsimp only
                        first | omega | (simp; omega)
                    · skip
                      refine AOps.gcons rfl rfl rfl rfl rfl (q_not) ?_
                      refine AOps.cons rfl rfl (q_pick) ?_
                      refine AOps.nil ?_
                      refine AWp.cond_t rfl ?_
                      refine AWp.seq ?_
                      refine AWp.region ?_
                      refine AOps.cons rfl rfl (q_assign) ?_
                      refine AOps.nil ?_
                      refine AWp.ret ?_
                      show Fin te Try.f12 _ _
                      have hok : okB (l.getD i default) = false := by
                        have e6 := h14_13
                        simp only [okB]
                        first | (have e7 : (l.getD i default).m.h.resp = false := e6; rw [e7]; rfl) | (have e7 : (l.getD i default).m.h.ra = false := e6; rw [e7, Bool.and_false])
                      rw [← hp, hsub, prdF_yes (i := i) h5_1 hji hfj hj, hok]
                      refine q_ret (lv) [_] [_] ?_
                      rfl
                  · skip
                    refine AOps.gcons rfl rfl rfl rfl rfl (q_not) ?_
                    refine AOps.cons rfl rfl (q_pick) ?_
                    refine AOps.cons rfl rfl (q_move) ?_
                    refine AOps.gskip rfl rfl rfl rfl rfl rfl rfl rfl ?_
                    refine AOps.gskip rfl rfl rfl rfl rfl rfl rfl rfl ?_
                    refine AOps.gskip rfl rfl rfl rfl rfl rfl rfl rfl ?_
                    refine AOps.gskip rfl rfl rfl rfl rfl rfl rfl rfl ?_
                    refine AOps.gskip rfl rfl rfl rfl rfl rfl rfl rfl ?_
                    refine AOps.cons rfl rfl (q_pick) ?_
                    refine AOps.nil ?_
                    refine AWp.cond_t rfl ?_
                    refine AWp.seq ?_
                    refine AWp.region ?_
                    refine AOps.cons rfl rfl (q_assign) ?_
                    refine AOps.nil ?_
                    refine AWp.ret ?_
                    show Fin te Try.f12 _ _
                    have hok : okB (l.getD i default) = false := by
                      have e6 := h14_6
                      simp only [okB]
                      first | (have e7 : (l.getD i default).m.h.resp = false := e6; rw [e7]; rfl) | (have e7 : (l.getD i default).m.h.ra = false := e6; rw [e7, Bool.and_false])
                    rw [← hp, hsub, prdF_yes (i := i) h5_1 hji hfj hj, hok]
                    refine q_ret (lv) [_] [_] ?_
                    rfl
              · skip
                refine AOps.cons rfl rfl (q_pick) ?_
                refine AOps.nil ?_
                refine AWp.cond_f rfl ?_
                refine AWp.skip ?_
                refine AWp.region ?_
                refine AOps.cons rfl rfl (q_add) ?_
                refine AOps.cons rfl rfl (q_move) ?_
                refine AOps.nil ?_
                rw [hgj] at h11_6
                refine ⟨j + 1, ?_, Back.mk' (HasT.cons (HasT.cons HasT.nil)) HasH.nil, ?_⟩
                · refine ⟨by omega, fun k hk => ?_⟩
                  by_cases e : k = j
                  · subst e; rw [ho.fit hji, h11_2, h11_6]; rfl
                  · exact hj k (by omega)
                · first | omega | (simp; omega)
            · skip
              refine AOps.cons rfl rfl (q_move) ?_
              refine AOps.gskip rfl rfl rfl rfl rfl rfl rfl rfl ?_
              refine AOps.gskip rfl rfl rfl rfl rfl rfl rfl rfl ?_
              refine AOps.gskip rfl rfl rfl rfl rfl rfl rfl rfl ?_
              refine AOps.cons rfl rfl (q_pick) ?_
              refine AOps.nil ?_
              refine AWp.cond_f rfl ?_
              refine AWp.skip ?_
              refine AWp.region ?_
              refine AOps.cons rfl rfl (q_add) ?_
              refine AOps.cons rfl rfl (q_move) ?_
              refine AOps.nil ?_
              refine ⟨j + 1, ?_, Back.mk' (HasT.cons (HasT.cons HasT.nil)) HasH.nil, ?_⟩
              · refine ⟨by omega, fun k hk => ?_⟩
                by_cases e : k = j
                · subst e; rw [ho.fit hji, h11_2]; rfl
                · exact hj k (by omega)
              · first | omega | (simp; omega)
          · skip
            refine AOps.nil ?_
            refine AWp.seq ?_
            refine AWp.cond_f rfl ?_
            refine AWp.exit ?_
            refine AWp.seq ?_
            refine AWp.seq ?_
            refine AWp.region ?_
            refine AOps.cons rfl rfl (q_move) ?_
            refine AOps.dec rfl rfl (q_lss) (fun h14_1 => ?_) (fun h14_1 => ?_)
            · skip
              refine AOps.cons rfl rfl (q_move) ?_
              refine AOps.gskip rfl rfl rfl rfl rfl rfl rfl rfl ?_
              refine AOps.gskip rfl rfl rfl rfl rfl rfl rfl rfl ?_
              refine AOps.gskip rfl rfl rfl rfl rfl rfl rfl rfl ?_
              refine AOps.gskip rfl rfl rfl rfl rfl rfl rfl rfl ?_
              refine AOps.gskip rfl rfl rfl rfl rfl rfl rfl rfl ?_
              refine AOps.cons rfl rfl (q_pick) ?_
              refine AOps.cons rfl rfl (q_move) ?_
              refine AOps.gskip rfl rfl rfl rfl rfl rfl rfl rfl ?_
              refine AOps.gskip rfl rfl rfl rfl rfl rfl rfl rfl ?_
              refine AOps.gskip rfl rfl rfl rfl rfl rfl rfl rfl ?_
              refine AOps.gskip rfl rfl rfl rfl rfl rfl rfl rfl ?_
              refine AOps.gskip rfl rfl rfl rfl rfl rfl rfl rfl ?_
              refine AOps.cons rfl rfl (q_pick) ?_
              refine AOps.nil ?_
              refine AWp.cond_t rfl ?_
              refine AWp.seq ?_
              refine AWp.region ?_
              refine AOps.cons rfl rfl (q_assign) ?_
              refine AOps.nil ?_
              refine AWp.ret ?_
              show Fin te Try.f12 _ _
              obtain rfl : j = i := by simp at h9_0; omega
              rw [← hp, hsub, prdF_no (i := j) h5_1 hj]
              refine q_ret (lv) [_] [_] ?_
              rfl
            · exfalso; exact h14_1 (by decide)
      · skip
        refine AOps.cons rfl rfl (q_not) ?_
        refine AOps.nil ?_
        refine AWp.cond_t rfl ?_
        refine AWp.seq ?_
        refine AWp.region ?_
        refine AOps.cons rfl rfl (q_move) ?_
        refine AOps.cons rfl rfl (q_move) ?_
        refine AOps.cons rfl rfl (q_mapUpdate MInt true) ?_
        refine AOps.nil ?_
        refine AWp.exit ?_
        refine AWp.region ?_
        refine AOps.cons rfl rfl (q_add) ?_
        refine AOps.cons rfl rfl (q_move) ?_
        refine AOps.nil ?_
        refine ⟨(i + 1, mput m i true, done), ?_, Back.mk' (HasT.cons HasT.nil) (HasH.cons HasH.nil (h2 := by exact objIn_me (fun _ => rfl)) ), ?_⟩
        · try dsimp only
          exact ⟨by omega, ho.query h5_1, by rw [← hp, hsub, prdF_q (i := i) h5_1]⟩
        · try dsimp only
          first | omega | (simp; omega)
    · skip
      refine AOps.nil ?_
      refine AWp.seq ?_
      refine AWp.cond_f rfl ?_
      refine AWp.exit ?_
      refine AWp.seq ?_
      refine AWp.region ?_
      refine AOps.cons rfl rfl (q_assign) ?_
      refine AOps.nil ?_
      refine AWp.ret ?_
      show Fin te Try.f12 _ _
      obtain rfl : i = l.length := by omega
      rw [← hp, Nat.sub_self]
      refine q_ret (lv) [_] [_] ?_
      rfl

end Go.Proofs.Ytolaeondhhnfoaa.Fw

/- Walks of layer 24: the reference: pairs. -/
set_option linter.unusedVariables false
set_option linter.unusedSimpArgs false
namespace Go.Proofs.Ytolaeondhhnfoaa.Fw
open Go.RowKit


theorem em3b (a b : Bool) : a = true ∨ (a = false ∧ b = true) ∨ (a = false ∧ b = false) := by cases a <;> cases b <;> simp
theorem em3 (p q : Prop) : (p ∧ q) ∨ (p ∧ ¬ q) ∨ ¬ p := by
  by_cases h : p
  · by_cases h2 : q
    · exact .inl ⟨h, h2⟩
    · exact .inr (.inl ⟨h, h2⟩)
  · exact .inr (.inr h)
theorem tc_len {x : Bool} : (tc x).length = 1 := rfl
/-- What the reference has found, going down from i to j: the least of those that fit. -/
def FoundB (l : List Ev) (done : List Bool) (r : Ev) (i j : Nat) (k : Int) : Prop := (k = -1 ∧ ∀ x, j ≤ x → x < i → (!done.getD x false && prB (l.getD x default) r) = false) ∨
  ∃ q : Nat, k = q ∧ j ≤ q ∧ q < i ∧ (!done.getD q false && prB (l.getD q default) r) = true ∧ ∀ x, j ≤ x → x < q → (!done.getD x false && prB (l.getD x default) r) = false
theorem FoundB.start {l : List Ev} {done : List Bool} {r : Ev} {i : Nat} : FoundB l done r i i (-1) := .inl ⟨rfl, fun x h1 h2 => by omega⟩
theorem FoundB.no {l : List Ev} {done : List Bool} {r : Ev} {i j : Nat} {k : Int} (h : FoundB l done r i (j + 1) k) (hj : (!done.getD j false && prB (l.getD j default) r) = false) : FoundB l done r i j k := by
  rcases h with ⟨h1, h2⟩ | ⟨q, h1, h2, h3, h4, h5⟩
  · exact .inl ⟨h1, fun x a b => by by_cases e : x = j; (· subst e; exact hj); (· exact h2 x (by omega) b)⟩
  · exact .inr ⟨q, h1, by omega, h3, h4, fun x a b => by by_cases e : x = j; (· subst e; exact hj); (· exact h5 x (by omega) b)⟩
theorem FoundB.yes {l : List Ev} {done : List Bool} {r : Ev} {i j : Nat} {k : Int} (hi : j < i) (hj : (!done.getD j false && prB (l.getD j default) r) = true) : FoundB l done r i j j :=
  .inr ⟨j, rfl, Nat.le_refl _, hi, hj, fun x a b => by omega⟩
theorem fit_pr {l : List Ev} {done : List Bool} {r : Ev} {x : Nat} : (!done.getD x false && prB (l.getD x default) r) = (fitB l done r x && okB r) := by
  rw [prB, fitB, Bool.and_assoc]
/-- A list of records of one question each, the same. -/
theorem one_eq {a b : List Qu} (ha : (a.length : Int) = 1) (hb : (b.length : Int) = 1) : decide (a.getD 0 default = b.getD 0 default) = decide (a = b) := by
  match a, b, (show a.length = 1 by omega), (show b.length = 1 by omega) with
  | [x], [y], _, _ => simp
theorem prdF_ref {l : List Ev} {n i : Nat} {done : List Bool} {k : Int} (h : (l.getD i default).rp = true) (hf : FoundB l done (l.getD i default) i 0 k) :
    prdF l (n + 1) i done = if 0 ≤ k then prdF l n (i + 1) (done.set k.toNat true) else false := by
  rcases hf with ⟨h1, h2⟩ | ⟨q, h1, _, h3, h4, h5⟩
  · rw [if_neg (by omega)]
    cases hok : okB (l.getD i default) with
    | true =>
      refine prdF_no h fun j hj => ?_
      have := h2 j (Nat.zero_le _) hj
      rwa [fit_pr, hok, Bool.and_true] at this
    | false =>
      cases hx : (List.range i).find? (fitB l done (l.getD i default)) with
      | none => rw [prdF, if_pos h, hx]
      | some q => rw [prdF, if_pos h, hx, hok]; rfl
  · subst h1
    rw [fit_pr, Bool.and_eq_true] at h4
    rw [if_pos (by omega), prdF_yes h h3 h4.1 (fun x hx => ?_), h4.2, if_pos rfl, Int.toNat_natCast]
    have := h5 x (Nat.zero_le _) hx
    rwa [fit_pr, h4.2, Bool.and_true] at this

set_option maxRecDepth 20000 in
set_option maxHeartbeats 2000000 in
theorem c_ciceroneref24_pairs (q r : Ev) (hq : MsgOk q.m) : AC Try.prog 31 [.agg (evC q), .agg (evC r)] emp (Ret (tf (prB q r))) := by
  refine AC.intro te_ok (fn := Try.f31) ⟨Try.func31, rfl, rfl⟩ (Nat.le_of_ble_eq_true rfl) ?_
  refine AWp.seq ?_
  refine AWp.region ?_
  refine AOps.cons rfl rfl (q_box 100) ?_
  refine AOps.cons rfl rfl (q_box 101) ?_
  refine AOps.cons rfl rfl (q_assign) ?_
  refine AOps.nil ?_
  refine AWp.seq ?_
  refine AWp.draws [⟨0, [2], [100], some 7, _, none⟩,
      ⟨1, [7], [100], some 8, _, none⟩,
      ⟨2, [3], [101], some 9, _, none⟩,
      ⟨3, [9], [101], some 10, _, none⟩,
      ⟨4, [], [204], some 5, _, some (204, _)⟩,
      ⟨5, [], [205], some 6, _, some (205, _)⟩,
      ⟨6, [5, 8], [204], none, _, some (204, _)⟩,
      ⟨7, [6, 10], [205], none, _, some (205, _)⟩]
    [⟨0, [2], [100], some 7, .any, none⟩,
        ⟨1, [7], [100], some 8, .any, none⟩,
        ⟨2, [3], [101], some 9, .any, none⟩,
        ⟨3, [9], [101], some 10, .any, none⟩,
        ⟨4, [], [204], some 5, .any, some (204, .box [])⟩,
        ⟨5, [], [205], some 6, .any, some (205, .box [])⟩,
        ⟨6, [5, 8], [204], none, .any, some (204, .box [])⟩,
        ⟨7, [6, 10], [205], none, .any, some (205, .box [])⟩]
    mixed_ok rfl (by kernel_rfl) ⟨DS.ok_over fun s0 => OpAt.go rfl rfl (q_fa),
        DS.ok_over fun s0 => OpAt.go rfl rfl (q_load),
        DS.ok_over fun s0 => OpAt.go rfl rfl (q_fa),
        DS.ok_over fun s0 => OpAt.go rfl rfl (q_load),
        DS.ok_over fun s0 => OpAt.go rfl rfl (q_alloc 204),
        DS.ok_over fun s0 => OpAt.go rfl rfl (q_alloc 205),
        DS.ok_over fun s0 => OpAt.go rfl rfl (q_store),
        DS.ok_over fun s0 => OpAt.go rfl rfl (q_store), trivial⟩ ?_
  dsimp only [final, DS.upd, AS.seto]
  refine AWp.seq ?_
  refine AWp.seq ?_
  refine AWp.region ?_
  refine AOps.cons rfl rfl (q_fa) ?_
  refine AOps.bool rfl rfl (q_load) (fun h2_1 => ?_) (fun h2_1 => ?_)
  · skip
    refine AOps.cons rfl rfl (q_move) ?_
    refine AOps.gskip rfl rfl rfl rfl rfl rfl rfl rfl ?_
    refine AOps.gskip rfl rfl rfl rfl rfl rfl rfl rfl ?_
    refine AOps.gskip rfl rfl rfl rfl rfl rfl rfl rfl ?_
    refine AOps.gskip rfl rfl rfl rfl rfl rfl rfl rfl ?_
    refine AOps.gskip rfl rfl rfl rfl rfl rfl rfl rfl ?_
    refine AOps.cons rfl rfl (q_pick) ?_
    refine AOps.cons rfl rfl (q_move) ?_
    refine AOps.gskip rfl rfl rfl rfl rfl rfl rfl rfl ?_
    refine AOps.gskip rfl rfl rfl rfl rfl rfl rfl rfl ?_
    refine AOps.gskip rfl rfl rfl rfl rfl rfl rfl rfl ?_
    refine AOps.gskip rfl rfl rfl rfl rfl rfl rfl rfl ?_
    refine AOps.gskip rfl rfl rfl rfl rfl rfl rfl rfl ?_
    refine AOps.gskip rfl rfl rfl rfl rfl rfl rfl rfl ?_
    refine AOps.gskip rfl rfl rfl rfl rfl rfl rfl rfl ?_
    refine AOps.cons rfl rfl (q_pick) ?_
    refine AOps.cons rfl rfl (q_move) ?_
    refine AOps.gskip rfl rfl rfl rfl rfl rfl rfl rfl ?_
    refine AOps.gskip rfl rfl rfl rfl rfl rfl rfl rfl ?_
    refine AOps.gskip rfl rfl rfl rfl rfl rfl rfl rfl ?_
    refine AOps.gskip rfl rfl rfl rfl rfl rfl rfl rfl ?_
    refine AOps.gskip rfl rfl rfl rfl rfl rfl rfl rfl ?_
    refine AOps.gskip rfl rfl rfl rfl rfl rfl rfl rfl ?_
    refine AOps.gskip rfl rfl rfl rfl rfl rfl rfl rfl ?_
    refine AOps.cons rfl rfl (q_pick) ?_
    refine AOps.cons rfl rfl (q_move) ?_
    refine AOps.gskip rfl rfl rfl rfl rfl rfl rfl rfl ?_
    refine AOps.gskip rfl rfl rfl rfl rfl rfl rfl rfl ?_
    refine AOps.gskip rfl rfl rfl rfl rfl rfl rfl rfl ?_
    refine AOps.gskip rfl rfl rfl rfl rfl rfl rfl rfl ?_
    refine AOps.gskip rfl rfl rfl rfl rfl rfl rfl rfl ?_
    refine AOps.gskip rfl rfl rfl rfl rfl rfl rfl rfl ?_
    refine AOps.gskip rfl rfl rfl rfl rfl rfl rfl rfl ?_
    refine AOps.cons rfl rfl (q_pick) ?_
    refine AOps.cons rfl rfl (q_move) ?_
    refine AOps.gskip rfl rfl rfl rfl rfl rfl rfl rfl ?_
    refine AOps.gskip rfl rfl rfl rfl rfl rfl rfl rfl ?_
    refine AOps.gskip rfl rfl rfl rfl rfl rfl rfl rfl ?_
    refine AOps.gskip rfl rfl rfl rfl rfl rfl rfl rfl ?_
    refine AOps.cons rfl rfl (q_pick) ?_
    refine AOps.cons rfl rfl (q_move) ?_
    refine AOps.gskip rfl rfl rfl rfl rfl rfl rfl rfl ?_
    refine AOps.gskip rfl rfl rfl rfl rfl rfl rfl rfl ?_
    refine AOps.gskip rfl rfl rfl rfl rfl rfl rfl rfl ?_
    refine AOps.gskip rfl rfl rfl rfl rfl rfl rfl rfl ?_
    refine AOps.cons rfl rfl (q_pick) ?_
    refine AOps.nil ?_
    refine AWp.cond_t rfl ?_
    refine AWp.seq ?_
    refine AWp.region ?_
    refine AOps.cons rfl rfl (q_assign) ?_
    refine AOps.nil ?_
    refine AWp.ret ?_
    show Fin te Try.f31 _ _
    refine q_ret (0) [_] [_] ?_
    exact congrArg tf (by simp [prB, ansB, okB, *])
  · skip
    refine AOps.cons rfl rfl (q_move) ?_
    refine AOps.gcons rfl rfl rfl rfl rfl (q_fa) ?_
    refine AOps.gcons rfl rfl rfl rfl rfl (q_load) ?_
    refine AOps.gcons rfl rfl rfl rfl rfl (q_fa) ?_
    refine AOps.gcons rfl rfl rfl rfl rfl (q_load) ?_
    refine AOps.gdec rfl rfl rfl rfl rfl (q_neq) (fun h2_7 => ?_) (fun h2_7 => ?_)
    · skip
      refine AOps.cons rfl rfl (q_pick) ?_
      refine AOps.cons rfl rfl (q_move) ?_
      refine AOps.gskip rfl rfl rfl rfl rfl rfl rfl rfl ?_
      refine AOps.gskip rfl rfl rfl rfl rfl rfl rfl rfl ?_
      refine AOps.gskip rfl rfl rfl rfl rfl rfl rfl rfl ?_
      refine AOps.gskip rfl rfl rfl rfl rfl rfl rfl rfl ?_
      refine AOps.gskip rfl rfl rfl rfl rfl rfl rfl rfl ?_
      refine AOps.gskip rfl rfl rfl rfl rfl rfl rfl rfl ?_
      refine AOps.gskip rfl rfl rfl rfl rfl rfl rfl rfl ?_
      refine AOps.cons rfl rfl (q_pick) ?_
      refine AOps.cons rfl rfl (q_move) ?_
      refine AOps.gskip rfl rfl rfl rfl rfl rfl rfl rfl ?_
      refine AOps.gskip rfl rfl rfl rfl rfl rfl rfl rfl ?_
      refine AOps.gskip rfl rfl rfl rfl rfl rfl rfl rfl ?_
      refine AOps.gskip rfl rfl rfl rfl rfl rfl rfl rfl ?_
      refine AOps.gskip rfl rfl rfl rfl rfl rfl rfl rfl ?_
      refine AOps.gskip rfl rfl rfl rfl rfl rfl rfl rfl ?_
      refine AOps.gskip rfl rfl rfl rfl rfl rfl rfl rfl ?_
      refine AOps.cons rfl rfl (q_pick) ?_
      refine AOps.cons rfl rfl (q_move) ?_
      refine AOps.gskip rfl rfl rfl rfl rfl rfl rfl rfl ?_
      refine AOps.gskip rfl rfl rfl rfl rfl rfl rfl rfl ?_
      refine AOps.gskip rfl rfl rfl rfl rfl rfl rfl rfl ?_
      refine AOps.gskip rfl rfl rfl rfl rfl rfl rfl rfl ?_
      refine AOps.gskip rfl rfl rfl rfl rfl rfl rfl rfl ?_
      refine AOps.gskip rfl rfl rfl rfl rfl rfl rfl rfl ?_
      refine AOps.gskip rfl rfl rfl rfl rfl rfl rfl rfl ?_
      refine AOps.cons rfl rfl (q_pick) ?_
      refine AOps.cons rfl rfl (q_move) ?_
      refine AOps.gskip rfl rfl rfl rfl rfl rfl rfl rfl ?_
      refine AOps.gskip rfl rfl rfl rfl rfl rfl rfl rfl ?_
      refine AOps.gskip rfl rfl rfl rfl rfl rfl rfl rfl ?_
      refine AOps.gskip rfl rfl rfl rfl rfl rfl rfl rfl ?_
      refine AOps.cons rfl rfl (q_pick) ?_
      refine AOps.cons rfl rfl (q_move) ?_
      refine AOps.gskip rfl rfl rfl rfl rfl rfl rfl rfl ?_
      refine AOps.gskip rfl rfl rfl rfl rfl rfl rfl rfl ?_
      refine AOps.gskip rfl rfl rfl rfl rfl rfl rfl rfl ?_
      refine AOps.gskip rfl rfl rfl rfl rfl rfl rfl rfl ?_
      refine AOps.cons rfl rfl (q_pick) ?_
      refine AOps.nil ?_
      refine AWp.cond_t rfl ?_
      refine AWp.seq ?_
      refine AWp.region ?_
      refine AOps.cons rfl rfl (q_assign) ?_
      refine AOps.nil ?_
      refine AWp.ret ?_
      show Fin te Try.f31 _ _
      refine q_ret (0) [_] [_] ?_
      exact congrArg tf (by simp [prB, ansB, okB, *])
    · skip
      refine AOps.cons rfl rfl (q_pick) ?_
      refine AOps.cons rfl rfl (q_move) ?_
      refine AOps.gcons rfl rfl rfl rfl rfl (q_fa) ?_
      refine AOps.gcons rfl rfl rfl rfl rfl (q_fa) ?_
      refine AOps.gcons rfl rfl rfl rfl rfl (q_load) ?_
      refine AOps.gcons rfl rfl rfl rfl rfl (q_fa) ?_
      refine AOps.gcons rfl rfl rfl rfl rfl (q_fa) ?_
      refine AOps.gcons rfl rfl rfl rfl rfl (q_load) ?_
      refine AOps.gdec rfl rfl rfl rfl rfl (q_neq) (fun h2_16 => ?_) (fun h2_16 => ?_)
      · skip
        refine AOps.cons rfl rfl (q_pick) ?_
        refine AOps.cons rfl rfl (q_move) ?_
        refine AOps.gskip rfl rfl rfl rfl rfl rfl rfl rfl ?_
        refine AOps.gskip rfl rfl rfl rfl rfl rfl rfl rfl ?_
        refine AOps.gskip rfl rfl rfl rfl rfl rfl rfl rfl ?_
        refine AOps.gskip rfl rfl rfl rfl rfl rfl rfl rfl ?_
        refine AOps.gskip rfl rfl rfl rfl rfl rfl rfl rfl ?_
        refine AOps.gskip rfl rfl rfl rfl rfl rfl rfl rfl ?_
        refine AOps.gskip rfl rfl rfl rfl rfl rfl rfl rfl ?_
        refine AOps.cons rfl rfl (q_pick) ?_
        refine AOps.cons rfl rfl (q_move) ?_
        refine AOps.gskip rfl rfl rfl rfl rfl rfl rfl rfl ?_
        refine AOps.gskip rfl rfl rfl rfl rfl rfl rfl rfl ?_
        refine AOps.gskip rfl rfl rfl rfl rfl rfl rfl rfl ?_
        refine AOps.gskip rfl rfl rfl rfl rfl rfl rfl rfl ?_
        refine AOps.gskip rfl rfl rfl rfl rfl rfl rfl rfl ?_
        refine AOps.gskip rfl rfl rfl rfl rfl rfl rfl rfl ?_
        refine AOps.gskip rfl rfl rfl rfl rfl rfl rfl rfl ?_
        refine AOps.cons rfl rfl (q_pick) ?_
        refine AOps.cons rfl rfl (q_move) ?_
        refine AOps.gskip rfl rfl rfl rfl rfl rfl rfl rfl ?_
        refine AOps.gskip rfl rfl rfl rfl rfl rfl rfl rfl ?_
        refine AOps.gskip rfl rfl rfl rfl rfl rfl rfl rfl ?_
        refine AOps.gskip rfl rfl rfl rfl rfl rfl rfl rfl ?_
        refine AOps.cons rfl rfl (q_pick) ?_
        refine AOps.cons rfl rfl (q_move) ?_
        refine AOps.gskip rfl rfl rfl rfl rfl rfl rfl rfl ?_
        refine AOps.gskip rfl rfl rfl rfl rfl rfl rfl rfl ?_
        refine AOps.gskip rfl rfl rfl rfl rfl rfl rfl rfl ?_
        refine AOps.gskip rfl rfl rfl rfl rfl rfl rfl rfl ?_
        refine AOps.cons rfl rfl (q_pick) ?_
        refine AOps.nil ?_
        refine AWp.cond_t rfl ?_
        refine AWp.seq ?_
        refine AWp.region ?_
        refine AOps.cons rfl rfl (q_assign) ?_
        refine AOps.nil ?_
        refine AWp.ret ?_
        show Fin te Try.f31 _ _
        refine q_ret (0) [_] [_] ?_
        exact congrArg tf (by simp [prB, ansB, okB, *])
      · skip
        refine AOps.cons rfl rfl (q_pick) ?_
        refine AOps.cons rfl rfl (q_move) ?_
        refine AOps.gcons rfl rfl rfl rfl rfl (q_fa) ?_
        refine AOps.gcons rfl rfl rfl rfl rfl (q_fa) ?_
        refine AOps.gcons rfl rfl rfl rfl rfl (q_load) ?_
        refine AOps.gcons rfl rfl rfl rfl rfl (q_fa) ?_
        refine AOps.gcons rfl rfl rfl rfl rfl (q_fa) ?_
        refine AOps.gcons rfl rfl rfl rfl rfl (q_load) ?_
        refine AOps.gdec rfl rfl rfl rfl rfl (q_neq) (fun h2_25 => ?_) (fun h2_25 => ?_)
        · skip
          refine AOps.cons rfl rfl (q_pick) ?_
          refine AOps.cons rfl rfl (q_move) ?_
          refine AOps.gskip rfl rfl rfl rfl rfl rfl rfl rfl ?_
          refine AOps.gskip rfl rfl rfl rfl rfl rfl rfl rfl ?_
          refine AOps.gskip rfl rfl rfl rfl rfl rfl rfl rfl ?_
          refine AOps.gskip rfl rfl rfl rfl rfl rfl rfl rfl ?_
          refine AOps.gskip rfl rfl rfl rfl rfl rfl rfl rfl ?_
          refine AOps.gskip rfl rfl rfl rfl rfl rfl rfl rfl ?_
          refine AOps.gskip rfl rfl rfl rfl rfl rfl rfl rfl ?_
          refine AOps.cons rfl rfl (q_pick) ?_
          refine AOps.cons rfl rfl (q_move) ?_
          refine AOps.gskip rfl rfl rfl rfl rfl rfl rfl rfl ?_
          refine AOps.gskip rfl rfl rfl rfl rfl rfl rfl rfl ?_
          refine AOps.gskip rfl rfl rfl rfl rfl rfl rfl rfl ?_
          refine AOps.gskip rfl rfl rfl rfl rfl rfl rfl rfl ?_
          refine AOps.cons rfl rfl (q_pick) ?_
          refine AOps.cons rfl rfl (q_move) ?_
          refine AOps.gskip rfl rfl rfl rfl rfl rfl rfl rfl ?_
          refine AOps.gskip rfl rfl rfl rfl rfl rfl rfl rfl ?_
          refine AOps.gskip rfl rfl rfl rfl rfl rfl rfl rfl ?_
          refine AOps.gskip rfl rfl rfl rfl rfl rfl rfl rfl ?_
          refine AOps.cons rfl rfl (q_pick) ?_
          refine AOps.nil ?_
          refine AWp.cond_t rfl ?_
          refine AWp.seq ?_
          refine AWp.region ?_
          refine AOps.cons rfl rfl (q_assign) ?_
          refine AOps.nil ?_
          refine AWp.ret ?_
          show Fin te Try.f31 _ _
          refine q_ret (0) [_] [_] ?_
          exact congrArg tf (by simp [prB, ansB, okB, *])
        · skip
          refine AOps.cons rfl rfl (q_pick) ?_
          refine AOps.cons rfl rfl (q_move) ?_
          refine AOps.gcons rfl rfl rfl rfl rfl (q_fa) ?_
          refine AOps.gcons rfl rfl rfl rfl rfl (q_fa) ?_
          refine AOps.gcons rfl rfl rfl rfl rfl (q_load) ?_
          refine AOps.gcons rfl rfl rfl rfl rfl (q_fa) ?_
          refine AOps.gcons rfl rfl rfl rfl rfl (q_fa) ?_
          refine AOps.gcons rfl rfl rfl rfl rfl (q_load) ?_
          refine AOps.gbool rfl rfl rfl rfl rfl (q_bneq) (fun h2_34 => ?_) (fun h2_34 => ?_)
          · skip
            refine AOps.cons rfl rfl (q_pick) ?_
            refine AOps.cons rfl rfl (q_move) ?_
            refine AOps.gskip rfl rfl rfl rfl rfl rfl rfl rfl ?_
            refine AOps.gskip rfl rfl rfl rfl rfl rfl rfl rfl ?_
            refine AOps.gskip rfl rfl rfl rfl rfl rfl rfl rfl ?_
            refine AOps.gskip rfl rfl rfl rfl rfl rfl rfl rfl ?_
            refine AOps.cons rfl rfl (q_pick) ?_
            refine AOps.cons rfl rfl (q_move) ?_
            refine AOps.gskip rfl rfl rfl rfl rfl rfl rfl rfl ?_
            refine AOps.gskip rfl rfl rfl rfl rfl rfl rfl rfl ?_
            refine AOps.gskip rfl rfl rfl rfl rfl rfl rfl rfl ?_
            refine AOps.gskip rfl rfl rfl rfl rfl rfl rfl rfl ?_
            refine AOps.cons rfl rfl (q_pick) ?_
            refine AOps.nil ?_
            refine AWp.cond_t rfl ?_
            refine AWp.seq ?_
            refine AWp.region ?_
            refine AOps.cons rfl rfl (q_assign) ?_
            refine AOps.nil ?_
            refine AWp.ret ?_
            show Fin te Try.f31 _ _
            refine q_ret (0) [_] [_] ?_
            exact congrArg tf (by simp [prB, ansB, okB, *] at *; simp [*])
          · skip
            refine AOps.cons rfl rfl (q_pick) ?_
            refine AOps.cons rfl rfl (q_move) ?_
            refine AOps.gcons rfl rfl rfl rfl rfl (q_fa) ?_
            refine AOps.gcons rfl rfl rfl rfl rfl (q_fa) ?_
            refine AOps.gbool rfl rfl rfl rfl rfl (q_load) (fun h2_39 => ?_) (fun h2_39 => ?_)
            · skip
              refine AOps.gcons rfl rfl rfl rfl rfl (q_not) ?_
              refine AOps.cons rfl rfl (q_pick) ?_
              refine AOps.cons rfl rfl (q_move) ?_
              refine AOps.gcons rfl rfl rfl rfl rfl (q_fa) ?_
              refine AOps.gcons rfl rfl rfl rfl rfl (q_fa) ?_
              refine AOps.gbool rfl rfl rfl rfl rfl (q_load) (fun h2_45 => ?_) (fun h2_45 => ?_)
              · skip
                refine AOps.gcons rfl rfl rfl rfl rfl (q_not) ?_
                refine AOps.cons rfl rfl (q_pick) ?_
                refine AOps.nil ?_
                refine AWp.cond_f rfl ?_
                refine AWp.skip ?_
                refine AWp.seq ?_
                rcases em3 ((q.m.qs.length : Int) = 1) ((r.m.qs.length : Int) = 1) with ⟨h1, h2⟩ | ⟨h1, h2⟩ | h1
                · skip
                  refine AWp.draws [⟨0, [5], [204], some 59, _, none⟩,
                      ⟨1, [59], [204], some 60, _, none⟩,
                      ⟨2, [60], [], some 61, _, none⟩,
                      ⟨3, [61], [], some 62, _, none⟩,
                      ⟨4, [62], [], some 63, _, none⟩,
                      ⟨5, [6, 63], [205], some 64, _, none⟩,
                      ⟨6, [63, 64], [205], some 65, _, none⟩,
                      ⟨7, [63, 65], [], some 66, _, none⟩,
                      ⟨8, [63, 66], [], some 67, _, none⟩,
                      ⟨9, [63, 67], [], some 68, _, none⟩,
                      ⟨10, [68], [], some 69, _, none⟩,
                      ⟨11, [5, 69], [204], some 70, _, none⟩,
                      ⟨12, [69, 70], [204], some 71, _, none⟩,
                      ⟨13, [69, 71], [], some 72, _, none⟩,
                      ⟨14, [69, 72], [], some 73, _, none⟩,
                      ⟨15, [6, 69], [205], some 74, _, none⟩,
                      ⟨16, [69, 74], [205], some 75, _, none⟩,
                      ⟨17, [69, 75], [], some 76, _, none⟩,
                      ⟨18, [69, 76], [], some 77, _, none⟩,
                      ⟨19, [69, 73, 77], [], some 78, _, none⟩,
                      ⟨20, [69, 78], [], some 79, _, none⟩,
                      ⟨21, [79], [], some 4, _, none⟩]
                    [⟨0, [5], [204], some 59, .any, none⟩,
                        ⟨1, [59], [204], some 60, .any, none⟩,
                        ⟨2, [60], [], some 61, .any, none⟩,
                        ⟨3, [61], [], some 62, .any, none⟩,
                        ⟨4, [62], [], some 63, .any, none⟩,
                        ⟨5, [6, 63], [205], some 64, .any, none⟩,
                        ⟨6, [63, 64], [205], some 65, .any, none⟩,
                        ⟨7, [63, 65], [], some 66, .any, none⟩,
                        ⟨8, [63, 66], [], some 67, .any, none⟩,
                        ⟨9, [63, 67], [], some 68, .any, none⟩,
                        ⟨10, [68], [], some 69, .any, none⟩,
                        ⟨11, [5, 69], [204], some 70, .any, none⟩,
                        ⟨12, [69, 70], [204], some 71, .any, none⟩,
                        ⟨13, [69, 71], [], some 72, .any, none⟩,
                        ⟨14, [69, 72], [], some 73, .any, none⟩,
                        ⟨15, [6, 69], [205], some 74, .any, none⟩,
                        ⟨16, [69, 74], [205], some 75, .any, none⟩,
                        ⟨17, [69, 75], [], some 76, .any, none⟩,
                        ⟨18, [69, 76], [], some 77, .any, none⟩,
                        ⟨19, [69, 73, 77], [], some 78, .any, none⟩,
                        ⟨20, [69, 78], [], some 79, .any, none⟩,
                        ⟨21, [79], [], some 4, .any, none⟩]
                    mixed_ok rfl (by kernel_rfl) ⟨DS.ok_over fun s0 => OpAt.go rfl rfl (q_fa),
                        DS.ok_over fun s0 => OpAt.go rfl rfl (q_load),
                        DS.ok_over fun s0 => OpAt.go rfl rfl (q_len),
                        DS.ok_over fun s0 => OpAt.go rfl rfl ((OpOk.dec_t (q_eql) (h1))),
                        DS.ok_over fun s0 => OpAt.go rfl rfl (q_move),
                        DS.ok_over fun s0 => OpAt.ggo rfl rfl rfl rfl rfl (q_fa),
                        DS.ok_over fun s0 => OpAt.ggo rfl rfl rfl rfl rfl (q_load),
                        DS.ok_over fun s0 => OpAt.ggo rfl rfl rfl rfl rfl (q_len),
                        DS.ok_over fun s0 => OpAt.ggo rfl rfl rfl rfl rfl ((OpOk.dec_t (q_eql) (h2))),
                        DS.ok_over fun s0 => OpAt.go rfl rfl (q_pick),
                        DS.ok_over fun s0 => OpAt.go rfl rfl (q_move),
                        DS.ok_over fun s0 => OpAt.ggo rfl rfl rfl rfl rfl (q_fa),
                        DS.ok_over fun s0 => OpAt.ggo rfl rfl rfl rfl rfl (q_load),
                        DS.ok_over fun s0 => OpAt.ggo rfl rfl rfl rfl rfl (q_ix),
                        DS.ok_over fun s0 => OpAt.ggo rfl rfl rfl rfl rfl (q_load),
                        DS.ok_over fun s0 => OpAt.ggo rfl rfl rfl rfl rfl (q_fa),
                        DS.ok_over fun s0 => OpAt.ggo rfl rfl rfl rfl rfl (q_load),
                        DS.ok_over fun s0 => OpAt.ggo rfl rfl rfl rfl rfl (q_ix),
                        DS.ok_over fun s0 => OpAt.ggo rfl rfl rfl rfl rfl (q_load),
                        DS.ok_over fun s0 => OpAt.ggo rfl rfl rfl rfl rfl (q_eqp),
                        DS.ok_over fun s0 => OpAt.go rfl rfl (q_pick),
                        DS.ok_over fun s0 => OpAt.go rfl rfl (q_assign), trivial⟩ ?_
                  dsimp only [final, DS.upd, AS.seto]
                  refine AWp.ret ?_
                  show Fin te Try.f31 _ _
                  refine q_ret (0) [_] [_] ?_
                  rw [Decidable.not_not] at h2_7 h2_16 h2_25
                  have e34 : q.m.h.rd = r.m.h.rd := by simpa using h2_34
                  refine congrArg tf ((quV (q.m.qs.getD 0 default) (r.m.qs.getD 0 default)).trans ?_)
                  rw [one_eq h1 h2]; simp [prB, ansB, okB, *]
                · skip
                  refine AWp.draws [⟨0, [5], [204], some 59, _, none⟩,
                      ⟨1, [59], [204], some 60, _, none⟩,
                      ⟨2, [60], [], some 61, _, none⟩,
                      ⟨3, [61], [], some 62, _, none⟩,
                      ⟨4, [62], [], some 63, _, none⟩,
                      ⟨5, [6, 63], [205], some 64, _, none⟩,
                      ⟨6, [63, 64], [205], some 65, _, none⟩,
                      ⟨7, [63, 65], [], some 66, _, none⟩,
                      ⟨8, [63, 66], [], some 67, _, none⟩,
                      ⟨9, [63, 67], [], some 68, _, none⟩,
                      ⟨10, [68], [], some 69, _, none⟩,
                      ⟨11, [69], [], some 70, .v undef, none⟩,
                      ⟨12, [69], [], some 71, .v undef, none⟩,
                      ⟨13, [69], [], some 72, .v undef, none⟩,
                      ⟨14, [69], [], some 73, .v undef, none⟩,
                      ⟨15, [69], [], some 74, .v undef, none⟩,
                      ⟨16, [69], [], some 75, .v undef, none⟩,
                      ⟨17, [69], [], some 76, .v undef, none⟩,
                      ⟨18, [69], [], some 77, .v undef, none⟩,
                      ⟨19, [69], [], some 78, .v undef, none⟩,
                      ⟨20, [69, 78], [], some 79, _, none⟩,
                      ⟨21, [79], [], some 4, _, none⟩]
                    [⟨0, [5], [204], some 59, .any, none⟩,
                        ⟨1, [59], [204], some 60, .any, none⟩,
                        ⟨2, [60], [], some 61, .any, none⟩,
                        ⟨3, [61], [], some 62, .any, none⟩,
                        ⟨4, [62], [], some 63, .any, none⟩,
                        ⟨5, [6, 63], [205], some 64, .any, none⟩,
                        ⟨6, [63, 64], [205], some 65, .any, none⟩,
                        ⟨7, [63, 65], [], some 66, .any, none⟩,
                        ⟨8, [63, 66], [], some 67, .any, none⟩,
                        ⟨9, [63, 67], [], some 68, .any, none⟩,
                        ⟨10, [68], [], some 69, .any, none⟩,
                        ⟨11, [69], [], some 70, .any, none⟩,
                        ⟨12, [69], [], some 71, .any, none⟩,
                        ⟨13, [69], [], some 72, .any, none⟩,
                        ⟨14, [69], [], some 73, .any, none⟩,
                        ⟨15, [69], [], some 74, .any, none⟩,
                        ⟨16, [69], [], some 75, .any, none⟩,
                        ⟨17, [69], [], some 76, .any, none⟩,
                        ⟨18, [69], [], some 77, .any, none⟩,
                        ⟨19, [69], [], some 78, .any, none⟩,
                        ⟨20, [69, 78], [], some 79, .any, none⟩,
                        ⟨21, [79], [], some 4, .any, none⟩]
                    mixed_ok rfl (by kernel_rfl) ⟨DS.ok_over fun s0 => OpAt.go rfl rfl (q_fa),
                        DS.ok_over fun s0 => OpAt.go rfl rfl (q_load),
                        DS.ok_over fun s0 => OpAt.go rfl rfl (q_len),
                        DS.ok_over fun s0 => OpAt.go rfl rfl ((OpOk.dec_t (q_eql) (h1))),
                        DS.ok_over fun s0 => OpAt.go rfl rfl (q_move),
                        DS.ok_over fun s0 => OpAt.ggo rfl rfl rfl rfl rfl (q_fa),
                        DS.ok_over fun s0 => OpAt.ggo rfl rfl rfl rfl rfl (q_load),
                        DS.ok_over fun s0 => OpAt.ggo rfl rfl rfl rfl rfl (q_len),
                        DS.ok_over fun s0 => OpAt.ggo rfl rfl rfl rfl rfl ((OpOk.dec_f (q_eql) (h2))),
                        DS.ok_over fun s0 => OpAt.go rfl rfl (q_pick),
                        DS.ok_over fun s0 => OpAt.go rfl rfl (q_move),
                        DS.ok_over fun s0 => OpAt.gskip rfl rfl rfl rfl rfl rfl rfl rfl,
                        DS.ok_over fun s0 => OpAt.gskip rfl rfl rfl rfl rfl rfl rfl rfl,
                        DS.ok_over fun s0 => OpAt.gskip rfl rfl rfl rfl rfl rfl rfl rfl,
                        DS.ok_over fun s0 => OpAt.gskip rfl rfl rfl rfl rfl rfl rfl rfl,
                        DS.ok_over fun s0 => OpAt.gskip rfl rfl rfl rfl rfl rfl rfl rfl,
                        DS.ok_over fun s0 => OpAt.gskip rfl rfl rfl rfl rfl rfl rfl rfl,
                        DS.ok_over fun s0 => OpAt.gskip rfl rfl rfl rfl rfl rfl rfl rfl,
                        DS.ok_over fun s0 => OpAt.gskip rfl rfl rfl rfl rfl rfl rfl rfl,
                        DS.ok_over fun s0 => OpAt.gskip rfl rfl rfl rfl rfl rfl rfl rfl,
                        DS.ok_over fun s0 => OpAt.go rfl rfl (q_pick),
                        DS.ok_over fun s0 => OpAt.go rfl rfl (q_assign), trivial⟩ ?_
                  dsimp only [final, DS.upd, AS.seto]
                  refine AWp.ret ?_
                  show Fin te Try.f31 _ _
                  refine q_ret (0) [_] [_] ?_
                  have hne : ¬ q.m.qs = r.m.qs := fun e => h2 (by rw [← e]; exact h1)
                  exact congrArg tf (by simp [prB, ansB, okB, hne])
                · skip
                  refine AWp.draws [⟨0, [5], [204], some 59, _, none⟩,
                      ⟨1, [59], [204], some 60, _, none⟩,
                      ⟨2, [60], [], some 61, _, none⟩,
                      ⟨3, [61], [], some 62, _, none⟩,
                      ⟨4, [62], [], some 63, _, none⟩,
                      ⟨5, [63], [], some 64, .v undef, none⟩,
                      ⟨6, [63], [], some 65, .v undef, none⟩,
                      ⟨7, [63], [], some 66, .v undef, none⟩,
                      ⟨8, [63], [], some 67, .v undef, none⟩,
                      ⟨9, [63, 67], [], some 68, _, none⟩,
                      ⟨10, [68], [], some 69, _, none⟩,
                      ⟨11, [69], [], some 70, .v undef, none⟩,
                      ⟨12, [69], [], some 71, .v undef, none⟩,
                      ⟨13, [69], [], some 72, .v undef, none⟩,
                      ⟨14, [69], [], some 73, .v undef, none⟩,
                      ⟨15, [69], [], some 74, .v undef, none⟩,
                      ⟨16, [69], [], some 75, .v undef, none⟩,
                      ⟨17, [69], [], some 76, .v undef, none⟩,
                      ⟨18, [69], [], some 77, .v undef, none⟩,
                      ⟨19, [69], [], some 78, .v undef, none⟩,
                      ⟨20, [69, 78], [], some 79, _, none⟩,
                      ⟨21, [79], [], some 4, _, none⟩]
                    [⟨0, [5], [204], some 59, .any, none⟩,
                        ⟨1, [59], [204], some 60, .any, none⟩,
                        ⟨2, [60], [], some 61, .any, none⟩,
                        ⟨3, [61], [], some 62, .any, none⟩,
                        ⟨4, [62], [], some 63, .any, none⟩,
                        ⟨5, [63], [], some 64, .any, none⟩,
                        ⟨6, [63], [], some 65, .any, none⟩,
                        ⟨7, [63], [], some 66, .any, none⟩,
                        ⟨8, [63], [], some 67, .any, none⟩,
                        ⟨9, [63, 67], [], some 68, .any, none⟩,
                        ⟨10, [68], [], some 69, .any, none⟩,
                        ⟨11, [69], [], some 70, .any, none⟩,
                        ⟨12, [69], [], some 71, .any, none⟩,
                        ⟨13, [69], [], some 72, .any, none⟩,
                        ⟨14, [69], [], some 73, .any, none⟩,
                        ⟨15, [69], [], some 74, .any, none⟩,
                        ⟨16, [69], [], some 75, .any, none⟩,
                        ⟨17, [69], [], some 76, .any, none⟩,
                        ⟨18, [69], [], some 77, .any, none⟩,
                        ⟨19, [69], [], some 78, .any, none⟩,
                        ⟨20, [69, 78], [], some 79, .any, none⟩,
                        ⟨21, [79], [], some 4, .any, none⟩]
                    mixed_ok rfl (by kernel_rfl) ⟨DS.ok_over fun s0 => OpAt.go rfl rfl (q_fa),
                        DS.ok_over fun s0 => OpAt.go rfl rfl (q_load),
                        DS.ok_over fun s0 => OpAt.go rfl rfl (q_len),
                        DS.ok_over fun s0 => OpAt.go rfl rfl ((OpOk.dec_f (q_eql) (h1))),
                        DS.ok_over fun s0 => OpAt.go rfl rfl (q_move),
                        DS.ok_over fun s0 => OpAt.gskip rfl rfl rfl rfl rfl rfl rfl rfl,
                        DS.ok_over fun s0 => OpAt.gskip rfl rfl rfl rfl rfl rfl rfl rfl,
                        DS.ok_over fun s0 => OpAt.gskip rfl rfl rfl rfl rfl rfl rfl rfl,
                        DS.ok_over fun s0 => OpAt.gskip rfl rfl rfl rfl rfl rfl rfl rfl,
                        DS.ok_over fun s0 => OpAt.go rfl rfl (q_pick),
                        DS.ok_over fun s0 => OpAt.go rfl rfl (q_move),
                        DS.ok_over fun s0 => OpAt.gskip rfl rfl rfl rfl rfl rfl rfl rfl,
                        DS.ok_over fun s0 => OpAt.gskip rfl rfl rfl rfl rfl rfl rfl rfl,
                        DS.ok_over fun s0 => OpAt.gskip rfl rfl rfl rfl rfl rfl rfl rfl,
                        DS.ok_over fun s0 => OpAt.gskip rfl rfl rfl rfl rfl rfl rfl rfl,
                        DS.ok_over fun s0 => OpAt.gskip rfl rfl rfl rfl rfl rfl rfl rfl,
                        DS.ok_over fun s0 => OpAt.gskip rfl rfl rfl rfl rfl rfl rfl rfl,
                        DS.ok_over fun s0 => OpAt.gskip rfl rfl rfl rfl rfl rfl rfl rfl,
                        DS.ok_over fun s0 => OpAt.gskip rfl rfl rfl rfl rfl rfl rfl rfl,
                        DS.ok_over fun s0 => OpAt.gskip rfl rfl rfl rfl rfl rfl rfl rfl,
                        DS.ok_over fun s0 => OpAt.go rfl rfl (q_pick),
                        DS.ok_over fun s0 => OpAt.go rfl rfl (q_assign), trivial⟩ ?_
                  dsimp only [final, DS.upd, AS.seto]
                  refine AWp.ret ?_
                  show Fin te Try.f31 _ _
                  refine q_ret (0) [_] [_] ?_
                  exact congrArg tf (by simp [prB, ansB, okB, *])
              · skip
                refine AOps.gcons rfl rfl rfl rfl rfl (q_not) ?_
                refine AOps.cons rfl rfl (q_pick) ?_
                refine AOps.nil ?_
                refine AWp.cond_t rfl ?_
                refine AWp.seq ?_
                refine AWp.region ?_
                refine AOps.cons rfl rfl (q_assign) ?_
                refine AOps.nil ?_
                refine AWp.ret ?_
                show Fin te Try.f31 _ _
                refine q_ret (0) [_] [_] ?_
                exact congrArg tf (by simp [prB, ansB, okB, *])
            · skip
              refine AOps.gcons rfl rfl rfl rfl rfl (q_not) ?_
              refine AOps.cons rfl rfl (q_pick) ?_
              refine AOps.cons rfl rfl (q_move) ?_
              refine AOps.gskip rfl rfl rfl rfl rfl rfl rfl rfl ?_
              refine AOps.gskip rfl rfl rfl rfl rfl rfl rfl rfl ?_
              refine AOps.gskip rfl rfl rfl rfl rfl rfl rfl rfl ?_
              refine AOps.gskip rfl rfl rfl rfl rfl rfl rfl rfl ?_
              refine AOps.cons rfl rfl (q_pick) ?_
              refine AOps.nil ?_
              refine AWp.cond_t rfl ?_
              refine AWp.seq ?_
              refine AWp.region ?_
              refine AOps.cons rfl rfl (q_assign) ?_
              refine AOps.nil ?_
              refine AWp.ret ?_
              show Fin te Try.f31 _ _
              refine q_ret (0) [_] [_] ?_
              exact congrArg tf (by simp [prB, ansB, okB, *])

set_option maxRecDepth 20000 in
set_option maxHeartbeats 2000000 in
theorem c_ciceroneref24_Paired (l : List Ev) (lv : Nat) (h : EvsOk l) : AC Try.prog 13 [.fz lv l.length (cl evC l)] emp (Ret (tf (prd l))) := by
  obtain ⟨hb, hm⟩ := id h
  refine AC.intro te_ok (fn := Try.f13) ⟨Try.func13, rfl, rfl⟩ (Nat.le_of_ble_eq_true rfl) ?_
  refine AWp.seq ?_
  refine AWp.region ?_
  refine AOps.cons rfl rfl (q_assign) ?_
  refine AOps.nil ?_
  refine AWp.seq ?_
  refine AWp.region ?_
  refine AOps.cons rfl rfl (q_move) ?_
  refine AOps.cons rfl rfl (q_len) ?_
  refine AOps.cons rfl rfl (q_make 202 tc false l.length) ?_
  refine AOps.cons rfl rfl (q_assign) ?_
  refine AOps.nil ?_
  refine AWp.seq ?_
  refine AWp.seq ?_
  refine AWp.region ?_
  refine AOps.cons rfl rfl (q_move) ?_
  refine AOps.cons rfl rfl (q_len) ?_
  refine AOps.cons rfl rfl (q_move) ?_
  refine AOps.nil ?_
  refine AWp.block ?_
  refine AWp.loopR (α := Nat × List Bool) [2, 3, 4, 5, 6, 7, 13, 14, 15, 16, 17, 18, 19, 20, 21, 22, 23, 24, 25, 26, 27, 28, 29, 30, 31, 32, 33, 34, 35, 36, 37, 38, 39, 40, 41, 42, 43, 44, 45, 46] (fun x_ => [(13, i64 (x_.1)), (3, .sl 202 0 0 (x_.2).length 1)]) (fun x_ => [(202, .row (cl tc (x_.2)) 1 0)]) (fun x_ => (x_.1) ≤ l.length ∧ (x_.2).length = l.length ∧ prdF l (l.length - (x_.1)) (x_.1) (x_.2) = prd l) (fun x_ => l.length - (x_.1)) (0, List.replicate l.length false) ?_ (Back.mk' (HasT.cons (HasT.cons HasT.nil)) (HasH.cons HasH.nil)) ?_
  · exact ⟨Nat.zero_le _, by simp, rfl⟩
  · rintro ⟨i, done⟩ hI3
    change i ≤ l.length ∧ done.length = l.length ∧ prdF l (l.length - i) i done = prd l at hI3
    obtain ⟨hi, hd, hp⟩ := hI3
    refine AWp.as (s' := AS.over _ [2, 3, 4, 5, 6, 7, 13, 14, 15, 16, 17, 18, 19, 20, 21, 22, 23, 24, 25, 26, 27, 28, 29, 30, 31, 32, 33, 34, 35, 36, 37, 38, 39, 40, 41, 42, 43, 44, 45, 46] [(13, i64 i), (3, .sl 202 0 0 done.length 1)] [(202, .row (cl tc done) 1 0)]) rfl ?_
    refine AWp.seq ?_
    refine AWp.region ?_
    refine AOps.dec rfl rfl (q_lss) (fun h3_0 => ?_) (fun h3_0 => ?_)
    · skip
      refine AOps.nil ?_
      refine AWp.seq ?_
      refine AWp.cond_t rfl ?_
      refine AWp.skip ?_
      refine AWp.seq ?_
      refine AWp.block ?_
      refine AWp.seq ?_
      refine AWp.region ?_
      have hsub : l.length - i = (l.length - (i + 1)) + 1 := by omega
      have hmi : MsgOk (l.getD i default).m := hm _ (getD_mem (by omega))
      refine AOps.cons rfl rfl (q_move) ?_
      refine AOps.cons rfl rfl (q_ix) ?_
      refine AOps.cons rfl rfl (q_load) ?_
      refine AOps.cons rfl rfl (q_alloc 503) ?_
      refine AOps.cons rfl rfl (q_assign) ?_
      refine AOps.cons rfl rfl (q_store) ?_
      refine AOps.nil ?_
      refine AWp.seq ?_
      refine AWp.seq ?_
      refine AWp.region ?_
      refine AOps.cons rfl rfl (q_fa) ?_
      refine AOps.bool rfl rfl (q_load) (fun h5_1 => ?_) (fun h5_1 => ?_)
      · skip
        refine AOps.cons rfl rfl (q_not) ?_
        refine AOps.nil ?_
        refine AWp.cond_f rfl ?_
        refine AWp.skip ?_
        refine AWp.seq ?_
        refine AWp.region ?_
        refine AOps.cons rfl rfl (q_assign) ?_
        refine AOps.nil ?_
        refine AWp.seq ?_
        refine AWp.seq ?_
        refine AWp.region ?_
        refine AOps.cons rfl rfl (q_move) ?_
        refine AOps.cons rfl rfl (q_sub) ?_
        refine AOps.cons rfl rfl (q_assign) ?_
        refine AOps.nil ?_
        refine AWp.block ?_
        refine AWp.loopR (α := Nat × Int) [6, 7, 23, 24, 25, 26, 27, 28, 29, 30, 31, 32, 33, 34, 35, 36, 37, 38, 39, 40] (fun x_ => [(7, i64 (((x_.1) : Int) - 1)), (6, i64 (x_.2))]) (fun x_ => []) (fun x_ => (x_.1) ≤ i ∧ (x_.2) < i ∧ FoundB l done (l.getD i default) i (x_.1) (x_.2)) (fun x_ => (x_.1)) (i, -1) ?_ (Back.mk' (HasT.cons (HasT.cons HasT.nil) (h1 := by exact i64_eq (by omega)) ) HasH.nil) ?_
        · exact ⟨Nat.le_refl _, by omega, FoundB.start⟩
        · rintro ⟨j, k⟩ hI8
          change j ≤ i ∧ k < i ∧ FoundB l done (l.getD i default) i j k at hI8
          obtain ⟨hj, hk, hF⟩ := hI8
          refine AWp.as (s' := AS.over _ [6, 7, 23, 24, 25, 26, 27, 28, 29, 30, 31, 32, 33, 34, 35, 36, 37, 38, 39, 40] [(7, i64 ((j : Int) - 1)), (6, i64 k)] []) rfl ?_
          refine AWp.seq ?_
          refine AWp.seq ?_
          refine AWp.region ?_
          refine AOps.cons rfl rfl (q_move) ?_
          refine AOps.dec rfl rfl (q_geq) (fun h8_1 => ?_) (fun h8_1 => ?_)
          · skip
            refine AOps.nil ?_
            refine AWp.cond_t rfl ?_
            refine AWp.skip ?_
            refine AWp.seq ?_
            refine AWp.block ?_
            refine AWp.seq ?_
            obtain ⟨e, rfl⟩ : ∃ e, j = e + 1 := ⟨j - 1, by omega⟩
            have he1 : (((e + 1 : Nat) : Int) - 1) = (e : Int) := by omega
            rw [he1]
            have hme : MsgOk (l.getD e default).m := hm _ (getD_mem (by omega))
            rcases em3b (done.getD e false) (prB (l.getD e default) (l.getD i default)) with h1 | ⟨h1, h2⟩ | ⟨h1, h2⟩
            · skip
              refine AWp.draws [⟨0, [3], [], some 27, _, none⟩,
                  ⟨1, [7], [], some 28, _, none⟩,
                  ⟨2, [27, 28], [202], some 29, _, none⟩,
                  ⟨3, [29], [202], some 30, _, none⟩,
                  ⟨4, [30], [], some 31, _, none⟩,
                  ⟨5, [31], [], some 32, _, none⟩,
                  ⟨6, [32], [], some 33, .v undef, none⟩,
                  ⟨7, [32], [], some 34, .v undef, none⟩,
                  ⟨8, [32], [], some 35, .v undef, none⟩,
                  ⟨9, [32], [], some 36, .v undef, none⟩,
                  ⟨10, [32], [], some 37, .v undef, none⟩,
                  ⟨11, [32], [], some 38, .v undef, none⟩,
                  ⟨12, [32, 38], [], some 39, _, none⟩]
                [⟨0, [3], [], some 27, .any, none⟩,
                    ⟨1, [7], [], some 28, .any, none⟩,
                    ⟨2, [27, 28], [202], some 29, .any, none⟩,
                    ⟨3, [29], [202], some 30, .any, none⟩,
                    ⟨4, [30], [], some 31, .any, none⟩,
                    ⟨5, [31], [], some 32, .any, none⟩,
                    ⟨6, [32], [], some 33, .any, none⟩,
                    ⟨7, [32], [], some 34, .any, none⟩,
                    ⟨8, [32], [], some 35, .any, none⟩,
                    ⟨9, [32], [], some 36, .any, none⟩,
                    ⟨10, [32], [], some 37, .any, none⟩,
                    ⟨11, [32], [], some 38, .any, none⟩,
                    ⟨12, [32, 38], [], some 39, .any, none⟩]
                mixed_ok rfl (by kernel_rfl) ⟨DS.ok_over fun s0 => OpAt.go rfl rfl (q_move),
                    DS.ok_over fun s0 => OpAt.go rfl rfl (q_move),
                    DS.ok_over fun s0 => OpAt.go rfl rfl (q_ix),
                    DS.ok_over fun s0 => OpAt.go rfl rfl ((OpOk.bool_is (c := true) (q_load) (show done.getD (e : Int).toNat default = true from h1))),
                    DS.ok_over fun s0 => OpAt.go rfl rfl ((OpOk.bool_is (c := false) (q_not) (rfl))),
                    DS.ok_over fun s0 => OpAt.go rfl rfl (q_move),
                    DS.ok_over fun s0 => OpAt.gskip rfl rfl rfl rfl rfl rfl rfl rfl,
                    DS.ok_over fun s0 => OpAt.gskip rfl rfl rfl rfl rfl rfl rfl rfl,
                    DS.ok_over fun s0 => OpAt.gskip rfl rfl rfl rfl rfl rfl rfl rfl,
                    DS.ok_over fun s0 => OpAt.gskip rfl rfl rfl rfl rfl rfl rfl rfl,
                    DS.ok_over fun s0 => OpAt.gskip rfl rfl rfl rfl rfl rfl rfl rfl,
                    DS.ok_over fun s0 => OpAt.gskip rfl rfl rfl rfl rfl rfl rfl rfl,
                    DS.ok_over fun s0 => OpAt.go rfl rfl (q_pick), trivial⟩ ?_
              dsimp only [final, DS.upd, AS.seto]
              refine AWp.cond_f rfl ?_
              refine AWp.skip ?_
              refine AWp.region ?_
              refine AOps.cons rfl rfl (q_move) ?_
              refine AOps.cons rfl rfl (q_sub) ?_
              refine AOps.cons rfl rfl (q_assign) ?_
              refine AOps.nil ?_
              refine ⟨(e, k), ?_, Back.mk' (HasT.cons (HasT.cons HasT.nil) (h1 := by exact i64_eq (by omega)) ) HasH.nil, ?_⟩
              · try dsimp only
                exact ⟨by omega, hk, hF.no (by rw [h1]; rfl)⟩
              · try dsimp only
                first | omega | (simp; omega)
            · skip
              refine AWp.draws [⟨0, [3], [], some 27, _, none⟩,
                  ⟨1, [7], [], some 28, _, none⟩,
                  ⟨2, [27, 28], [202], some 29, _, none⟩,
                  ⟨3, [29], [202], some 30, _, none⟩,
                  ⟨4, [30], [], some 31, _, none⟩,
                  ⟨5, [31], [], some 32, _, none⟩,
                  ⟨6, [0, 32], [], some 33, _, none⟩,
                  ⟨7, [7, 32], [], some 34, _, none⟩,
                  ⟨8, [32, 33, 34], [], some 35, _, none⟩,
                  ⟨9, [32, 35], [], some 36, _, none⟩,
                  ⟨10, [5, 32], [503], some 37, _, none⟩,
                  ⟨11, [32, 36, 37], [], some 38, _, none⟩,
                  ⟨12, [32, 38], [], some 39, _, none⟩]
                [⟨0, [3], [], some 27, .any, none⟩,
                    ⟨1, [7], [], some 28, .any, none⟩,
                    ⟨2, [27, 28], [202], some 29, .any, none⟩,
                    ⟨3, [29], [202], some 30, .any, none⟩,
                    ⟨4, [30], [], some 31, .any, none⟩,
                    ⟨5, [31], [], some 32, .any, none⟩,
                    ⟨6, [0, 32], [], some 33, .any, none⟩,
                    ⟨7, [7, 32], [], some 34, .any, none⟩,
                    ⟨8, [32, 33, 34], [], some 35, .any, none⟩,
                    ⟨9, [32, 35], [], some 36, .any, none⟩,
                    ⟨10, [5, 32], [503], some 37, .any, none⟩,
                    ⟨11, [32, 36, 37], [], some 38, .any, none⟩,
                    ⟨12, [32, 38], [], some 39, .any, none⟩]
                mixed_ok rfl (by kernel_rfl) ⟨DS.ok_over fun s0 => OpAt.go rfl rfl (q_move),
                    DS.ok_over fun s0 => OpAt.go rfl rfl (q_move),
                    DS.ok_over fun s0 => OpAt.go rfl rfl (q_ix),
                    DS.ok_over fun s0 => OpAt.go rfl rfl ((OpOk.bool_is (c := false) (q_load) (show done.getD (e : Int).toNat default = false from h1))),
                    DS.ok_over fun s0 => OpAt.go rfl rfl ((OpOk.bool_is (c := true) (q_not) (rfl))),
                    DS.ok_over fun s0 => OpAt.go rfl rfl (q_move),
                    DS.ok_over fun s0 => OpAt.ggo rfl rfl rfl rfl rfl (q_move),
                    DS.ok_over fun s0 => OpAt.ggo rfl rfl rfl rfl rfl (q_move),
                    DS.ok_over fun s0 => OpAt.ggo rfl rfl rfl rfl rfl (q_ix),
                    DS.ok_over fun s0 => OpAt.ggo rfl rfl rfl rfl rfl (q_load),
                    DS.ok_over fun s0 => OpAt.ggo rfl rfl rfl rfl rfl (q_load),
                    DS.ok_over fun s0 => OpAt.ggo rfl rfl rfl rfl rfl ((OpOk.bool_is (c := true) (q_call (lv) (hc := (c_ciceroneref24_pairs (l.getD e default) (l.getD i default) hme))) (h2))),
                    DS.ok_over fun s0 => OpAt.go rfl rfl (q_pick), trivial⟩ ?_
              dsimp only [final, DS.upd, AS.seto]
              refine AWp.cond_t rfl ?_
              refine AWp.region ?_
              refine AOps.cons rfl rfl (q_move) ?_
              refine AOps.cons rfl rfl (q_assign) ?_
              refine AOps.nil ?_
              refine AWp.region ?_
              refine AOps.cons rfl rfl (q_move) ?_
              refine AOps.cons rfl rfl (q_sub) ?_
              refine AOps.cons rfl rfl (q_assign) ?_
              refine AOps.nil ?_
              refine ⟨(e, (e : Int)), ?_, Back.mk' (HasT.cons (HasT.cons HasT.nil (h1 := by exact i64_eq (by omega)) ) (h1 := by exact i64_eq (by omega)) ) HasH.nil, ?_⟩
              · try dsimp only
                exact ⟨by omega, by omega, FoundB.yes (k := k) (by omega) (by rw [h1, h2]; rfl)⟩
              · try dsimp only
                first | omega | (simp; omega)
            · skip
              refine AWp.draws [⟨0, [3], [], some 27, _, none⟩,
                  ⟨1, [7], [], some 28, _, none⟩,
                  ⟨2, [27, 28], [202], some 29, _, none⟩,
                  ⟨3, [29], [202], some 30, _, none⟩,
                  ⟨4, [30], [], some 31, _, none⟩,
                  ⟨5, [31], [], some 32, _, none⟩,
                  ⟨6, [0, 32], [], some 33, _, none⟩,
                  ⟨7, [7, 32], [], some 34, _, none⟩,
                  ⟨8, [32, 33, 34], [], some 35, _, none⟩,
                  ⟨9, [32, 35], [], some 36, _, none⟩,
                  ⟨10, [5, 32], [503], some 37, _, none⟩,
                  ⟨11, [32, 36, 37], [], some 38, _, none⟩,
                  ⟨12, [32, 38], [], some 39, _, none⟩]
                [⟨0, [3], [], some 27, .any, none⟩,
                    ⟨1, [7], [], some 28, .any, none⟩,
                    ⟨2, [27, 28], [202], some 29, .any, none⟩,
                    ⟨3, [29], [202], some 30, .any, none⟩,
                    ⟨4, [30], [], some 31, .any, none⟩,
                    ⟨5, [31], [], some 32, .any, none⟩,
                    ⟨6, [0, 32], [], some 33, .any, none⟩,
                    ⟨7, [7, 32], [], some 34, .any, none⟩,
                    ⟨8, [32, 33, 34], [], some 35, .any, none⟩,
                    ⟨9, [32, 35], [], some 36, .any, none⟩,
                    ⟨10, [5, 32], [503], some 37, .any, none⟩,
                    ⟨11, [32, 36, 37], [], some 38, .any, none⟩,
                    ⟨12, [32, 38], [], some 39, .any, none⟩]
                mixed_ok rfl (by kernel_rfl) ⟨DS.ok_over fun s0 => OpAt.go rfl rfl (q_move),
                    DS.ok_over fun s0 => OpAt.go rfl rfl (q_move),
                    DS.ok_over fun s0 => OpAt.go rfl rfl (q_ix),
                    DS.ok_over fun s0 => OpAt.go rfl rfl ((OpOk.bool_is (c := false) (q_load) (show done.getD (e : Int).toNat default = false from h1))),
                    DS.ok_over fun s0 => OpAt.go rfl rfl ((OpOk.bool_is (c := true) (q_not) (rfl))),
                    DS.ok_over fun s0 => OpAt.go rfl rfl (q_move),
                    DS.ok_over fun s0 => OpAt.ggo rfl rfl rfl rfl rfl (q_move),
                    DS.ok_over fun s0 => OpAt.ggo rfl rfl rfl rfl rfl (q_move),
                    DS.ok_over fun s0 => OpAt.ggo rfl rfl rfl rfl rfl (q_ix),
                    DS.ok_over fun s0 => OpAt.ggo rfl rfl rfl rfl rfl (q_load),
                    DS.ok_over fun s0 => OpAt.ggo rfl rfl rfl rfl rfl (q_load),
                    DS.ok_over fun s0 => OpAt.ggo rfl rfl rfl rfl rfl ((OpOk.bool_is (c := false) (q_call (lv) (hc := (c_ciceroneref24_pairs (l.getD e default) (l.getD i default) hme))) (h2))),
                    DS.ok_over fun s0 => OpAt.go rfl rfl (q_pick), trivial⟩ ?_
              dsimp only [final, DS.upd, AS.seto]
              refine AWp.cond_f rfl ?_
              refine AWp.skip ?_
              refine AWp.region ?_
              refine AOps.cons rfl rfl (q_move) ?_
              refine AOps.cons rfl rfl (q_sub) ?_
              refine AOps.cons rfl rfl (q_assign) ?_
              refine AOps.nil ?_
              refine ⟨(e, k), ?_, Back.mk' (HasT.cons (HasT.cons HasT.nil) (h1 := by exact i64_eq (by omega)) ) HasH.nil, ?_⟩
              · try dsimp only
                exact ⟨by omega, hk, hF.no (by rw [h1, h2]; rfl)⟩
              · try dsimp only
                first | omega | (simp; omega)
          · skip
            refine AOps.nil ?_
            refine AWp.cond_f rfl ?_
            refine AWp.exit ?_
            refine AWp.seq ?_
            refine AWp.seq ?_
            refine AWp.region ?_
            obtain rfl : j = 0 := by omega
            have hF0 := hF
            refine AOps.cons rfl rfl (q_move) ?_
            refine AOps.dec rfl rfl (q_lss) (fun h12_1 => ?_) (fun h12_1 => ?_)
            · skip
              refine AOps.nil ?_
              refine AWp.cond_t rfl ?_
              refine AWp.seq ?_
              refine AWp.region ?_
              refine AOps.cons rfl rfl (q_assign) ?_
              refine AOps.nil ?_
              refine AWp.ret ?_
              show Fin te Try.f13 _ _
              rw [← hp, hsub, prdF_ref (i := i) h5_1 hF0, if_neg (by omega)]
              refine q_ret (lv) [_] [_] ?_
              rfl
            · skip
              refine AOps.nil ?_
              refine AWp.cond_f rfl ?_
              refine AWp.skip ?_
              refine AWp.region ?_
              refine AOps.cons rfl rfl (q_move) ?_
              refine AOps.cons rfl rfl (q_move) ?_
              refine AOps.cons rfl rfl (q_ix) ?_
              refine AOps.cons rfl rfl (q_store) ?_
              refine AOps.nil ?_
              refine AWp.region ?_
              refine AOps.cons rfl rfl (q_add) ?_
              refine AOps.cons rfl rfl (q_move) ?_
              refine AOps.nil ?_
              refine ⟨(i + 1, done.set k.toNat true), ?_, Back.mk' (HasT.cons (HasT.cons HasT.nil (h1 := by exact sl_eq (by simp)) )) (HasH.cons HasH.nil), ?_⟩
              · try dsimp only
                exact ⟨by omega, by simp [hd], by rw [← hp, hsub, prdF_ref (i := i) h5_1 hF0, if_pos (by omega)]⟩
              · try dsimp only
                first | omega | (simp; omega)
      · skip
        refine AOps.cons rfl rfl (q_not) ?_
        refine AOps.nil ?_
        refine AWp.cond_t rfl ?_
        refine AWp.exit ?_
        refine AWp.region ?_
        refine AOps.cons rfl rfl (q_add) ?_
        refine AOps.cons rfl rfl (q_move) ?_
        refine AOps.nil ?_
        refine ⟨(i + 1, done), ?_, Back.mk' (HasT.cons (HasT.cons HasT.nil)) (HasH.cons HasH.nil), ?_⟩
        · try dsimp only
          exact ⟨by omega, hd, by rw [← hp, hsub, prdF_q (i := i) h5_1]⟩
        · try dsimp only
          first | omega | (simp; omega)
    · skip
      refine AOps.nil ?_
      refine AWp.seq ?_
      refine AWp.cond_f rfl ?_
      refine AWp.exit ?_
      refine AWp.seq ?_
      refine AWp.region ?_
      refine AOps.cons rfl rfl (q_assign) ?_
      refine AOps.nil ?_
      refine AWp.ret ?_
      show Fin te Try.f13 _ _
      obtain rfl : i = l.length := by omega
      rw [← hp, Nat.sub_self]
      refine q_ret (lv) [_] [_] ?_
      rfl

end Go.Proofs.Ytolaeondhhnfoaa.Fw

/- Walk of layer 24's law AuditPairs. -/
set_option linter.unusedVariables false
set_option linter.unusedSimpArgs false
namespace Go.Proofs.Ytolaeondhhnfoaa.Fw
open Go.RowKit


def ev0 : Ev := ⟨true, 0, 0, ⟨⟨0, false, 0, false, false, false, false, 0⟩, [], [], [], []⟩⟩
theorem prd_nil : prd [] = true := rfl
theorem prd_ev0 : prd [ev0] = false := rfl
def askM (m : Msg) : Msg := ⟨⟨m.h.id, true, m.h.op, m.h.aa, m.h.tc, m.h.rd, true, m.h.code⟩, [⟨[0], 1, 1⟩], m.an, m.au, m.ad⟩
def evQ (m : Msg) (s : Int) : Ev := ⟨false, s, 0, askM m⟩
def evR (m : Msg) (s : Int) : Ev := ⟨true, s, 0, askM m⟩
theorem ans_qr (m : Msg) (s : Int) : ansB (evQ m s) (evR m s) = true := by simp [ansB, evQ, evR, askM]
theorem ans_rr (m : Msg) (s : Int) (r : Ev) : ansB (evR m s) r = false := by simp [ansB, evR]
theorem range_one {p : Nat → Bool} : (List.range 1).find? p = if p 0 then some 0 else none := by
  show List.find? p [0] = _
  rw [List.find?_cons]; cases p 0 <;> rfl
theorem range_two {p : Nat → Bool} : (List.range 2).find? p = if p 0 then some 0 else if p 1 then some 1 else none := by
  show List.find? p [0, 1] = _
  rw [List.find?_cons, List.find?_cons]; cases p 0 <;> cases p 1 <;> rfl
theorem prd_two (m : Msg) (s : Int) : prd [evQ m s, evR m s] = true := by
  show prdF [evQ m s, evR m s] 2 0 [false, false] = true
  rw [prdF_q (by rfl)]
  show (if true = true then _ else _) = true
  rw [if_pos rfl]
  show (match (List.range 1).find? (fitB [evQ m s, evR m s] [false, false] (evR m s)) with | none => false | some j => _) = true
  rw [range_one]
  have : fitB [evQ m s, evR m s] [false, false] (evR m s) 0 = true := ans_qr m s
  rw [this]; rfl
theorem prd_one (m : Msg) (s : Int) : prd [evR m s] = false := rfl
theorem prd_three (m : Msg) (s : Int) : prd [evQ m s, evR m s, evR m s] = false := by
  show prdF [evQ m s, evR m s, evR m s] 3 0 [false, false, false] = false
  rw [prdF_q (by rfl)]
  show (if true = true then _ else _) = false
  rw [if_pos rfl]
  show (match (List.range 1).find? (fitB [evQ m s, evR m s, evR m s] [false, false, false] (evR m s)) with | none => false | some j => _) = false
  rw [range_one]
  have h1 : fitB [evQ m s, evR m s, evR m s] [false, false, false] (evR m s) 0 = true := ans_qr m s
  rw [h1]
  show (if true = true then prdF [evQ m s, evR m s, evR m s] 1 2 [true, false, false] else _) = false
  rw [if_pos rfl]
  show (if true = true then _ else _) = false
  rw [if_pos rfl]
  have e : [evQ m s, evR m s, evR m s].getD 2 default = evR m s := rfl
  rw [e, range_two]
  have h2 : fitB [evQ m s, evR m s, evR m s] [true, false, false] (evR m s) 0 = false := rfl
  have h3 : fitB [evQ m s, evR m s, evR m s] [true, false, false] (evR m s) 1 = false := ans_rr m s (evR m s)
  rw [h2, h3]; rfl
theorem EvsOk.take {l : List Ev} (h : EvsOk l) (k : Nat) : EvsOk (l.take k) := ⟨by rw [List.length_take]; have := h.1; omega, fun x hx => h.2 x (List.mem_of_mem_take hx)⟩
theorem evs_nil : EvsOk [] := ⟨by decide, fun x hx => by cases hx⟩
theorem evs_of {l : List Ev} {m : Msg} (hm : MsgOk (askM m)) (hl : l.length ≤ 1000) (h : ∀ x ∈ l, x.m = askM m) : EvsOk l := ⟨by omega, fun x hx => by rw [h x hx]; exact hm⟩
theorem ask_ok {m : Msg} (h : MsgOk m) : MsgOk (askM m) := ⟨by show 1 * 32 ≤ _; decide, h.2⟩

set_option maxRecDepth 20000 in
set_option maxHeartbeats 2000000 in
theorem c_ciceronelaw24_AuditPairs (l : List Ev) (h : EvsOk l) : AC Try.prog 3 [.fz 0 l.length (cl evC l)] emp (Ret (tf true)) := by
  obtain ⟨hb, hm⟩ := id h
  have hk := h.take (min (l.length : Int) 60).toNat
  refine AC.intro te_ok (fn := Try.f3) ⟨Try.func3, rfl, rfl⟩ (Nat.le_of_ble_eq_true rfl) ?_
  refine AWp.seq ?_
  refine AWp.region ?_
  refine AOps.cons rfl rfl (q_assign) ?_
  refine AOps.nil ?_
  refine AWp.seq ?_
  refine AWp.region ?_
  refine AOps.cons rfl rfl (q_move) ?_
  refine AOps.cons rfl rfl (q_move) ?_
  refine AOps.cons rfl rfl (q_len) ?_
  refine AOps.cons rfl rfl (q_min) ?_
  refine AOps.cons rfl rfl (q_sl) ?_
  refine AOps.cons rfl rfl (q_assign) ?_
  refine AOps.nil ?_
  refine AWp.seq ?_
  refine AWp.region ?_
  refine AOps.cons rfl rfl (q_move) ?_
  refine AOps.cons rfl rfl (q_call (0) (hc := (c_audit_Paired (l.take (min (l.length : Int) 60).toNat) 0 hk))) ?_
  refine AOps.cons rfl rfl (q_move) ?_
  refine AOps.cons rfl rfl (q_call (0) (hc := (c_ciceroneref24_Paired (l.take (min (l.length : Int) 60).toNat) 0 hk))) ?_
  refine AOps.cons rfl rfl ((OpOk.bool_is (c := true) (q_beql) (by simp))) ?_
  refine AOps.cons rfl rfl (q_move) ?_
  refine AOps.gcons rfl rfl rfl rfl rfl ((OpOk.bool_is (c := true) (q_call (0) (hc := (c_audit_Paired [] 0 evs_nil))) (prd_nil))) ?_
  refine AOps.cons rfl rfl (q_pick) ?_
  refine AOps.cons rfl rfl (q_move) ?_
  refine AOps.gcons rfl rfl rfl rfl rfl (q_build [(_, _)]) ?_
  refine AOps.weak (Weak.full 0 [] (t := [(16, tf true), (17, .agg (evC ev0))]) (hl := []) (h1 := by exact ⟨lv_ok rfl, lv_agg ⟨lv_ok rfl, lv_ok rfl, lv_ok rfl, lv_ok rfl, lv_ok rfl, lv_ok rfl, lv_ok rfl, lv_ok rfl, lv_ok rfl, lv_ok rfl, lv_ok rfl, lv_nilz, lv_nilz, lv_nilz, lv_nilz, trivial⟩, trivial⟩)) ?_
  refine AOps.gcons rfl rfl rfl rfl rfl (q_bs 310 evC [ev0] [(_, _)]) ?_
  refine AOps.gcons rfl rfl rfl rfl rfl ((OpOk.bool_is (c := false) (q_call (0) (hc := (c_audit_Paired [ev0] 1 ⟨by decide, fun x hx => by simp at hx; subst hx; exact ⟨by decide, ⟨by decide, fun x hx => by cases hx⟩, ⟨by decide, fun x hx => by cases hx⟩, ⟨by decide, fun x hx => by cases hx⟩⟩⟩))) (prd_ev0))) ?_
  refine AOps.gcons rfl rfl rfl rfl rfl (q_not) ?_
  refine AOps.cons rfl rfl (q_pick) ?_
  refine AOps.cons rfl rfl (q_assign) ?_
  refine AOps.nil ?_
  refine AWp.ret ?_
  show Fin te Try.f3 _ _
  refine q_ret (0) [_] [_] ?_
  rfl

set_option maxRecDepth 20000 in
set_option maxHeartbeats 2000000 in
theorem c_ciceronelaw24_AuditOnce (m : Msg) (s : Int) (h : MsgOk m) : AC Try.prog 4 [.agg (msgC m), i64 s] emp (Ret (tf true)) := by
  have hk := ask_ok h
  refine AC.intro te_ok (fn := Try.f4) ⟨Try.func4, rfl, rfl⟩ (Nat.le_of_ble_eq_true rfl) ?_
  refine AWp.seq ?_
  refine AWp.region ?_
  refine AOps.cons rfl rfl (q_box 100) ?_
  refine AOps.cons rfl rfl (q_assign) ?_
  refine AOps.nil ?_
  refine AWp.seq ?_
  refine AWp.region ?_
  refine AOps.cons rfl rfl (q_build [(_, _), (_, _), (_, _)]) ?_
  refine AOps.cons rfl rfl (q_bs 201 quc [⟨[0], 1, 1⟩] [(_, _)]) ?_
  refine AOps.cons rfl rfl (q_fa) ?_
  refine AOps.cons rfl rfl (q_store) ?_
  refine AOps.nil ?_
  refine AWp.seq ?_
  refine AWp.region ?_
  refine AOps.cons rfl rfl (q_fa) ?_
  refine AOps.cons rfl rfl (q_fa) ?_
  refine AOps.cons rfl rfl (q_store) ?_
  refine AOps.cons rfl rfl (q_fa) ?_
  refine AOps.cons rfl rfl (q_fa) ?_
  refine AOps.cons rfl rfl (q_store) ?_
  refine AOps.nil ?_
  refine AWp.seq ?_
  refine AWp.region ?_
  refine AOps.weak (Weak.full 0 [] (t := [(1, i64 s), (2, .ptr 100 0 0)]) (hl := [(100, .box [i64 m.h.id, tf true, i64 m.h.op, tf m.h.aa, tf m.h.tc, tf m.h.rd, tf true, i64 m.h.code, .fz 0 [(⟨[0], 1, 1⟩ : Qu)].length (cl quc [⟨[0], 1, 1⟩]), .fz 0 m.an.length (cl rrc m.an), .fz 0 m.au.length (cl rrc m.au), .fz 0 m.ad.length (cl rrc m.ad)])])) ?_
  refine AOps.cons rfl rfl (q_move) ?_
  refine AOps.cons rfl rfl (q_load) ?_
  refine AOps.cons rfl rfl (q_build [(_, _), (_, _)]) ?_
  refine AOps.cons rfl rfl (q_move) ?_
  refine AOps.cons rfl rfl (q_load) ?_
  refine AOps.cons rfl rfl (q_build [(_, _), (_, _), (_, _)]) ?_
  refine AOps.cons rfl rfl (q_move) ?_
  refine AOps.cons rfl rfl (q_load) ?_
  refine AOps.cons rfl rfl (q_build [(_, _), (_, _), (_, _)]) ?_
  refine AOps.cons rfl rfl (q_bs 409 evC [evQ m s, evR m s, evR m s] [(_, _), (_, _), (_, _)]) ?_
  refine AOps.cons rfl rfl (q_assign) ?_
  refine AOps.nil ?_
  refine AWp.seq ?_
  refine AWp.region ?_
  refine AOps.weak (Weak.full 0 [] (t := [(5, .fz 0 [evQ m s, evR m s, evR m s].length (cl evC [evQ m s, evR m s, evR m s]))]) (hl := [])) ?_
  refine AOps.cons rfl rfl (q_move) ?_
  refine AOps.cons rfl rfl (q_sl (h2 := by simp)) ?_
  refine AOps.cons rfl rfl ((OpOk.bool_is (c := true) (q_call (0) (hc := (c_audit_Paired [evQ m s, evR m s] 0 (evs_of hk (by simp) (by simp [evQ, evR]))))) (prd_two m s))) ?_
  refine AOps.cons rfl rfl (q_move) ?_
  refine AOps.gcons rfl rfl rfl rfl rfl (q_move) ?_
  refine AOps.gcons rfl rfl rfl rfl rfl ((OpOk.bool_is (c := false) (q_call (0) (hc := (c_audit_Paired [evQ m s, evR m s, evR m s] 0 (evs_of hk (by simp) (by simp [evQ, evR]))))) (prd_three m s))) ?_
  refine AOps.gcons rfl rfl rfl rfl rfl (q_not) ?_
  refine AOps.cons rfl rfl (q_pick) ?_
  refine AOps.cons rfl rfl (q_move) ?_
  refine AOps.gcons rfl rfl rfl rfl rfl (q_move) ?_
  refine AOps.gcons rfl rfl rfl rfl rfl (q_sl (h2 := by simp)) ?_
  refine AOps.gcons rfl rfl rfl rfl rfl ((OpOk.bool_is (c := false) (q_call (0) (hc := (c_audit_Paired [evR m s] 0 (evs_of hk (by simp) (by simp [evR]))))) (prd_one m s))) ?_
  refine AOps.gcons rfl rfl rfl rfl rfl (q_not) ?_
  refine AOps.cons rfl rfl (q_pick) ?_
  refine AOps.cons rfl rfl (q_assign) ?_
  refine AOps.nil ?_
  refine AWp.ret ?_
  show Fin te Try.f4 _ _
  refine q_ret (0) [_] [_] ?_
  rfl

end Go.Proofs.Ytolaeondhhnfoaa.Fw

/- Messages as arguments of laws. -/
set_option linter.unusedVariables false
set_option linter.unusedSimpArgs false
namespace Go.Proofs.Ytolaeondhhnfoaa.Fw
open Go.RowKit


section
variable {d : Nat} {s n b u : TypeId} {is in' ib iu : TI}
theorem has_rr {t y : TypeId} {it iy : TI} {cs : List AV} (h : Has te (d + 2) t cs) (ht : te.get t = some it) (kt : it.k = .struct [(0, s), (1, n), (2, n), (3, n), (4, y)]) (hs : te.get s = some is) (ks : is.k = .str) (hn : te.get n = some in') (kn : in'.k = .int .i64)
    (hy : te.get y = some iy) (ky : iy.k = .slice u) (hu : te.get u = some iu) (ku : iu.k = .int .u8) (bu : iu.bytes = 1) : ∃ x : Rr, cs = rrc x ∧ x.da.length ≤ 140737488351232 := by
  obtain ⟨_, w, rfl, q, hh⟩ := has_struct h ht kt
  obtain ⟨a1, rfl, _⟩ := has_str q hs ks
  obtain ⟨_, w, rfl, q, hh⟩ := hh
  obtain ⟨a2, rfl, _⟩ := has_int q hn kn
  obtain ⟨_, w, rfl, q, hh⟩ := hh
  obtain ⟨a3, rfl, _⟩ := has_int q hn kn
  obtain ⟨_, w, rfl, q, hh⟩ := hh
  obtain ⟨a4, rfl, _⟩ := has_int q hn kn
  obtain ⟨_, w, rfl, q, hh⟩ := hh
  obtain ⟨a5, rfl, h5⟩ := has_bytes q hy ky hu ku bu
  cases hh
  exact ⟨⟨a1, a2, a3, a4, a5⟩, rfl, h5⟩
theorem has_qu {t : TypeId} {it : TI} {cs : List AV} (h : Has te (d + 1) t cs) (ht : te.get t = some it) (kt : it.k = .struct [(0, s), (1, n), (2, n)]) (hs : te.get s = some is) (ks : is.k = .str) (hn : te.get n = some in') (kn : in'.k = .int .i64) : ∃ x : Qu, cs = quc x ∧ True := by
  obtain ⟨_, w, rfl, q, hh⟩ := has_struct h ht kt
  obtain ⟨a1, rfl, _⟩ := has_str q hs ks
  obtain ⟨_, w, rfl, q, hh⟩ := hh
  obtain ⟨a2, rfl, _⟩ := has_int q hn kn
  obtain ⟨_, w, rfl, q, hh⟩ := hh
  obtain ⟨a3, rfl, _⟩ := has_int q hn kn
  cases hh
  exact ⟨⟨a1, a2, a3⟩, rfl, trivial⟩
theorem has_rrs {t r y : TypeId} {it ir iy : TI} {cs : List AV} (h : Has te (d + 3) t cs) (ht : te.get t = some it) (kt : it.k = .slice r) (hr : te.get r = some ir) (kr : ir.k = .struct [(0, s), (1, n), (2, n), (3, n), (4, y)]) (br : ir.bytes = 64)
    (hs : te.get s = some is) (ks : is.k = .str) (hn : te.get n = some in') (kn : in'.k = .int .i64) (hy : te.get y = some iy) (ky : iy.k = .slice u) (hu : te.get u = some iu) (ku : iu.k = .int .u8) (bu : iu.bytes = 1) : ∃ l : List Rr, cs = [.fz 0 l.length (cl rrc l)] ∧ RrsOk l := by
  obtain ⟨l, h1, h2, h3⟩ := has_sl (f := rrc) (q := fun x => x.da.length ≤ 140737488351232) h ht kt hr fun c hc => has_rr hc hr kr hs ks hn kn hy ky hu ku bu
  exact ⟨l, h1, by rw [br] at h2; exact h2, h3⟩
theorem has_qus {t r : TypeId} {it ir : TI} {cs : List AV} (h : Has te (d + 2) t cs) (ht : te.get t = some it) (kt : it.k = .slice r) (hr : te.get r = some ir) (kr : ir.k = .struct [(0, s), (1, n), (2, n)]) (br : ir.bytes = 32)
    (hs : te.get s = some is) (ks : is.k = .str) (hn : te.get n = some in') (kn : in'.k = .int .i64) : ∃ l : List Qu, cs = [.fz 0 l.length (cl quc l)] ∧ l.length * 32 ≤ 140737488351232 := by
  obtain ⟨l, h1, h2, h3⟩ := has_sl (f := quc) (q := fun _ => True) h ht kt hr fun c hc => has_qu hc hr kr hs ks hn kn
  exact ⟨l, h1, by rw [br] at h2; exact h2⟩
theorem has_hdr {t : TypeId} {it : TI} {cs : List AV} (h : Has te (d + 1) t cs) (ht : te.get t = some it) (kt : it.k = .struct [(0, n), (1, b), (2, n), (3, b), (4, b), (5, b), (6, b), (7, n)]) (hn : te.get n = some in') (kn : in'.k = .int .i64) (hb : te.get b = some ib) (kb : ib.k = .bool) :
    ∃ x : Hdr, cs = [i64 x.id, tf x.resp, i64 x.op, tf x.aa, tf x.tc, tf x.rd, tf x.ra, i64 x.code] ∧ (-9223372036854775808 ≤ x.id ∧ x.id ≤ 9223372036854775807) ∧ (-9223372036854775808 ≤ x.op ∧ x.op ≤ 9223372036854775807) ∧ (-9223372036854775808 ≤ x.code ∧ x.code ≤ 9223372036854775807) := by
  obtain ⟨_, w, rfl, q, hh⟩ := has_struct h ht kt
  obtain ⟨a1, rfl, b1⟩ := has_int q hn kn
  obtain ⟨_, w, rfl, q, hh⟩ := hh
  obtain ⟨a2, rfl⟩ := has_bool q hb kb
  obtain ⟨_, w, rfl, q, hh⟩ := hh
  obtain ⟨a3, rfl, b3⟩ := has_int q hn kn
  obtain ⟨_, w, rfl, q, hh⟩ := hh
  obtain ⟨a4, rfl⟩ := has_bool q hb kb
  obtain ⟨_, w, rfl, q, hh⟩ := hh
  obtain ⟨a5, rfl⟩ := has_bool q hb kb
  obtain ⟨_, w, rfl, q, hh⟩ := hh
  obtain ⟨a6, rfl⟩ := has_bool q hb kb
  obtain ⟨_, w, rfl, q, hh⟩ := hh
  obtain ⟨a7, rfl⟩ := has_bool q hb kb
  obtain ⟨_, w, rfl, q, hh⟩ := hh
  obtain ⟨a8, rfl, b8⟩ := has_int q hn kn
  cases hh
  exact ⟨⟨a1, a2, a3, a4, a5, a6, a7, a8⟩, rfl, b1, b3, b8⟩
theorem has_msg {t th tq tr r q y : TypeId} {it ith itq itr ir iq iy : TI} {cs : List AV} (h : Has te (d + 4) t cs) (ht : te.get t = some it) (kt : it.k = .struct [(0, th), (8, tq), (9, tr), (10, tr), (11, tr)])
    (hth : te.get th = some ith) (kth : ith.k = .struct [(0, n), (1, b), (2, n), (3, b), (4, b), (5, b), (6, b), (7, n)]) (htq : te.get tq = some itq) (ktq : itq.k = .slice q) (hq : te.get q = some iq) (kq : iq.k = .struct [(0, s), (1, n), (2, n)]) (bq : iq.bytes = 32)
    (htr : te.get tr = some itr) (ktr : itr.k = .slice r) (hr : te.get r = some ir) (kr : ir.k = .struct [(0, s), (1, n), (2, n), (3, n), (4, y)]) (br : ir.bytes = 64)
    (hs : te.get s = some is) (ks : is.k = .str) (hn : te.get n = some in') (kn : in'.k = .int .i64) (hb : te.get b = some ib) (kb : ib.k = .bool) (hy : te.get y = some iy) (ky : iy.k = .slice u) (hu : te.get u = some iu) (ku : iu.k = .int .u8) (bu : iu.bytes = 1) :
    ∃ m : Msg, cs = msgC m ∧ MsgOk m := by
  obtain ⟨_, w, rfl, q1, hh⟩ := has_struct h ht kt
  obtain ⟨a1, rfl, _⟩ := has_hdr q1 hth kth hn kn hb kb
  obtain ⟨_, w, rfl, q1, hh⟩ := hh
  obtain ⟨a2, rfl, b2⟩ := has_qus q1 htq ktq hq kq bq hs ks hn kn
  obtain ⟨_, w, rfl, q1, hh⟩ := hh
  obtain ⟨a3, rfl, b3⟩ := has_rrs q1 htr ktr hr kr br hs ks hn kn hy ky hu ku bu
  obtain ⟨_, w, rfl, q1, hh⟩ := hh
  obtain ⟨a4, rfl, b4⟩ := has_rrs q1 htr ktr hr kr br hs ks hn kn hy ky hu ku bu
  obtain ⟨_, w, rfl, q1, hh⟩ := hh
  obtain ⟨a5, rfl, b5⟩ := has_rrs q1 htr ktr hr kr br hs ks hn kn hy ky hu ku bu
  cases hh
  exact ⟨⟨a1, a2, a3, a4, a5⟩, rfl, b2, b3, b4, b5⟩
end

end Go.Proofs.Ytolaeondhhnfoaa.Fw

/- Events as arguments of laws. -/
set_option linter.unusedVariables false
set_option linter.unusedSimpArgs false
namespace Go.Proofs.Ytolaeondhhnfoaa.Fw
open Go.RowKit


theorem has_evs {d : Nat} {tl e t th tq tr r q y s n b u : TypeId} {itl ie it ith itq itr ir iq iy is in' ib iu : TI} {cs : List AV} (h : Has te (d + 6) tl cs) (htl : te.get tl = some itl) (ktl : itl.k = .slice e) (he : te.get e = some ie) (ke : ie.k = .struct [(0, b), (1, n), (2, n), (3, t)]) (be : ie.bytes = 160)
    (ht : te.get t = some it) (kt : it.k = .struct [(0, th), (8, tq), (9, tr), (10, tr), (11, tr)])
    (hth : te.get th = some ith) (kth : ith.k = .struct [(0, n), (1, b), (2, n), (3, b), (4, b), (5, b), (6, b), (7, n)]) (htq : te.get tq = some itq) (ktq : itq.k = .slice q) (hq : te.get q = some iq) (kq : iq.k = .struct [(0, s), (1, n), (2, n)]) (bq : iq.bytes = 32)
    (htr : te.get tr = some itr) (ktr : itr.k = .slice r) (hr : te.get r = some ir) (kr : ir.k = .struct [(0, s), (1, n), (2, n), (3, n), (4, y)]) (br : ir.bytes = 64)
    (hs : te.get s = some is) (ks : is.k = .str) (hn : te.get n = some in') (kn : in'.k = .int .i64) (hb : te.get b = some ib) (kb : ib.k = .bool) (hy : te.get y = some iy) (ky : iy.k = .slice u) (hu : te.get u = some iu) (ku : iu.k = .int .u8) (bu : iu.bytes = 1) :
    ∃ l : List Ev, cs = [.fz 0 l.length (cl evC l)] ∧ EvsOk l := by
  obtain ⟨l, h1, h2, h3⟩ := has_sl (f := evC) (q := fun x => MsgOk x.m) h htl ktl he fun c hc => by
    obtain ⟨_, w, rfl, q1, hh⟩ := has_struct hc he ke
    obtain ⟨a1, rfl⟩ := has_bool q1 hb kb
    obtain ⟨_, w, rfl, q1, hh⟩ := hh
    obtain ⟨a2, rfl, _⟩ := has_int q1 hn kn
    obtain ⟨_, w, rfl, q1, hh⟩ := hh
    obtain ⟨a3, rfl, _⟩ := has_int q1 hn kn
    obtain ⟨_, w, rfl, q1, hh⟩ := hh
    obtain ⟨m, rfl, hm⟩ := has_msg q1 ht kt hth kth htq ktq hq kq bq htr ktr hr kr br hs ks hn kn hb kb hy ky hu ku bu
    cases hh
    exact ⟨⟨a1, a2, a3, m⟩, by rw [List.append_nil]; rfl, hm⟩
  exact ⟨l, h1, by rw [be] at h2; exact h2, h3⟩

end Go.Proofs.Ytolaeondhhnfoaa.Fw

