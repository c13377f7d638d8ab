/- The texts Q12, W18, Q13, Q14, Q15, W18b, W18c, W18d, W18e, W18f, M18, Q19, L22a, M22, one behind the other: what the walks and plain laws need; conditions stand with each theorem. -/
import Derived.MapKept
import Derived.ScopeJumps
import Derived.Test.YtiojkmccnabmfaaCat2
set_option linter.unusedVariables false
set_option linter.unusedSimpArgs false
set_option linter.unusedSectionVars false
namespace Go.Proofs.Ytiojkmccnabmfaa.Fw
open Go.RowKit
section pure
variable {κ β : Type} [DecidableEq κ]
def mget : List (κ × β) → κ → Option β
  | [], _ => none
  | (a, b) :: m, k => if a = k then some b else mget m k
def mput : List (κ × β) → κ → β → List (κ × β)
  | [], k, v => [(k, v)]
  | (a, b) :: m, k, v => if a = k then (k, v) :: m else (a, b) :: mput m k v
def mdel : List (κ × β) → κ → List (κ × β)
  | [], _ => []
  | (a, b) :: m, k => if a = k then m else (a, b) :: mdel m k
def MNd (m : List (κ × β)) : Prop := (m.map (·.1)).Nodup
theorem mget_put (m : List (κ × β)) (k k' : κ) (v : β) : mget (mput m k v) k' = if k = k' then some v else mget m k' := by
  induction m with
  | nil => simp [mput, mget]
  | cons p m ih =>
    obtain ⟨a, b⟩ := p
    simp only [mput]
    split
    · rename_i h; subst h
      simp only [mget]
      split <;> rfl
    · rename_i h
      simp only [mget, ih]
      by_cases h1 : a = k'
      · subst h1
        rw [if_pos rfl, if_neg (fun e => h e.symm), if_pos rfl]
      · rw [if_neg h1, if_neg h1]
theorem mput_mem {m : List (κ × β)} {k x : κ} {v : β} (h : x ∈ (mput m k v).map (·.1)) : x = k ∨ x ∈ m.map (·.1) := by
  induction m with
  | nil => simp [mput] at h; exact .inl h
  | cons p m ih =>
    obtain ⟨a, b⟩ := p
    simp only [mput] at h
    split at h
    · rename_i e; subst e; exact .inr (by simpa using h)
    · simp only [List.map_cons, List.mem_cons] at h ⊢
      rcases h with h | h
      · exact .inr (.inl h)
      · rcases ih h with h | h
        · exact .inl h
        · exact .inr (.inr h)
theorem MNd.put {m : List (κ × β)} (hn : MNd m) (k : κ) (v : β) : MNd (mput m k v) := by
  induction m with
  | nil => simp [mput, MNd]
  | cons p m ih =>
    obtain ⟨a, b⟩ := p
    have hn' : a ∉ m.map (·.1) ∧ MNd m := by simpa [MNd] using hn
    simp only [mput]
    split
    · rename_i e; subst e; exact hn
    · rename_i e
      show ((a, b) :: mput m k v |>.map (·.1)).Nodup
      rw [List.map_cons, List.nodup_cons]
      refine ⟨fun h => ?_, ih hn'.2⟩
      rcases mput_mem h with h | h
      · exact e h
      · exact hn'.1 h
theorem MNd.nil : MNd ([] : List (κ × β)) := by simp [MNd]
theorem mfind (m : List (κ × β)) (k : κ) : (mget m k = none ∧ (∀ (i : Nat) (q : κ × β), m[i]? = some q → q.1 ≠ k) ∧ (∀ v, mput m k v = m ++ [(k, v)]) ∧ mdel m k = m) ∨
    ∃ j p, m[j]? = some p ∧ p.1 = k ∧ (∀ (i : Nat) (q : κ × β), i < j → m[i]? = some q → q.1 ≠ k) ∧ mget m k = some p.2 ∧ (∀ v, mput m k v = m.set j (k, v)) ∧ mdel m k = m.eraseIdx j := by
  induction m with
  | nil => exact .inl ⟨rfl, by simp, fun v => rfl, rfl⟩
  | cons p m ih =>
    obtain ⟨a, b⟩ := p
    by_cases h : a = k
    · refine .inr ⟨0, (a, b), rfl, h, by simp, by rw [mget, if_pos h], fun v => by rw [mput, if_pos h]; rfl, by rw [mdel, if_pos h]; rfl⟩
    · rcases ih with ⟨h1, h2, h3, h4⟩ | ⟨j, p, h1, h2, h3, h4, h5, h6⟩
      · refine .inl ⟨by rw [mget, if_neg h, h1], fun i q hq => ?_, fun v => by rw [mput, if_neg h, h3]; rfl, by rw [mdel, if_neg h, h4]⟩
        cases i with
        | zero => simp at hq; subst hq; exact h
        | succ i => exact h2 i q (by simpa using hq)
      · refine .inr ⟨j + 1, p, by simpa using h1, h2, fun i q hi hq => ?_, by rw [mget, if_neg h, h4], fun v => by rw [mput, if_neg h, h5]; rfl, by rw [mdel, if_neg h, h6]; rfl⟩
        cases i with
        | zero => simp at hq; subst hq; exact h
        | succ i => exact h3 i q (by omega) (by simpa using hq)
end pure
structure MKey (κ : Type) where
  kv : κ → Value
  d : TypeDesc
  isKey : ∀ k, MapKept.IsKey d (kv k)
  inj : ∀ a b, kv a = kv b → a = b
  same : ∀ k, Instr.sameBits 10000 (kv k) (kv k) = true
def MInt : MKey Int := ⟨fun k => .int .i64 k, .int .i64, fun _ => rfl, fun a b h => by cases h; rfl, fun k => by simp [Instr.sameBits]⟩
def MStr : MKey (List UInt8) := ⟨fun k => .string ⟨⟨k⟩⟩, .string, fun _ => trivial, fun a b h => by cases h; rfl, fun k => MapKept.sameBits_self (d := .string) (show MapKept.IsKey .string (.string ⟨⟨k⟩⟩) from trivial) 10000⟩
theorem findNow_none {d : TypeDesc} {kk : Value} (hk : MapKept.IsKey d kk) : ∀ (l : List MapEntry) (i : Nat), (∀ e ∈ l, MapKept.IsKey d e.key ∧ e.key ≠ kk) → Instr.findNow d kk l i = some none
  | [], _, _ => rfl
  | e :: l, i, h => by
    obtain ⟨r, hr, hiff⟩ := MapKept.sameNow_of_keys hk (h e (by simp)).1
    cases r with
    | true => exact absurd (hiff.1 rfl).symm (h e (by simp)).2
    | false =>
      simp only [Instr.findNow, hr]
      exact findNow_none hk l (i + 1) fun e he => h e (by simp [he])
theorem findNow_some {d : TypeDesc} {kk : Value} (hk : MapKept.IsKey d kk) : ∀ (l : List MapEntry) (i j : Nat) (e : MapEntry), l[j]? = some e → e.key = kk → (∀ i' e', i' < j → l[i']? = some e' → MapKept.IsKey d e'.key ∧ e'.key ≠ kk) →
    Instr.findNow d kk l i = some (some (i + j, e.val))
  | [], _, _, _, h, _, _ => by simp at h
  | x :: l, i, 0, e, h, he, _ => by
    simp at h; subst h
    obtain ⟨r, hr, hiff⟩ := MapKept.sameNow_of_keys hk (he ▸ hk : MapKept.IsKey d x.key)
    have : r = true := hiff.2 he.symm
    subst this
    simp [Instr.findNow, hr]
  | x :: l, i, j + 1, e, h, he, hb => by
    have h0 := hb 0 x (by omega) rfl
    obtain ⟨r, hr, hiff⟩ := MapKept.sameNow_of_keys hk h0.1
    cases r with
    | true => exact absurd (hiff.1 rfl).symm h0.2
    | false =>
      simp only [Instr.findNow, hr]
      have := findNow_some hk l (i + 1) j e (by simpa using h) he fun i' e' hi he' => hb (i' + 1) e' (by omega) (by simpa using he')
      rw [this]
      congr 3; omega
section rules
variable {n : Nat} {s : AS} {o : Oper} {d : Option Tmp} {κ β : Type} [DecidableEq κ]
def me (K : MKey κ) (f : β → AV) (m : List (κ × β)) : List (Value × AV) := m.map fun p => (K.kv p.1, f p.2)
structure MEnts (w : World) (φ : PMap) (Λ : Lent) (K : MKey κ) (f : β → AV) (m : List (κ × β)) (ents : Array MapEntry) : Prop where
  size : ents.size = m.length
  at' : ∀ (j : Nat) p, m[j]? = some p → ∃ e, ents[j]? = some e ∧ e.key = K.kv p.1 ∧ Rep w φ Λ (f p.2) e.val
theorem map_at {w : World} {φ : PMap} {Λ : Lent} {h : Heap} (hs : HSim w φ Λ h) {id : Nat} {K : MKey κ} {f : β → AV} {m : List (κ × β)} (hob : h id = some (.map (me K f m))) :
    ∃ l b ents clock, φ id = some l ∧ l.bo = some (b, 0) ∧ l.ver = 0 ∧ w.heap[b]? = some (.map ents clock) ∧ MEnts w φ Λ K f m ents := by
  obtain ⟨l, hl, b, ents, clock, h1, h2, h3, h4, h5⟩ := hs.heap id _ hob
  refine ⟨l, b, ents, clock, hl, h1, h2, h3, by rw [h4, me, List.length_map], fun j p hp => ?_⟩
  exact h5 j (K.kv p.1, f p.2) (by rw [me, List.getElem?_map, hp]; rfl)
theorem MEnts.key {w : World} {φ : PMap} {Λ : Lent} {K : MKey κ} {f : β → AV} {m : List (κ × β)} {ents : Array MapEntry} (h : MEnts w φ Λ K f m ents) {i : Nat} {e : MapEntry} (he : ents[i]? = some e) : ∃ p, m[i]? = some p ∧ e.key = K.kv p.1 := by
  have hlt : i < m.length := by
    have := (Array.getElem?_eq_some_iff.1 he).1
    rw [← h.size]; exact this
  obtain ⟨e', h1, h2, _⟩ := h.at' i m[i] (List.getElem?_eq_getElem hlt)
  rw [he] at h1; cases h1
  exact ⟨_, List.getElem?_eq_getElem hlt, h2⟩
theorem MEnts.none {w : World} {φ : PMap} {Λ : Lent} {K : MKey κ} {f : β → AV} {m : List (κ × β)} {ents : Array MapEntry} (h : MEnts w φ Λ K f m ents) {k : κ} (hk : ∀ (i : Nat) (q : κ × β), m[i]? = some q → q.1 ≠ k) :
    Instr.findNow K.d (K.kv k) ents.toList 0 = some none := by
  refine findNow_none (K.isKey k) _ 0 fun e he => ?_
  obtain ⟨i, hi, rfl⟩ := List.getElem_of_mem he
  obtain ⟨p, h1, h2⟩ := h.key (i := i) (e := ents.toList[i]) (by rw [← Array.getElem?_toList, List.getElem?_eq_getElem hi])
  rw [h2]
  exact ⟨K.isKey _, fun e => hk i p h1 (K.inj _ _ e)⟩
theorem MEnts.some {w : World} {φ : PMap} {Λ : Lent} {K : MKey κ} {f : β → AV} {m : List (κ × β)} {ents : Array MapEntry} (h : MEnts w φ Λ K f m ents) {k : κ} {j : Nat} {p : κ × β} (h1 : m[j]? = some p) (h2 : p.1 = k) (hk : ∀ (i : Nat) (q : κ × β), i < j → m[i]? = some q → q.1 ≠ k) :
    ∃ e, ents[j]? = some e ∧ e.key = K.kv k ∧ Rep w φ Λ (f p.2) e.val ∧ Instr.findNow K.d (K.kv k) ents.toList 0 = some (some (j, e.val)) := by
  obtain ⟨e, q1, q2, q3⟩ := h.at' j p h1
  refine ⟨e, q1, by rw [q2, h2], q3, ?_⟩
  have := findNow_some (K.isKey k) ents.toList 0 j e (by rw [Array.getElem?_toList, q1]) (by rw [q2, h2]) fun i' e' hi he' => ?_
  · rwa [Nat.zero_add] at this
  · rw [Array.getElem?_toList] at he'
    obtain ⟨p', g1, g2⟩ := h.key he'
    rw [g2]
    exact ⟨K.isKey _, fun e => hk i' p' hi g1 (K.inj _ _ e)⟩
theorem rep_mp {w : World} {φ : PMap} {Λ : Lent} {id : Nat} {l : Loc} {b : Nat} {v : Value} (h : Rep w φ Λ (.mp id 0) v) (hl : φ id = some l) (hv : l.ver = 0) (hb : l.bo = some (b, 0)) : v = .map (some b) := by
  cases h with
  | mp h1 h2 h3 => rw [hl] at h1; cases h1; rw [hb] at h3; cases h3; rfl
  | mpx h1 h2 => rw [hl] at h1; cases h1; omega
def mres (f : β → AV) (z : AV) : Option β → AV
  | some b => f b
  | none => z
theorem mres_tf (x : Option Bool) : mres (fun b => tf b) (tf false) x = tf (x.getD false) := by cases x <;> rfl
theorem mres_int (x : Option Int) : mres (fun b => i64 b) (i64 0) x = i64 (x.getD 0) := by cases x <;> rfl
theorem objIn_me {S : Nat → Bool} {K : MKey κ} {f : β → AV} {m : List (κ × β)} (h : ∀ b, (f b).refs S = true) : ObjIn S (.map (me K f m)) := by
  intro p hp
  rw [me, List.mem_map] at hp
  obtain ⟨q, _, rfl⟩ := hp
  exact h q.2
theorem q_makeMap (id : Nat) (K : MKey κ) (f : β → AV) {t : TypeId} (ho : o.op = .makeMap t none := by exact rfl) (hid : s.h id = none := by exact rfl)
    (hdd : o.dst = d := by conv => lhs; whnf) (hd : d.all (Nat.blt · n) = true := by exact rfl) : OpOk Try.prog n o s ((s.seth id (some (.map (me K f [])))).put d (.mp id 0)) :=
  .chg hdd hd fun Λ w φ a hs => by
    have hc := Chg.alloc hs.hs hid (.map #[] 0) 0 0
    refine ⟨_, _, _, ?_, hc, ?_, .map (some w.heap.size), .inl rfl, .mp (upd_same _ _ _) rfl rfl⟩
    · simp [execOp, ho, Instr.makeMap]
    · exact ⟨w.heap.size, #[], 0, rfl, rfl, (MapKept.heap_alloc w _).1, rfl, fun j p hp => by simp [me] at hp⟩
theorem run_lookup {P : Program} {w : World} {φ : PMap} {Λ : Lent} {K : MKey κ} {f : β → AV} {m : List (κ × β)} {ents : Array MapEntry} {b clock : Nat} {t kt et : TypeId} {z : Value} {k : κ} {ok : Bool} (hu : P.underlying t = some (.map kt et)) (hd : P.underlying kt = some K.d)
    (hz : (zeroValue et).run P w = .ok z w) (hb : w.heap[b]? = some (.map ents clock)) (hm : MEnts w φ Λ K f m ents) {za : AV} (hza : Rep w φ Λ za z) :
    ∃ v, Rep w φ Λ (mres f za (mget m k)) v ∧ (Instr.lookup t (.map (some b)) (K.kv k) ok).run P w = .ok (if ok then .tuple #[v, .bool (mget m k).isSome] else v) w := by
  have hck := MapKept.run_checkKey (w := w) hd (K.isKey k) ents.isEmpty 9999
  rcases mfind m k with ⟨h1, h2, _, _⟩ | ⟨j, p, h1, h2, h3, h4, _, _⟩
  · have hf := MapKept.run_findKey (w := w) hd (hm.none h2)
    refine ⟨z, by rw [h1]; exact hza, ?_⟩
    rw [h1]
    simp [Instr.lookup, run_underlying hu, MapKept.run_getObj_map hb, hck, hf, hz, Result.andThen]
  · obtain ⟨e, e1, e2, e3, e4⟩ := hm.some h1 h2 h3
    have hf := MapKept.run_findKey (w := w) hd e4
    refine ⟨e.val, by rw [h4]; exact e3, ?_⟩
    rw [h4]
    simp [Instr.lookup, run_underlying hu, MapKept.run_getObj_map hb, hck, hf, Result.andThen]
theorem q_lookup {t kt et : TypeId} {x y : Operand} {id : Nat} (K : MKey κ) {f : β → AV} {m : List (κ × β)} {k : κ} {ti tj : TI} {r : AV} (ho : o.op = .lookup t x y false := by exact rfl) (hx : s.ev x = .mp id 0 := by exact rfl) (hy : s.ev y = .v (K.kv k) := by exact rfl)
    (hob : s.h id = some (.map (me K f m)) := by exact rfl) (ht : te.get t = some ti := by exact rfl) (hk : ti.k = .map kt et := by exact rfl) (hkd : Try.prog.underlying kt = some K.d := by exact rfl) (he : te.get et = some tj := by exact rfl) (ha : tj.k.agg = false := by exact rfl)
    (hr : mres f (.v ((tj.zero.map ZC.val).headD undef)) (mget m k) = r := by first | exact mres_tf _ | exact mres_int _ | exact rfl)
    (hdd : o.dst = d := by conv => lhs; whnf) (hd : d.all (Nat.blt · n) = true := by exact rfl) : OpOk Try.prog n o s (s.put d r) :=
  .val hdd hd fun Λ w φ a hs => by
    obtain ⟨l, b, ents, clock, h1, h2, h3, h4, h5⟩ := map_at hs.hs hob
    have hxv := hs.ev x
    rw [hx] at hxv
    have e1 := rep_mp hxv h1 h3 h2
    have e2 := ev_v hs hy
    obtain ⟨z, z1, z2, z3⟩ := (te_ok.tells he).run_zero w
    rw [ha] at z3
    obtain ⟨v, v1, v2⟩ := run_lookup (P := Try.prog) (k := k) (ok := false) ((te_ok.tells ht).map hk) hkd z1 h4 h5 (za := .v ((tj.zero.map ZC.val).headD undef)) (by rw [z3]; exact .v)
    exact ⟨v, by simp [execOp, ho, e1, e2, v2], hr ▸ v1⟩
theorem Chg.map {w : World} {φ : PMap} {Λ : Lent} {h : Heap} (hs : HSim w φ Λ h) {id b : Nat} {l : Loc} {ents : Array MapEntry} {clock : Nat} (hl : φ id = some l) (hbo : l.bo = some (b, 0)) (hb : w.heap[b]? = some (.map ents clock)) (ob : Obj) :
    Chg w φ Λ h id l { w with heap := w.heap.setIfInBounds b ob } where
  hs := hs
  size := by simp
  os := rfl
  tape := rfl
  output := rfl
  other k hk hne := (MapKept.heap_set hb).2 k (hne l b 0 hl hbo)
  loc b' o' h' := by
    rw [hbo] at h'; cases h'
    exact ⟨by have := (Array.getElem?_eq_some_iff.1 hb).1; simpa using this, .inr ⟨l, 0, hl, hbo⟩⟩
  ver l0 h0 := by rw [hl] at h0; cases h0; exact .inl rfl
  sizes l0 h0 _ b0 o0 arr T mm hb0 hh := by
    rw [hl] at h0; cases h0
    rw [hbo] at hb0; cases hb0
    rw [hb] at hh; cases hh
theorem q_mapUpdate {t kt et : TypeId} {x y z : Operand} {id : Nat} (K : MKey κ) {f : β → AV} {m : List (κ × β)} {k : κ} (v : β) {ti : TI} (ho : o.op = .mapUpdate t x y z := by exact rfl) (hx : s.ev x = .mp id 0 := by exact rfl) (hy : s.ev y = .v (K.kv k) := by exact rfl)
    (hob : s.h id = some (.map (me K f m)) := by exact rfl) (hz : s.ev z = f v := by exact rfl) (ht : te.get t = some ti := by exact rfl) (hk : ti.k = .map kt et := by exact rfl) (hkd : Try.prog.underlying kt = some K.d := by exact rfl)
    (hdd : o.dst = d := by conv => lhs; whnf) (hd : d.all (Nat.blt · n) = true := by exact rfl) : OpOk Try.prog n o s ((s.seth id (some (.map (me K f (mput m k v))))).put d (.v undef)) :=
  .chg hdd hd fun Λ w φ a hs => by
    obtain ⟨l, b, ents, clock, h1, h2, h3, h4, h5⟩ := map_at hs.hs hob
    have hxv := hs.ev x
    rw [hx] at hxv
    have e1 := rep_mp hxv h1 h3 h2
    have e2 := ev_v hs hy
    have e3 := hs.ev z
    rw [hz] at e3
    have hu := (te_ok.tells ht).map hk
    have hck := MapKept.run_checkKey (w := w) hkd (K.isKey k) false 9999
    rcases mfind m k with ⟨g1, g2, g3, _⟩ | ⟨j, p, g1, g2, g3, g4, g5, _⟩
    · have hf := MapKept.run_findKey (w := w) hkd (h5.none g2)
      have hc := Chg.map hs.hs h1 h2 h4 (.map (ents.push { key := K.kv k, val := a.eval z, born := clock }) (clock + 1))
      refine ⟨.skip, _, l, ?_, hc, ⟨b, _, _, h2, h3, (MapKept.heap_set h4).1, ?_, fun q r hq => ?_⟩, undef, .inr ⟨rfl, rfl⟩, .v⟩
      · simp [execOp, ho, e1, e2, Instr.mapUpdate, run_underlying hu, MapKept.run_getObj_map h4, hck, hf, Result.andThen, MapKept.run_setObj_map _ h4]
      · rw [g3]; simp [me, h5.size]
      · rw [g3, me, List.getElem?_map, Option.map_eq_some_iff] at hq
        obtain ⟨p, hp, rfl⟩ := hq
        by_cases hlt : q < m.length
        · rw [List.getElem?_append_left hlt] at hp
          obtain ⟨e, q1, q2, q3⟩ := h5.at' q p hp
          exact ⟨e, by rw [Array.getElem?_push, if_neg (by rw [h5.size]; omega)]; exact q1, q2, hc.rep q3⟩
        · rw [List.getElem?_append_right (by omega)] at hp
          have hq0 : q - m.length = 0 := by
            have := (List.getElem?_eq_some_iff.1 hp).1
            simp at this; omega
          rw [hq0] at hp
          simp at hp; subst hp
          exact ⟨{ key := K.kv k, val := a.eval z, born := clock }, by rw [Array.getElem?_push, if_pos (by rw [h5.size]; omega)], rfl, hc.rep e3⟩
    · obtain ⟨e, q1, q2, q3, q4⟩ := h5.some g1 g2 g3
      have hf := MapKept.run_findKey (w := w) hkd q4
      have hc := Chg.map hs.hs h1 h2 h4 (.map (ents.modify j fun e => { e with key := K.kv k, val := a.eval z }) clock)
      refine ⟨.skip, _, l, ?_, hc, ⟨b, _, _, h2, h3, (MapKept.heap_set h4).1, ?_, fun q r hq => ?_⟩, undef, .inr ⟨rfl, rfl⟩, .v⟩
      · simp [execOp, ho, e1, e2, Instr.mapUpdate, run_underlying hu, MapKept.run_getObj_map h4, hck, hf, Result.andThen, MapKept.run_setObj_map _ h4, q1, q2, Instr.keyThatStays, K.same]
      · rw [g5]; simp [me, h5.size]
      · rw [g5, me, List.getElem?_map, Option.map_eq_some_iff] at hq
        obtain ⟨p', hp, rfl⟩ := hq
        rw [List.getElem?_set] at hp
        by_cases hjq : j = q
        · subst hjq
          have hlt := (List.getElem?_eq_some_iff.1 g1).1
          simp [hlt] at hp; subst hp
          exact ⟨{ e with key := K.kv k, val := a.eval z }, by rw [Array.getElem?_modify, if_pos rfl, q1]; rfl, rfl, hc.rep e3⟩
        · rw [if_neg hjq] at hp
          obtain ⟨e', r1, r2, r3⟩ := h5.at' q p' hp
          exact ⟨e', by rw [Array.getElem?_modify, if_neg hjq]; exact r1, r2, hc.rep r3⟩
end rules
end Go.Proofs.Ytiojkmccnabmfaa.Fw


set_option linter.unusedVariables false
set_option linter.unusedSimpArgs false
namespace Go.Proofs.Ytiojkmccnabmfaa.Fw
open Go.RowKit
structure Zo where
  o : List UInt8
  rs : List Rr
  deriving Inhabited, DecidableEq
structure Sv where
  ad : Int
  zs : List Int
  deriving Inhabited, DecidableEq
structure Tr where
  zs : List Zo
  ss : List Sv
  deriving Inhabited
def zoC (z : Zo) : List AV := [str z.o, .fz 0 z.rs.length (cl rrc z.rs)]
def svC (s : Sv) : List AV := [i64 s.ad, .fz 0 s.zs.length (cl ic s.zs)]
def trC (t : Tr) : List AV := [.fz 0 t.zs.length (cl zoC t.zs), .fz 0 t.ss.length (cl svC t.ss)]
def ZoOk (z : Zo) : Prop := z.o.length ≤ 140737488351232 ∧ RrsOk z.rs ∧ ∀ r ∈ z.rs, r.nm.length ≤ 140737488351232
def TrOk (t : Tr) : Prop := t.zs.length * 40 ≤ 140737488351232 ∧ (∀ z ∈ t.zs, ZoOk z) ∧ t.ss.length * 32 ≤ 140737488351232 ∧ ∀ s ∈ t.ss, s.zs.length * 8 ≤ 140737488351232
theorem filter_step {α : Type} [Inhabited α] {p : α → Bool} {l : List α} {i : Nat} (h : i < l.length) : (l.take (i + 1)).filter p = (l.take i).filter p ++ (if p (l.getD i default) then [l.getD i default] else []) := by
  rw [take_step' h, List.filter_append]
  congr 1
  generalize l.getD i default = x
  cases hp : p x <;> simp [List.filter, hp]
theorem filter_yes {α : Type} [Inhabited α] {p : α → Bool} {l : List α} {i : Nat} (h : i < l.length) (hp : p (l.getD i default) = true) : (l.take (i + 1)).filter p = (l.take i).filter p ++ [l.getD i default] := by rw [filter_step h, if_pos hp]
theorem filter_no {α : Type} [Inhabited α] {p : α → Bool} {l : List α} {i : Nat} (h : i < l.length) (hp : p (l.getD i default) = false) : (l.take (i + 1)).filter p = (l.take i).filter p := by rw [filter_step h, hp]; simp
theorem foldl_step {α β : Type} [Inhabited α] {f : β → α → β} {b : β} {l : List α} {i : Nat} (h : i < l.length) : (l.take (i + 1)).foldl f b = f ((l.take i).foldl f b) (l.getD i default) := by
  rw [take_step' h, List.foldl_append]; rfl
theorem filter_len_le {α : Type} (p : α → Bool) (l : List α) (i : Nat) : ((l.take i).filter p).length ≤ l.length := by
  have h1 := List.length_filter_le p (l.take i)
  have h2 := List.length_take (i := i) (l := l)
  omega
def atP (n : List UInt8) (t : Int) (r : Rr) : Bool := decide (r.ty = t) && sameN r.nm n
def atZ (z : Zo) (n : List UInt8) (t : Int) : List Rr := z.rs.filter (atP n t)
def cutP (z : Zo) (n : List UInt8) (r : Rr) : Bool := decide (r.ty = 2) && !sameN r.nm z.o && withN r.nm z.o && withN n r.nm
def cutS (z : Zo) (n : List UInt8) (b : List UInt8) (r : Rr) : List UInt8 := if cutP z n r && (decide (b = []) || decide (cntN r.nm < cntN b)) then r.nm else b
def cutZ (z : Zo) (n : List UInt8) : List UInt8 := z.rs.foldl (cutS z n) []
theorem withN_can {a b : List UInt8} (h : withN a b = true) : canN a = true ∧ canN b = true := by
  unfold withN at h
  simp only [Bool.and_eq_true] at h
  exact ⟨h.1.1.1, h.1.1.2⟩
theorem canN_ne {n : List UInt8} (h : canN n = true) : n ≠ [] := by
  intro e; subst e
  obtain ⟨ls, g, e, _⟩ := canN_iff.1 h
  have := joinN_length ls
  rw [← e] at this; simp at this
theorem withN_ne {a b : List UInt8} (h : withN a b = true) : a ≠ [] := canN_ne (withN_can h).1
theorem cutS_no {z : Zo} {n b : List UInt8} {r : Rr} (h : cutP z n r = false) : cutS z n b r = b := by rw [cutS, h]; rfl
theorem cutS_keep {z : Zo} {n b : List UInt8} {r : Rr} (h : b ≠ []) (h2 : ¬ cntN r.nm < cntN b) : cutS z n b r = b := by rw [cutS, decide_eq_false h, decide_eq_false h2]; simp
theorem cutS_take {z : Zo} {n b : List UInt8} {r : Rr} (h : cutP z n r = true) (h2 : b = [] ∨ cntN r.nm < cntN b) : cutS z n b r = r.nm := by
  rw [cutS, h]; rcases h2 with h2 | h2 <;> simp [h2]
section
variable {z : Zo} {n : List UInt8} {r : Rr}
theorem cutP_no1 (h : ¬ r.ty = 2) : cutP z n r = false := by simp [cutP, h]
theorem cutP_no2 (h : sameN r.nm z.o = true) : cutP z n r = false := by simp [cutP, h]
theorem cutP_no3 (h : withN r.nm z.o = false) : cutP z n r = false := by simp [cutP, h]
theorem cutP_no4 (h : withN n r.nm = false) : cutP z n r = false := by simp [cutP, h]
theorem cutP_yes (h1 : ¬ ¬ r.ty = 2) (h2 : sameN r.nm z.o = false) (h3 : withN r.nm z.o = true) (h4 : withN n r.nm = true) : cutP z n r = true := by
  rw [Decidable.not_not] at h1
  simp [cutP, h1, h2, h3, h4]
end
theorem cut_mem (z : Zo) (n : List UInt8) : ∀ (l : List Rr) (b : List UInt8), l.foldl (cutS z n) b = b ∨ ∃ r ∈ l, l.foldl (cutS z n) b = r.nm ∧ cutP z n r = true
  | [], b => .inl rfl
  | r :: l, b => by
    have h1 := cut_mem z n l (cutS z n b r)
    rw [List.foldl_cons]
    rcases h1 with h1 | ⟨q, h2, h3, h4⟩
    · by_cases hc : (cutP z n r && (decide (b = []) || decide (cntN r.nm < cntN b))) = true
      · right
        refine ⟨r, by simp, ?_, by simp only [Bool.and_eq_true] at hc; exact hc.1⟩
        rw [h1, cutS, if_pos hc]
      · left; rw [h1, cutS, if_neg hc]
    · exact .inr ⟨q, by simp [h2], h3, h4⟩
theorem cutZ_mem {z : Zo} {n : List UInt8} (h : cutZ z n ≠ []) : ∃ r ∈ z.rs, cutZ z n = r.nm ∧ cutP z n r = true := (cut_mem z n z.rs []).resolve_left h
theorem cutZ_len {z : Zo} (hz : ZoOk z) (n : List UInt8) : (cutZ z n).length ≤ 140737488351232 := by
  by_cases h : cutZ z n = []
  · rw [h]; decide
  · obtain ⟨r, h1, h2, _⟩ := cutZ_mem h
    rw [h2]; exact hz.2.2 r h1
theorem cut_take_len {z : Zo} (hz : ZoOk z) (n : List UInt8) (i : Nat) : ((z.rs.take i).foldl (cutS z n) []).length ≤ 140737488351232 := by
  rcases cut_mem z n (z.rs.take i) [] with h | ⟨r, h1, h2, _⟩
  · rw [h]; decide
  · rw [h2]; exact hz.2.2 r (List.mem_of_mem_take h1)
theorem RrsOk.filter {l : List Rr} (h : RrsOk l) (p : Rr → Bool) : RrsOk (l.filter p) := ⟨by have := List.length_filter_le p l; have := h.1; omega, fun x hx => h.2 x (List.mem_filter.1 hx).1⟩
theorem atZ_ok {z : Zo} (hz : ZoOk z) (n : List UInt8) (t : Int) : RrsOk (atZ z n t) := hz.2.1.filter _
theorem at_step_ok {z : Zo} {n : List UInt8} {t : Int} {i : Nat} {acc : List Rr} (ha : acc = (z.rs.take i).filter (atP n t)) : acc.length ≤ i := by
  have h1 := List.length_filter_le (atP n t) (z.rs.take i)
  have h2 := List.length_take_le i z.rs
  rw [ha]; omega
set_option maxRecDepth 20000 in
set_option maxHeartbeats 2000000 in
theorem c_IndexFunc_rr (l : List (Rr)) (lv lv' lw : Nat) (caps : List AV) (g : Rr → Bool) {fid : Nat} (hl : l.length ≤ 140737488351232) (hcaps : AV.oks lw caps = true) (hg : ∀ x ∈ l, AC Try.prog fid (.agg (rrc x) :: caps) emp (Ret (tf (g x)))) : AC Try.prog 52 [.fz lv l.length (cl (rrc) l), .fn (.func fid) [] caps] emp (Ret (i64 (idx g l))) := by
 refine AC.intro te_ok (fn := Try.f52) ⟨Try.func52, rfl, rfl⟩ (Nat.le_of_ble_eq_true rfl) ?_
 refine AWp.seq ?_
 refine AWp.region ?_
 refine AOps.cons rfl rfl (q_assign) ?_
 refine AOps.nil ?_
 refine AWp.seq ?_
 refine AWp.seq ?_
 refine AWp.region ?_
 refine AOps.cons rfl rfl (q_move) ?_
 refine AOps.cons rfl rfl (q_len) ?_
 refine AOps.cons rfl rfl (q_move) ?_
 refine AOps.nil ?_
 refine AWp.block ?_
 refine AWp.loopR (α := Nat) [4, 5, 8, 9, 10, 11, 12, 13, 14, 15, 16, 17, 18] (fun i => [(8, i64 i)]) (fun i => []) (fun i => i ≤ l.length ∧ ∀ x ∈ l.take i, g x = false) (fun i => l.length - i) 0 ?_ (Back.mk' (HasT.cons HasT.nil) HasH.nil) ?_
 ·
  exact ⟨Nat.zero_le _, by simp⟩
 ·
  rintro i ⟨hi, hI⟩
  refine AWp.seq ?_
  refine AWp.region ?_
  refine AOps.dec rfl rfl (q_lss) (fun h2_0 => ?_) (fun h2_0 => ?_)
  ·
   refine AOps.nil ?_
   refine AWp.seq ?_
   refine AWp.cond_t rfl ?_
   refine AWp.skip ?_
   refine AWp.seq ?_
   refine AWp.block ?_
   refine AWp.seq ?_
   refine AWp.region ?_
   refine AOps.cons rfl rfl (q_move) ?_
   refine AOps.cons rfl rfl (q_assign) ?_
   refine AOps.nil ?_
   refine AWp.seq ?_
   refine AWp.region ?_
   refine AOps.cons rfl rfl (q_move) ?_
   refine AOps.cons rfl rfl (q_move) ?_
   refine AOps.cons rfl rfl (q_move) ?_
   refine AOps.cons rfl rfl (q_ix) ?_
   refine AOps.cons rfl rfl (q_load) ?_
   refine AOps.bool rfl rfl (q_call (lv + lv' + lw) (hA := by exact fvs_caps (l := lw) (fv_okb rfl (by first | rfl | exact ble_of (by omega) | (simp [AV.ok, AV.oks]; done))) (by omega) hcaps) (hc := (hg _ (getD_mem (i := i) (by omega))))) (fun h4_5 => ?_) (fun h4_5 => ?_)
   ·
    refine AOps.nil ?_
    refine AWp.cond_t rfl ?_
    refine AWp.seq ?_
    refine AWp.region ?_
    refine AOps.cons rfl rfl (q_move) ?_
    refine AOps.cons rfl rfl (q_assign) ?_
    refine AOps.nil ?_
    refine AWp.ret ?_
    show Fin te Try.f52 _ _
    refine q_ret (0) [_] [_] ?_
    exact i64_eq (idx_at (by omega) hI h4_5).symm
   ·
    refine AOps.nil ?_
    refine AWp.cond_f rfl ?_
    refine AWp.skip ?_
    refine AWp.region ?_
    refine AOps.cons rfl rfl (q_add) ?_
    refine AOps.cons rfl rfl (q_move) ?_
    refine AOps.nil ?_
    refine ⟨i + 1, ?_, Back.mk' (HasT.cons HasT.nil) HasH.nil, ?_⟩
    ·
     exact ⟨by omega, idx_step (by omega) hI h4_5⟩
    ·
     first | omega | (simp; omega)
  ·
   refine AOps.nil ?_
   refine AWp.seq ?_
   refine AWp.cond_f rfl ?_
   refine AWp.exit ?_
   refine AWp.seq ?_
   refine AWp.region ?_
   refine AOps.cons rfl rfl (q_assign) ?_
   refine AOps.nil ?_
   refine AWp.ret ?_
   show Fin te Try.f52 _ _
   refine q_ret (0) [_] [_] ?_
   exact i64_eq (idx_none (by rwa [List.take_of_length_le (by omega)] at hI)).symm
set_option maxRecDepth 20000 in
set_option maxHeartbeats 2000000 in
theorem c_ContainsFunc_rr (l : List (Rr)) (lv lv' lw : Nat) (caps : List AV) (g : Rr → Bool) {fid : Nat} (hl : l.length ≤ 140737488351232) (hcaps : AV.oks lw caps = true) (hg : ∀ x ∈ l, AC Try.prog fid (.agg (rrc x) :: caps) emp (Ret (tf (g x)))) : AC Try.prog 27 [.fz lv l.length (cl (rrc) l), .fn (.func fid) [] caps] emp (Ret (tf (l.any g))) := by
 refine AC.intro te_ok (fn := Try.f27) ⟨Try.func27, rfl, rfl⟩ (Nat.le_of_ble_eq_true rfl) ?_
 refine AWp.seq ?_
 refine AWp.region ?_
 refine AOps.cons rfl rfl (q_assign) ?_
 refine AOps.nil ?_
 refine AWp.seq ?_
 refine AWp.region ?_
 refine AOps.cons rfl rfl (q_move) ?_
 refine AOps.cons rfl rfl (q_move) ?_
 refine AOps.cons rfl rfl (q_call (lv + lv' + lw) (hA := by exact ⟨fv_okb rfl (ble_of (by omega)), fv_okb (b := .fn (.func fid) [] caps) rfl (by simp [AV.ok, AV.oks, AV.oks_mono (show lw ≤ lv + lv' + lw by omega) hcaps]), trivial⟩) (hc := (c_IndexFunc_rr l lv lv' lw caps g hl hcaps hg))) ?_
 refine AOps.cons rfl rfl (q_geq) ?_
 refine AOps.cons rfl rfl (q_assign) ?_
 refine AOps.nil ?_
 refine AWp.ret ?_
 show Fin te Try.f27 _ _
 refine q_ret (0) [_] [_] ?_
 exact congrArg tf idx_any
set_option maxRecDepth 20000 in
set_option maxHeartbeats 2000000 in
theorem c_zone_own (l : List Rr) (lv : Nat) (h : RrsOk l) : AC Try.prog 56 [.fz lv l.length (cl rrc l)] emp (Ret (.fz 0 l.length (cl rrc l))) := by
 obtain ⟨hb, hd⟩ := id h
 refine AC.intro te_ok (fn := Try.f56) ⟨Try.func56, rfl, rfl⟩ (Nat.le_of_ble_eq_true rfl) ?_
 refine AWp.seq ?_
 refine AWp.region ?_
 refine AOps.cons rfl rfl (q_nilz (0) rrc) ?_
 refine AOps.nil ?_
 refine AWp.seq ?_
 refine AWp.region ?_
 refine AOps.cons rfl rfl (q_nilrow 200 5 rrc) ?_
 refine AOps.nil ?_
 refine AWp.seq ?_
 refine AWp.seq ?_
 refine AWp.region ?_
 refine AOps.cons rfl rfl (q_move) ?_
 refine AOps.cons rfl rfl (q_len) ?_
 refine AOps.cons rfl rfl (q_move) ?_
 refine AOps.nil ?_
 refine AWp.block ?_
 refine AWp.loopR (α := Nat × List Rr × Nat) [3, 5, 8, 9, 10, 11, 12, 13, 14, 15, 16, 17, 18, 19, 20] (fun x_ => [(8, i64 (x_.1)), (3, .sl 200 (x_.2.2) 0 (x_.2.1).length 5)]) (fun x_ => [(200, .row (cl rrc (x_.2.1)) 5 (x_.2.2))]) (fun x_ => (x_.1) ≤ l.length ∧ (x_.2.1) = l.take (x_.1)) (fun x_ => l.length - (x_.1)) (0, [], 0) ?_ (Back.mk' (HasT.cons (HasT.cons HasT.nil)) (HasH.cons HasH.nil)) ?_
 ·
  exact ⟨Nat.zero_le _, rfl⟩
 ·
  rintro ⟨i, acc, v⟩ hI3
  change i ≤ l.length ∧ acc = l.take i at hI3
  obtain ⟨hi, hacc⟩ := hI3
  refine AWp.as (s' := AS.over _ [3, 5, 8, 9, 10, 11, 12, 13, 14, 15, 16, 17, 18, 19, 20] [(8, i64 i), (3, .sl 200 v 0 acc.length 5)] [(200, .row (cl rrc acc) 5 v)]) rfl ?_
  have hal : acc.length = i := by rw [hacc, List.length_take]; omega
  refine AWp.seq ?_
  refine AWp.region ?_
  refine AOps.dec rfl rfl (q_lss) (fun h3_0 => ?_) (fun h3_0 => ?_)
  ·
   refine AOps.nil ?_
   refine AWp.seq ?_
   refine AWp.cond_t rfl ?_
   refine AWp.skip ?_
   refine AWp.seq ?_
   refine AWp.block ?_
   refine AWp.seq ?_
   refine AWp.region ?_
   have hdi : (l.getD i default).da.length ≤ 140737488351232 := hd _ (getD_mem' (by omega))
   refine AOps.cons rfl rfl (q_ix) ?_
   refine AOps.cons rfl rfl (q_load) ?_
   refine AOps.cons rfl rfl (q_alloc 502) ?_
   refine AOps.cons rfl rfl (q_store) ?_
   refine AOps.nil ?_
   refine AWp.seq ?_
   refine AWp.region ?_
   refine AOps.cons rfl rfl (q_fa) ?_
   refine AOps.cons rfl rfl (q_load) ?_
   refine AOps.cons rfl rfl (q_call (0) (hc := c_bytes_Clone _ _ (by first | assumption | omega | decide | (simp; omega) | (simp [*]; done)))) ?_
   refine AOps.cons rfl rfl (q_fa) ?_
   refine AOps.cons rfl rfl (q_store) ?_
   refine AOps.nil ?_
   refine AWp.region ?_
   refine AOps.cons rfl rfl (q_move) ?_
   refine AOps.cons rfl rfl (q_load) ?_
   refine AOps.cons rfl rfl (q_bs 702 rrc [_] [(_, _)]) ?_
   refine AOps.cons rfl rfl (q_app) ?_
   refine AOps.cons rfl rfl (q_assign) ?_
   refine AOps.nil ?_
   refine AWp.region ?_
   refine AOps.cons rfl rfl (q_add) ?_
   refine AOps.cons rfl rfl (q_move) ?_
   refine AOps.nil ?_
   refine ⟨(i + 1, _, _), ?_, Back.mk' (HasT.cons (HasT.cons HasT.nil)) (HasH.cons HasH.nil), ?_⟩
   ·
    try dsimp only
    exact ⟨by omega, by rw [take_step' (by omega), ← hacc]; rfl⟩
   ·
    try dsimp only
    first | omega | (simp; omega)
  ·
   refine AOps.nil ?_
   refine AWp.seq ?_
   refine AWp.cond_f rfl ?_
   refine AWp.exit ?_
   refine AWp.seq ?_
   refine AWp.region ?_
   refine AOps.cons rfl rfl (q_move) ?_
   refine AOps.cons rfl rfl (q_assign) ?_
   refine AOps.nil ?_
   refine AWp.ret ?_
   show Fin te Try.f56 _ _
   obtain rfl : acc = l := by rw [hacc, List.take_of_length_le (by omega)]
   refine q_ret (0) [_] [_] ?_
   rfl
set_option maxRecDepth 20000 in
set_option maxHeartbeats 2000000 in
theorem c_zone_at_1 (r : Rr) (n : List UInt8) (t : Int) (lv : Nat) (hr : r.nm.length ≤ 140737488351232) (hn : n.length ≤ 140737488351232) : AC Try.prog 55 [.agg (rrc r), .fp lv [i64 t], .fp lv [str n]] emp (Ret (tf (atP n t r))) := by
 refine AC.intro te_ok (fn := Try.f55) ⟨Try.func55, rfl, rfl⟩ (Nat.le_of_ble_eq_true rfl) ?_
 refine AWp.seq ?_
 refine AWp.region ?_
 refine AOps.cons rfl rfl (q_box 100) ?_
 refine AOps.cons rfl rfl (q_assign) ?_
 refine AOps.nil ?_
 refine AWp.seq ?_
 refine AWp.region ?_
 refine AOps.cons rfl rfl (q_fa) ?_
 refine AOps.cons rfl rfl (q_load) ?_
 refine AOps.cons rfl rfl (q_load) ?_
 refine AOps.dec rfl rfl (q_eql) (fun h1_3 => ?_) (fun h1_3 => ?_)
 ·
  refine AOps.cons rfl rfl (q_move) ?_
  refine AOps.gcons rfl rfl rfl rfl rfl (q_fa) ?_
  refine AOps.gcons rfl rfl rfl rfl rfl (q_load) ?_
  refine AOps.gcons rfl rfl rfl rfl rfl (q_load) ?_
  refine AOps.gcons rfl rfl rfl rfl rfl (q_call (0) (hc := (c_name_Same r.nm n (by omega) (by omega)))) ?_
  refine AOps.cons rfl rfl (q_pick) ?_
  refine AOps.cons rfl rfl (q_assign) ?_
  refine AOps.nil ?_
  refine AWp.ret ?_
  show Fin te Try.f55 _ _
  refine q_ret (0) [_] [_] ?_
  exact congrArg tf (by simp [atP, *])
 ·
  refine AOps.cons rfl rfl (q_move) ?_
  refine AOps.gskip rfl rfl rfl rfl rfl rfl rfl rfl ?_
  refine AOps.gskip rfl rfl rfl rfl rfl rfl rfl rfl ?_
  refine AOps.gskip rfl rfl rfl rfl rfl rfl rfl rfl ?_
  refine AOps.gskip rfl rfl rfl rfl rfl rfl rfl rfl ?_
  refine AOps.cons rfl rfl (q_pick) ?_
  refine AOps.cons rfl rfl (q_assign) ?_
  refine AOps.nil ?_
  refine AWp.ret ?_
  show Fin te Try.f55 _ _
  refine q_ret (0) [_] [_] ?_
  exact congrArg tf (by simp [atP, *])
set_option maxRecDepth 20000 in
set_option maxHeartbeats 2000000 in
theorem c_zone_at (z : Zo) (n : List UInt8) (t : Int) (hz : ZoOk z) (hn : n.length ≤ 140737488351232) : AC Try.prog 30 [.agg (zoC z), str n, i64 t] emp (Ret (.fz 0 (atZ z n t).length (cl rrc (atZ z n t)))) := by
 have hrl : z.rs.length * 64 ≤ 140737488351232 := hz.2.1.1
 have hol := hz.1
 refine AC.intro te_ok (fn := Try.f30) ⟨Try.func30, rfl, rfl⟩ (Nat.le_of_ble_eq_true rfl) ?_
 refine AWp.seq ?_
 refine AWp.region ?_
 refine AOps.cons rfl rfl (q_box 100) ?_
 refine AOps.cons rfl rfl (q_box 101) ?_
 refine AOps.cons rfl rfl (q_box 102) ?_
 refine AOps.cons rfl rfl (q_assign) ?_
 refine AOps.nil ?_
 refine AWp.seq ?_
 refine AWp.region ?_
 refine AOps.cons rfl rfl (q_makeFunc [] [_, _]) ?_
 refine AOps.cons rfl rfl (q_assign) ?_
 refine AOps.nil ?_
 refine AWp.seq ?_
 refine AWp.region ?_
 refine AOps.cons rfl rfl (q_nilrow 300 5 rrc) ?_
 refine AOps.nil ?_
 refine AWp.seq ?_
 refine AWp.seq ?_
 refine AWp.region ?_
 refine AOps.cons rfl rfl (q_fa) ?_
 refine AOps.cons rfl rfl (q_load) ?_
 refine AOps.cons rfl rfl (q_len) ?_
 refine AOps.cons rfl rfl (q_move) ?_
 refine AOps.nil ?_
 refine AWp.block ?_
 refine AWp.loopR (α := Nat × List Rr × Nat) [8, 10, 15, 16, 17, 18, 19, 20, 21, 22, 23, 24, 25, 26] (fun x_ => [(15, i64 (x_.1)), (8, .sl 300 (x_.2.2) 0 (x_.2.1).length 5)]) (fun x_ => [(300, .row (cl rrc (x_.2.1)) 5 (x_.2.2))]) (fun x_ => (x_.1) ≤ z.rs.length ∧ (x_.2.1) = (z.rs.take (x_.1)).filter (atP n t)) (fun x_ => z.rs.length - (x_.1)) (0, [], 0) ?_ (Back.mk' (HasT.cons (HasT.cons HasT.nil)) (HasH.cons HasH.nil)) ?_
 ·
  exact ⟨Nat.zero_le _, rfl⟩
 ·
  rintro ⟨i, acc, v⟩ hI4
  change i ≤ z.rs.length ∧ acc = (z.rs.take i).filter (atP n t) at hI4
  obtain ⟨hi, ha⟩ := hI4
  refine AWp.as (s' := AS.over _ [8, 10, 15, 16, 17, 18, 19, 20, 21, 22, 23, 24, 25, 26] [(15, i64 i), (8, .sl 300 v 0 acc.length 5)] [(300, .row (cl rrc acc) 5 v)]) rfl ?_
  have hal := at_step_ok ha
  refine AWp.seq ?_
  refine AWp.region ?_
  refine AOps.dec rfl rfl (q_lss) (fun h4_0 => ?_) (fun h4_0 => ?_)
  ·
   refine AOps.nil ?_
   refine AWp.seq ?_
   refine AWp.cond_t rfl ?_
   refine AWp.skip ?_
   refine AWp.seq ?_
   refine AWp.block ?_
   refine AWp.seq ?_
   refine AWp.region ?_
   have hr := hz.2.2 _ (getD_mem' (l := z.rs) (i := i) (by omega))
   have hrd := hz.2.1.2 _ (getD_mem' (l := z.rs) (i := i) (by omega))
   refine AOps.cons rfl rfl (q_ix) ?_
   refine AOps.cons rfl rfl (q_load) ?_
   refine AOps.cons rfl rfl (q_alloc 602) ?_
   refine AOps.cons rfl rfl (q_store) ?_
   refine AOps.nil ?_
   refine AWp.seq ?_
   refine AWp.region ?_
   refine AOps.cons rfl rfl (q_move) ?_
   refine AOps.cons rfl rfl (q_load) ?_
   refine AOps.bool rfl rfl (q_call (0) (hc := (c_zone_at_1 (z.rs.getD i default) n t 1 hr hn))) (fun h6_2 => ?_) (fun h6_2 => ?_)
   ·
    refine AOps.nil ?_
    refine AWp.cond_t rfl ?_
    refine AWp.region ?_
    refine AOps.cons rfl rfl (q_move) ?_
    refine AOps.cons rfl rfl (q_load) ?_
    refine AOps.cons rfl rfl (q_bs 802 rrc [_] [(_, _)]) ?_
    refine AOps.cons rfl rfl (q_app) ?_
    refine AOps.cons rfl rfl (q_assign) ?_
    refine AOps.nil ?_
    refine AWp.region ?_
    refine AOps.cons rfl rfl (q_add) ?_
    refine AOps.cons rfl rfl (q_move) ?_
    refine AOps.nil ?_
    refine ⟨(i + 1, acc ++ [z.rs.getD i default], v + 1), ?_, Back.mk' (HasT.cons (HasT.cons HasT.nil)) (HasH.cons HasH.nil), ?_⟩
    ·
     try dsimp only
     exact ⟨by omega, by rw [filter_yes (by omega) h6_2, ← ha]⟩
    ·
     try dsimp only
     first | omega | (simp; omega)
   ·
    refine AOps.nil ?_
    refine AWp.cond_f rfl ?_
    refine AWp.skip ?_
    refine AWp.region ?_
    refine AOps.cons rfl rfl (q_add) ?_
    refine AOps.cons rfl rfl (q_move) ?_
    refine AOps.nil ?_
    refine ⟨(i + 1, acc, v), ?_, Back.mk' (HasT.cons (HasT.cons HasT.nil)) (HasH.cons HasH.nil), ?_⟩
    ·
     try dsimp only
     exact ⟨by omega, by rw [filter_no (by omega) h6_2, ← ha]⟩
    ·
     try dsimp only
     first | omega | (simp; omega)
  ·
   refine AOps.nil ?_
   refine AWp.seq ?_
   refine AWp.cond_f rfl ?_
   refine AWp.exit ?_
   refine AWp.seq ?_
   refine AWp.region ?_
   obtain rfl : i = z.rs.length := by omega
   rw [List.take_length] at ha
   obtain rfl : acc = atZ z n t := ha
   refine AOps.cons rfl rfl (q_move) ?_
   refine AOps.cons rfl rfl (q_call (0) (hc := (c_zone_own (atZ z n t) 1 (atZ_ok hz n t)))) ?_
   refine AOps.cons rfl rfl (q_assign) ?_
   refine AOps.nil ?_
   refine AWp.ret ?_
   show Fin te Try.f30 _ _
   refine q_ret (0) [_] [_] ?_
   rfl
set_option maxRecDepth 20000 in
set_option maxHeartbeats 2000000 in
theorem c_zone_cut (z : Zo) (n : List UInt8) (hz : ZoOk z) (hn : n.length ≤ 140737488351232) : AC Try.prog 54 [.agg (zoC z), str n] emp (Ret (.tup [str (cutZ z n), tf (decide (cutZ z n ≠ []))])) := by
 have hrl : z.rs.length * 64 ≤ 140737488351232 := hz.2.1.1
 have hol := hz.1
 refine AC.intro te_ok (fn := Try.f54) ⟨Try.func54, rfl, rfl⟩ (Nat.le_of_ble_eq_true rfl) ?_
 refine AWp.seq ?_
 refine AWp.region ?_
 refine AOps.cons rfl rfl (q_box 100) ?_
 refine AOps.cons rfl rfl (q_assign) ?_
 refine AOps.cons rfl rfl (q_assign) ?_
 refine AOps.nil ?_
 refine AWp.seq ?_
 refine AWp.region ?_
 refine AOps.cons rfl rfl (q_assign) ?_
 refine AOps.cons rfl rfl (q_assign) ?_
 refine AOps.nil ?_
 refine AWp.seq ?_
 refine AWp.seq ?_
 refine AWp.region ?_
 refine AOps.cons rfl rfl (q_fa) ?_
 refine AOps.cons rfl rfl (q_load) ?_
 refine AOps.cons rfl rfl (q_len) ?_
 refine AOps.cons rfl rfl (q_move) ?_
 refine AOps.nil ?_
 refine AWp.block ?_
 refine AWp.loopR (α := Nat × List UInt8) [6, 7, 9, 13, 14, 15, 16, 17, 18, 19, 20, 21, 22, 23, 24, 25, 26, 27, 28, 29, 30, 31, 32, 33, 34, 35, 36, 37, 38, 39, 40, 41, 42, 43, 44, 45, 46, 47, 48, 49, 50, 51, 52, 53, 54] (fun x_ => [(13, i64 (x_.1)), (6, str (x_.2)), (7, tf (decide ((x_.2) ≠ [])))]) (fun x_ => []) (fun x_ => (x_.1) ≤ z.rs.length ∧ (z.rs.take (x_.1)).foldl (cutS z n) [] = (x_.2)) (fun x_ => z.rs.length - (x_.1)) (0, []) ?_ (Back.mk' (HasT.cons (HasT.cons (HasT.cons HasT.nil))) HasH.nil) ?_
 ·
  exact ⟨Nat.zero_le _, rfl⟩
 ·
  rintro ⟨i, b⟩ hI3
  change i ≤ z.rs.length ∧ (z.rs.take i).foldl (cutS z n) [] = b at hI3
  obtain ⟨hi, hb⟩ := hI3
  refine AWp.as (s' := AS.over _ [6, 7, 9, 13, 14, 15, 16, 17, 18, 19, 20, 21, 22, 23, 24, 25, 26, 27, 28, 29, 30, 31, 32, 33, 34, 35, 36, 37, 38, 39, 40, 41, 42, 43, 44, 45, 46, 47, 48, 49, 50, 51, 52, 53, 54] [(13, i64 i), (6, str b), (7, tf (decide (b ≠ [])))] []) rfl ?_
  have hbl := cut_take_len hz n i
  rw [hb] at hbl
  refine AWp.seq ?_
  refine AWp.region ?_
  refine AOps.dec rfl rfl (q_lss) (fun h3_0 => ?_) (fun h3_0 => ?_)
  ·
   refine AOps.nil ?_
   refine AWp.seq ?_
   refine AWp.cond_t rfl ?_
   refine AWp.skip ?_
   refine AWp.seq ?_
   refine AWp.block ?_
   refine AWp.seq ?_
   refine AWp.region ?_
   have hr := hz.2.2 _ (getD_mem' (l := z.rs) (i := i) (by omega))
   have hrd := hz.2.1.2 _ (getD_mem' (l := z.rs) (i := i) (by omega))
   refine AOps.cons rfl rfl (q_ix) ?_
   refine AOps.cons rfl rfl (q_load) ?_
   refine AOps.cons rfl rfl (q_alloc 502) ?_
   refine AOps.cons rfl rfl (q_store) ?_
   refine AOps.nil ?_
   refine AWp.seq ?_
   refine AWp.seq ?_
   refine AWp.region ?_
   refine AOps.cons rfl rfl (q_fa) ?_
   refine AOps.cons rfl rfl (q_load) ?_
   refine AOps.dec rfl rfl (q_neq) (fun h5_2 => ?_) (fun h5_2 => ?_)
   ·
    refine AOps.cons rfl rfl (q_move) ?_
    refine AOps.gskip rfl rfl rfl rfl rfl rfl rfl rfl ?_
    refine AOps.gskip rfl rfl rfl rfl rfl rfl rfl rfl ?_
    refine AOps.gskip rfl rfl rfl rfl rfl rfl rfl rfl ?_
    refine AOps.gskip rfl rfl rfl rfl rfl rfl rfl rfl ?_
    refine AOps.gskip rfl rfl rfl rfl rfl rfl rfl rfl ?_
    refine AOps.cons rfl rfl (q_pick) ?_
    refine AOps.cons rfl rfl (q_move) ?_
    refine AOps.gskip rfl rfl rfl rfl rfl rfl rfl rfl ?_
    refine AOps.gskip rfl rfl rfl rfl rfl rfl rfl rfl ?_
    refine AOps.gskip rfl rfl rfl rfl rfl rfl rfl rfl ?_
    refine AOps.gskip rfl rfl rfl rfl rfl rfl rfl rfl ?_
    refine AOps.gskip rfl rfl rfl rfl rfl rfl rfl rfl ?_
    refine AOps.gskip rfl rfl rfl rfl rfl rfl rfl rfl ?_
    refine AOps.cons rfl rfl (q_pick) ?_
    refine AOps.cons rfl rfl (q_move) ?_
    refine AOps.gskip rfl rfl rfl rfl rfl rfl rfl rfl ?_
    refine AOps.gskip rfl rfl rfl rfl rfl rfl rfl rfl ?_
    refine AOps.gskip rfl rfl rfl rfl rfl rfl rfl rfl ?_
    refine AOps.gskip rfl rfl rfl rfl rfl rfl rfl rfl ?_
    refine AOps.gskip rfl rfl rfl rfl rfl rfl rfl rfl ?_
    refine AOps.cons rfl rfl (q_pick) ?_
    refine AOps.nil ?_
    refine AWp.cond_t rfl ?_
    refine AWp.exit ?_
    refine AWp.region ?_
    refine AOps.cons rfl rfl (q_add) ?_
    refine AOps.cons rfl rfl (q_move) ?_
    refine AOps.nil ?_
    refine ⟨(i + 1, b), ?_, Back.mk' (HasT.cons (HasT.cons (HasT.cons HasT.nil))) HasH.nil, ?_⟩
    ·
     try dsimp only
     exact ⟨by omega, by rw [foldl_step (by omega), hb]; exact cutS_no (cutP_no1 h5_2)⟩
    ·
     try dsimp only
     first | omega | (simp; omega)
   ·
    refine AOps.cons rfl rfl (q_move) ?_
    refine AOps.gcons rfl rfl rfl rfl rfl (q_fa) ?_
    refine AOps.gcons rfl rfl rfl rfl rfl (q_load) ?_
    refine AOps.gcons rfl rfl rfl rfl rfl (q_fa) ?_
    refine AOps.gcons rfl rfl rfl rfl rfl (q_load) ?_
    refine AOps.gbool rfl rfl rfl rfl rfl (q_call (0) (hc := (c_name_Same (z.rs.getD i default).nm z.o (by omega) (by omega)))) (fun h5_8 => ?_) (fun h5_8 => ?_)
    ·
     refine AOps.cons rfl rfl (q_pick) ?_
     refine AOps.cons rfl rfl (q_move) ?_
     refine AOps.gskip rfl rfl rfl rfl rfl rfl rfl rfl ?_
     refine AOps.gskip rfl rfl rfl rfl rfl rfl rfl rfl ?_
     refine AOps.gskip rfl rfl rfl rfl rfl rfl rfl rfl ?_
     refine AOps.gskip rfl rfl rfl rfl rfl rfl rfl rfl ?_
     refine AOps.gskip rfl rfl rfl rfl rfl rfl rfl rfl ?_
     refine AOps.gskip rfl rfl rfl rfl rfl rfl rfl rfl ?_
     refine AOps.cons rfl rfl (q_pick) ?_
     refine AOps.cons rfl rfl (q_move) ?_
     refine AOps.gskip rfl rfl rfl rfl rfl rfl rfl rfl ?_
     refine AOps.gskip rfl rfl rfl rfl rfl rfl rfl rfl ?_
     refine AOps.gskip rfl rfl rfl rfl rfl rfl rfl rfl ?_
     refine AOps.gskip rfl rfl rfl rfl rfl rfl rfl rfl ?_
     refine AOps.gskip rfl rfl rfl rfl rfl rfl rfl rfl ?_
     refine AOps.cons rfl rfl (q_pick) ?_
     refine AOps.nil ?_
     refine AWp.cond_t rfl ?_
     refine AWp.exit ?_
     refine AWp.region ?_
     refine AOps.cons rfl rfl (q_add) ?_
     refine AOps.cons rfl rfl (q_move) ?_
     refine AOps.nil ?_
     refine ⟨(i + 1, b), ?_, Back.mk' (HasT.cons (HasT.cons (HasT.cons HasT.nil))) HasH.nil, ?_⟩
     ·
      try dsimp only
      exact ⟨by omega, by rw [foldl_step (by omega), hb]; exact cutS_no (cutP_no2 h5_8)⟩
     ·
      try dsimp only
      first | omega | (simp; omega)
    ·
     refine AOps.cons rfl rfl (q_pick) ?_
     refine AOps.cons rfl rfl (q_move) ?_
     refine AOps.gcons rfl rfl rfl rfl rfl (q_fa) ?_
     refine AOps.gcons rfl rfl rfl rfl rfl (q_load) ?_
     refine AOps.gcons rfl rfl rfl rfl rfl (q_fa) ?_
     refine AOps.gcons rfl rfl rfl rfl rfl (q_load) ?_
     refine AOps.gbool rfl rfl rfl rfl rfl (q_call (0) (hc := (c_name_Within (z.rs.getD i default).nm z.o (by omega) (by omega)))) (fun h5_15 => ?_) (fun h5_15 => ?_)
     ·
      refine AOps.gcons rfl rfl rfl rfl rfl (q_not) ?_
      refine AOps.cons rfl rfl (q_pick) ?_
      refine AOps.cons rfl rfl (q_move) ?_
      refine AOps.gcons rfl rfl rfl rfl rfl (q_move) ?_
      refine AOps.gcons rfl rfl rfl rfl rfl (q_fa) ?_
      refine AOps.gcons rfl rfl rfl rfl rfl (q_load) ?_
      refine AOps.gbool rfl rfl rfl rfl rfl (q_call (0) (hc := (c_name_Within n (z.rs.getD i default).nm (by omega) (by omega)))) (fun h5_22 => ?_) (fun h5_22 => ?_)
      ·
       refine AOps.gcons rfl rfl rfl rfl rfl (q_not) ?_
       refine AOps.cons rfl rfl (q_pick) ?_
       refine AOps.nil ?_
       refine AWp.cond_f rfl ?_
       refine AWp.skip ?_
       refine AWp.seq ?_
       refine AWp.region ?_
       have hP : cutP z n (z.rs.getD i default) = true := cutP_yes h5_2 h5_8 h5_15 h5_22
       have hne := withN_ne h5_15
       refine AOps.bool rfl rfl (q_move) (fun h6_0 => ?_) (fun h6_0 => ?_)
       ·
        refine AOps.cons rfl rfl (q_not) ?_
        refine AOps.cons rfl rfl (q_move) ?_
        refine AOps.gcons rfl rfl rfl rfl rfl (q_fa) ?_
        refine AOps.gcons rfl rfl rfl rfl rfl (q_load) ?_
        refine AOps.gcons rfl rfl rfl rfl rfl (q_call (0) (hc := (c_name_Count (z.rs.getD i default).nm (by omega)))) ?_
        refine AOps.gcons rfl rfl rfl rfl rfl (q_move) ?_
        refine AOps.gcons rfl rfl rfl rfl rfl (q_call (0) (hc := (c_name_Count b (by omega)))) ?_
        refine AOps.gdec rfl rfl rfl rfl rfl (q_lss) (fun h6_8 => ?_) (fun h6_8 => ?_)
        ·
         refine AOps.cons rfl rfl (q_pick) ?_
         refine AOps.nil ?_
         refine AWp.cond_t rfl ?_
         refine AWp.region ?_
         refine AOps.cons rfl rfl (q_fa) ?_
         refine AOps.cons rfl rfl (q_load) ?_
         refine AOps.cons rfl rfl (q_assign) ?_
         refine AOps.cons rfl rfl (q_assign) ?_
         refine AOps.nil ?_
         refine AWp.region ?_
         refine AOps.cons rfl rfl (q_add) ?_
         refine AOps.cons rfl rfl (q_move) ?_
         refine AOps.nil ?_
         refine ⟨(i + 1, (z.rs.getD i default).nm), ?_, Back.mk' (HasT.cons (HasT.cons (HasT.cons HasT.nil (h1 := by exact congrArg tf (decide_eq_true hne).symm) ))) HasH.nil, ?_⟩
         ·
          try dsimp only
          exact ⟨by omega, by rw [foldl_step (by omega), hb]; exact cutS_take hP (.inr h6_8)⟩
         ·
          try dsimp only
          first | omega | (simp; omega)
        ·
         refine AOps.cons rfl rfl (q_pick) ?_
         refine AOps.nil ?_
         refine AWp.cond_f rfl ?_
         refine AWp.skip ?_
         refine AWp.region ?_
         refine AOps.cons rfl rfl (q_add) ?_
         refine AOps.cons rfl rfl (q_move) ?_
         refine AOps.nil ?_
         refine ⟨(i + 1, b), ?_, Back.mk' (HasT.cons (HasT.cons (HasT.cons HasT.nil))) HasH.nil, ?_⟩
         ·
          try dsimp only
          exact ⟨by omega, by rw [foldl_step (by omega), hb]; exact cutS_keep (by simpa using h6_0) h6_8⟩
         ·
          try dsimp only
          first | omega | (simp; omega)
       ·
        refine AOps.cons rfl rfl (q_not) ?_
        refine AOps.cons rfl rfl (q_move) ?_
        refine AOps.gskip rfl rfl rfl rfl rfl rfl rfl rfl ?_
        refine AOps.gskip rfl rfl rfl rfl rfl rfl rfl rfl ?_
        refine AOps.gskip rfl rfl rfl rfl rfl rfl rfl rfl ?_
        refine AOps.gskip rfl rfl rfl rfl rfl rfl rfl rfl ?_
        refine AOps.gskip rfl rfl rfl rfl rfl rfl rfl rfl ?_
        refine AOps.gskip rfl rfl rfl rfl rfl rfl rfl rfl ?_
        refine AOps.cons rfl rfl (q_pick) ?_
        refine AOps.nil ?_
        refine AWp.cond_t rfl ?_
        refine AWp.region ?_
        refine AOps.cons rfl rfl (q_fa) ?_
        refine AOps.cons rfl rfl (q_load) ?_
        refine AOps.cons rfl rfl (q_assign) ?_
        refine AOps.cons rfl rfl (q_assign) ?_
        refine AOps.nil ?_
        refine AWp.region ?_
        refine AOps.cons rfl rfl (q_add) ?_
        refine AOps.cons rfl rfl (q_move) ?_
        refine AOps.nil ?_
        refine ⟨(i + 1, (z.rs.getD i default).nm), ?_, Back.mk' (HasT.cons (HasT.cons (HasT.cons HasT.nil (h1 := by exact congrArg tf (decide_eq_true hne).symm) ))) HasH.nil, ?_⟩
        ·
         try dsimp only
         exact ⟨by omega, by rw [foldl_step (by omega), hb]; exact cutS_take hP (.inl (by simpa using h6_0))⟩
        ·
         try dsimp only
         first | omega | (simp; omega)
      ·
       refine AOps.gcons rfl rfl rfl rfl rfl (q_not) ?_
       refine AOps.cons rfl rfl (q_pick) ?_
       refine AOps.nil ?_
       refine AWp.cond_t rfl ?_
       refine AWp.exit ?_
       refine AWp.region ?_
       refine AOps.cons rfl rfl (q_add) ?_
       refine AOps.cons rfl rfl (q_move) ?_
       refine AOps.nil ?_
       refine ⟨(i + 1, b), ?_, Back.mk' (HasT.cons (HasT.cons (HasT.cons HasT.nil))) HasH.nil, ?_⟩
       ·
        try dsimp only
        exact ⟨by omega, by rw [foldl_step (by omega), hb]; exact cutS_no (cutP_no4 h5_22)⟩
       ·
        try dsimp only
        first | omega | (simp; omega)
     ·
      refine AOps.gcons rfl rfl rfl rfl rfl (q_not) ?_
      refine AOps.cons rfl rfl (q_pick) ?_
      refine AOps.cons rfl rfl (q_move) ?_
      refine AOps.gskip rfl rfl rfl rfl rfl rfl rfl rfl ?_
      refine AOps.gskip rfl rfl rfl rfl rfl rfl rfl rfl ?_
      refine AOps.gskip rfl rfl rfl rfl rfl rfl rfl rfl ?_
      refine AOps.gskip rfl rfl rfl rfl rfl rfl rfl rfl ?_
      refine AOps.gskip rfl rfl rfl rfl rfl rfl rfl rfl ?_
      refine AOps.cons rfl rfl (q_pick) ?_
      refine AOps.nil ?_
      refine AWp.cond_t rfl ?_
      refine AWp.exit ?_
      refine AWp.region ?_
      refine AOps.cons rfl rfl (q_add) ?_
      refine AOps.cons rfl rfl (q_move) ?_
      refine AOps.nil ?_
      refine ⟨(i + 1, b), ?_, Back.mk' (HasT.cons (HasT.cons (HasT.cons HasT.nil))) HasH.nil, ?_⟩
      ·
       try dsimp only
       exact ⟨by omega, by rw [foldl_step (by omega), hb]; exact cutS_no (cutP_no3 h5_15)⟩
      ·
       try dsimp only
       first | omega | (simp; omega)
  ·
   refine AOps.nil ?_
   refine AWp.seq ?_
   refine AWp.cond_f rfl ?_
   refine AWp.exit ?_
   refine AWp.seq ?_
   refine AWp.region ?_
   refine AOps.cons rfl rfl (q_move) ?_
   refine AOps.cons rfl rfl (q_move) ?_
   refine AOps.cons rfl rfl (q_assign) ?_
   refine AOps.cons rfl rfl (q_assign) ?_
   refine AOps.nil ?_
   refine AWp.ret ?_
   show Fin te Try.f54 _ _
   obtain rfl : i = z.rs.length := by omega
   rw [List.take_length] at hb
   obtain rfl : b = cutZ z n := hb.symm
   refine q_ret (0) [_, _] [_, _] ?_
   rfl
end Go.Proofs.Ytiojkmccnabmfaa.Fw


set_option linter.unusedVariables false
set_option linter.unusedSimpArgs false
set_option linter.unusedSectionVars false
namespace Go.Proofs.Ytiojkmccnabmfaa.Fw
open Go.RowKit
section
variable {P : Program} {n : Nat} {ops : Array Oper} {Q : APost} {QP : Value → AS → Prop}
def OpAtX (P : Program) (n : Nat) (ops : Array Oper) (QP : Value → AS → Prop) (i : Nat) (s s' : AS) : Prop :=
  ∀ Λ w φ a, Sim n w φ Λ s a → ∀ (K : Act → World → Prop) (QQ : Exit → Act → World → Prop), (∀ w' φ' a', Sim n w' φ' Λ s' a' → Goes w φ w' φ' → K a' w') →
    (∀ x s2 w' φ' a', QP x s2 → Sim n w' φ' Λ s2 a' → Goes w φ w' φ' → QQ (.panic [{ v := x, recovered := false }]) a' w') → wpOp P ops QQ i K a w
theorem OpAt.x {i : Nat} {s s' : AS} (h : OpAt P n ops i s s') : OpAtX P n ops QP i s s' := fun Λ w φ a hs K QQ hK _ => h Λ w φ a hs K QQ hK
theorem OpAtX.go {i : Nat} {o : Oper} {s s' : AS} (ho : ops[i]? = some o) (hg : o.guard = none) (h : OpX P n o (fun e s2 => match e with | .panic x => QP x s2 | _ => False) s (fun s2 => s2 = s')) : OpAtX P n ops QP i s s' := by
  intro Λ w φ a hs K QQ hK hP
  simp only [wpOp, ho, Region.wanted, hg, if_true]
  exact .inl (h Λ w φ a hs _ _ (fun s2 w' φ' a' e hs' g => hK w' φ' a' (e ▸ hs') g) (fun x s2 w' φ' a' q hs' g => hP x s2 w' φ' a' q hs' g))
def DS.OkX (P : Program) (n : Nat) (ops : Array Oper) (QP : Value → AS → Prop) (e : DS) (s : AS) : Prop :=
  ∀ s', (∀ t ∈ e.rt, s'.t t = s.t t) → (∀ k ∈ e.rh, s'.h k = s.h k) → OpAtX P n ops QP e.i s' (e.upd s')
theorem DS.OkX.congr {e : DS} {s s2 : AS} (h : e.OkX P n ops QP s) (ht : ∀ t ∈ e.rt, s2.t t = s.t t) (hh : ∀ k ∈ e.rh, s2.h k = s.h k) : e.OkX P n ops QP s2 :=
  fun s' h1 h2 => h s' (fun t k => (h1 t k).trans (ht t k)) (fun t k => (h2 t k).trans (hh t k))
theorem DS.OkX.over {a b : DS} {s : AS} (hi : indep a b = true) (h : b.OkX P n ops QP s) : b.OkX P n ops QP (a.upd s) := by
  obtain ⟨h1, h2, h3, h4⟩ := indep_spec hi
  refine h.congr (fun t ht => ?_) (fun k hk => ?_)
  · rw [DS.upd_t, if_neg]
    intro e
    exact (h1 t e).1 ht
  · rw [DS.upd_h]
    cases hw : a.wh with
    | none => rfl
    | some p =>
      simp only
      rw [if_neg]
      intro e
      exact h3 p.1 p.2 hw (e ▸ hk)
theorem DS.OkX.under {a b : DS} {s : AS} (hi : indep a b = true) (h : b.OkX P n ops QP (a.upd s)) : b.OkX P n ops QP s := by
  obtain ⟨h1, h2, h3, h4⟩ := indep_spec hi
  refine h.congr (fun t ht => ?_) (fun k hk => ?_)
  · rw [DS.upd_t, if_neg]
    intro e
    exact (h1 t e).1 ht
  · rw [DS.upd_h]
    cases hw : a.wh with
    | none => rfl
    | some p =>
      simp only
      rw [if_neg]
      intro e
      exact h3 p.1 p.2 hw (e ▸ hk)
def GoodX (P : Program) (n : Nat) (ops : Array Oper) (QP : Value → AS → Prop) : List DS → AS → Prop
  | [], _ => True
  | e :: r, s => e.OkX P n ops QP s ∧ GoodX P n ops QP r (e.upd s)
theorem GoodX.front {x : DS} {post : List DS} : ∀ {pre : List DS} {s : AS}, GoodX P n ops QP (pre ++ x :: post) s → (∀ y ∈ pre, indep y x = true ∧ y.wf = true) → x.wf = true →
    GoodX P n ops QP (x :: (pre ++ post)) s ∧ final (pre ++ x :: post) s = final (x :: (pre ++ post)) s
  | [], s, h, _, _ => ⟨h, rfl⟩
  | y :: pre, s, h, hi, hx => by
    obtain ⟨h1, h2⟩ := h
    obtain ⟨h3, h4⟩ := GoodX.front (pre := pre) (s := y.upd s) h2 (fun z hz => hi z (List.mem_cons_of_mem _ hz)) hx
    obtain ⟨h5, h6⟩ := h3
    obtain ⟨hy, hyw⟩ := hi y List.mem_cons_self
    have hc := upd_comm (indep_symm hy) hyw s
    refine ⟨⟨h5.under hy, ?_⟩, ?_⟩
    · show y.OkX P n ops QP (x.upd s) ∧ GoodX P n ops QP (pre ++ post) (y.upd (x.upd s))
      rw [← hc]
      exact ⟨h1.over (indep_symm hy), h6⟩
    · show final (pre ++ x :: post) (y.upd s) = final (pre ++ post) (y.upd (x.upd s))
      rw [h4, ← hc]
      rfl
end
end Go.Proofs.Ytiojkmccnabmfaa.Fw


set_option linter.unusedVariables false
set_option linter.unusedSimpArgs false
set_option linter.unusedSectionVars false
namespace Go.Proofs.Ytiojkmccnabmfaa.Fw
open Go.RowKit
section rules
variable {n : Nat} {s : AS} {o : Oper} {d : Option Tmp} {Q : APost}
theorem AOps.panic {ops : Array Oper} {i : Nat} {rest : List Nat} {x : Operand} {t : TypeId} {v : Value} (hQ : Q (.panic (.iface t v)) s) (hi : ops[i]? = some o := by exact rfl) (hg : o.guard = none := by exact rfl) (ho : o.op = .panic x := by exact rfl) (hx : s.ev x = .v (.iface t v) := by exact rfl) :
    AOps Try.prog n ops Q (i :: rest) s :=
  AOps.consx hi hg fun Λ w φ a hs next QQ hN hP => by
    have e := ev_v hs hx
    have hrun : (execOp a.eval o).run Try.prog w = .halt (.panic (.iface t v)) w := by simp [execOp, ho, e, Instr.panic, goPanic]
    unfold Oper.wp
    rw [hrun]
    exact hP (.iface t v) s w φ a hQ hs (Goes.refl _ _)
end rules
section jumps
variable {P : Program} {n : Nat} {Q : APost} {s : AS}
end jumps
end Go.Proofs.Ytiojkmccnabmfaa.Fw


set_option linter.unusedVariables false
set_option linter.unusedSimpArgs false
set_option linter.unusedSectionVars false
namespace Go.Proofs.Ytiojkmccnabmfaa.Fw
open Go.RowKit
section rules
variable {n : Nat} {s : AS} {o : Oper} {d : Option Tmp} {Q : APost}
end rules
end Go.Proofs.Ytiojkmccnabmfaa.Fw


set_option linter.unusedVariables false
set_option linter.unusedSimpArgs false
namespace Go.Proofs.Ytiojkmccnabmfaa.Fw
open Go.RowKit
def zAt (t : Tr) (i : Int) : Zo := t.zs.getD i.toNat default
def mostT (t : Tr) (b : Int) : Int := if b < 0 then -1 else cntN (zAt t b).o
def nearS (t : Tr) (p : Zo → Bool) (b i : Int) : Int := if p (zAt t i) && decide (mostT t b < cntN (zAt t i).o) then i else b
def nearF (t : Tr) (p : Zo → Bool) (w : List Int) : Int := w.foldl (nearS t p) (-1)
def everyN (k : Nat) : List Int := (List.range k).map fun (j : Nat) => ((j : Nat) : Int)
def everyT (t : Tr) : List Int := everyN t.zs.length
def parP (z o : Zo) : Bool := withN z.o o.o && !sameN z.o o.o
def parOf (t : Tr) (z : Zo) : Int := nearF t (parP z) (everyT t)
def parT (t : Tr) : List Int := t.zs.map (parOf t)
def subP (r o : Rr) : Bool := sameN r.da o.da
def subQ (b : List Rr) (r : Rr) : Bool := !(b.any (subP r))
def subR (a b : List Rr) : Bool := !(a.any (subQ b))
theorem nearS_no {t : Tr} {p : Zo → Bool} {b i : Int} (h : p (zAt t i) = false) : nearS t p b i = b := by simp [nearS, h]
theorem nearS_keep {t : Tr} {p : Zo → Bool} {b i : Int} (h : ¬ mostT t b < cntN (zAt t i).o) : nearS t p b i = b := by simp [nearS, h]
theorem nearS_take {t : Tr} {p : Zo → Bool} {b i : Int} (h : p (zAt t i) = true) (h2 : mostT t b < cntN (zAt t i).o) : nearS t p b i = i := by simp [nearS, h, h2]
theorem mostT_at {t : Tr} {b : Int} (h : 0 ≤ b) : mostT t b = cntN (zAt t b).o := if_neg (by omega)
theorem zAt_mem {t : Tr} {i : Int} (h : 0 ≤ i ∧ i < t.zs.length) : zAt t i ∈ t.zs := getD_mem' (by omega)
theorem everyN_len (k : Nat) : (everyN k).length = k := by simp [everyN]
theorem everyN_step (k : Nat) : everyN (k + 1) = everyN k ++ [(k : Int)] := by simp [everyN, List.range_succ]
theorem everyN_in {k : Nat} {i : Int} (h : i ∈ everyN k) : 0 ≤ i ∧ i < k := by
  simp only [everyN, List.mem_map, List.mem_range] at h
  obtain ⟨a, h1, rfl⟩ := h
  omega
theorem everyT_in (t : Tr) : ∀ i ∈ everyT t, 0 ≤ i ∧ i < t.zs.length := fun i h => everyN_in h
theorem zo_ok {t : Tr} (ht : TrOk t) {i : Int} (h : 0 ≤ i ∧ i < t.zs.length) : ZoOk (zAt t i) := ht.2.1 _ (zAt_mem h)
theorem set_rep {k i : Nat} (h : i < k) : (everyN i ++ List.replicate (k - i) (0 : Int)).set i (i : Int) = everyN (i + 1) ++ List.replicate (k - (i + 1)) 0 := by
  rw [List.set_append_right _ _ (by rw [everyN_len]; exact Nat.le_refl _), everyN_len, Nat.sub_self, everyN_step, List.append_assoc]
  congr 1
  rw [show k - i = (k - (i + 1)) + 1 by omega, List.replicate_succ]
  rfl
set_option maxRecDepth 20000 in
set_option maxHeartbeats 2000000 in
theorem c_zone_deepest (t : Tr) (w : List Int) (lw lp : Nat) (caps : List AV) (p : Zo → Bool) {fid : Nat} (ht : TrOk t) (hw : w.length ≤ 140737488351232) (hin : ∀ i ∈ w, 0 ≤ i ∧ i < t.zs.length) (hcaps : AV.oks lp caps = true) (hg : ∀ z ∈ t.zs, AC Try.prog fid (.agg (zoC z) :: caps) emp (Ret (tf (p z)))) : AC Try.prog 47 [.agg (trC t), .fz lw w.length (cl ic w), .fn (.func fid) [] caps] emp (Ret (i64 (nearF t p w))) := by
 refine AC.intro te_ok (fn := Try.f47) ⟨Try.func47, rfl, rfl⟩ (Nat.le_of_ble_eq_true rfl) ?_
 refine AWp.seq ?_
 refine AWp.region ?_
 refine AOps.cons rfl rfl (q_box 100) ?_
 refine AOps.cons rfl rfl (q_assign) ?_
 refine AOps.nil ?_
 refine AWp.seq ?_
 refine AWp.region ?_
 refine AOps.cons rfl rfl (q_assign) ?_
 refine AOps.cons rfl rfl (q_assign) ?_
 refine AOps.nil ?_
 refine AWp.seq ?_
 refine AWp.seq ?_
 refine AWp.region ?_
 refine AOps.cons rfl rfl (q_move) ?_
 refine AOps.cons rfl rfl (q_len) ?_
 refine AOps.cons rfl rfl (q_move) ?_
 refine AOps.nil ?_
 refine AWp.block ?_
 refine AWp.loopR (α := Nat × Int) [7, 8, 10, 11, 14, 15, 16, 17, 18, 19, 20, 21, 22, 23, 24, 25, 26, 27, 28, 29, 30, 31, 32, 33, 34, 35, 36, 37] (fun x_ => [(14, i64 (x_.1)), (7, i64 (x_.2)), (8, i64 (mostT t (x_.2)))]) (fun x_ => []) (fun x_ => (x_.1) ≤ w.length ∧ (w.take (x_.1)).foldl (nearS t p) (-1) = (x_.2) ∧ -1 ≤ (x_.2) ∧ (x_.2) < t.zs.length) (fun x_ => w.length - (x_.1)) (0, -1) ?_ (Back.mk' (HasT.cons (HasT.cons (HasT.cons HasT.nil))) HasH.nil) ?_
 ·
  exact ⟨Nat.zero_le _, rfl, by omega, by omega⟩
 ·
  rintro ⟨i, b⟩ hI3
  change i ≤ w.length ∧ (w.take i).foldl (nearS t p) (-1) = b ∧ -1 ≤ b ∧ b < t.zs.length at hI3
  obtain ⟨hi, hb, hb1, hb2⟩ := hI3
  refine AWp.as (s' := AS.over _ [7, 8, 10, 11, 14, 15, 16, 17, 18, 19, 20, 21, 22, 23, 24, 25, 26, 27, 28, 29, 30, 31, 32, 33, 34, 35, 36, 37] [(14, i64 i), (7, i64 b), (8, i64 (mostT t b))] []) rfl ?_
  refine AWp.seq ?_
  refine AWp.region ?_
  refine AOps.dec rfl rfl (q_lss) (fun h3_0 => ?_) (fun h3_0 => ?_)
  ·
   refine AOps.nil ?_
   refine AWp.seq ?_
   refine AWp.cond_t rfl ?_
   refine AWp.skip ?_
   refine AWp.seq ?_
   refine AWp.block ?_
   refine AWp.seq ?_
   refine AWp.region ?_
   refine AOps.cons rfl rfl (q_ix) ?_
   refine AOps.cons rfl rfl (q_load) ?_
   refine AOps.cons rfl rfl (q_assign) ?_
   refine AOps.nil ?_
   refine AWp.seq ?_
   refine AWp.region ?_
   have hj := hin _ (getD_mem' (l := w) (i := i) (by omega))
   have hj2 : 0 ≤ w[i]?.getD 0 ∧ w[i]?.getD 0 < t.zs.length := by have h := hj; rw [List.getD_eq_getElem?_getD] at h; exact h
   have hzo := zo_ok ht hj
   have hol := hzo.1
   refine AOps.cons rfl rfl (q_fa) ?_
   refine AOps.cons rfl rfl (q_load) ?_
   refine AOps.cons rfl rfl (q_move) ?_
   refine AOps.cons rfl rfl (q_ix) ?_
   refine AOps.cons rfl rfl (q_load) ?_
   refine AOps.cons rfl rfl (q_alloc 605) ?_
   refine AOps.cons rfl rfl (q_store) ?_
   refine AOps.nil ?_
   refine AWp.seq ?_
   refine AWp.region ?_
   refine AOps.cons rfl rfl (q_move) ?_
   refine AOps.cons rfl rfl (q_load) ?_
   refine AOps.bool rfl rfl (q_call (lw + lp) (hA := by exact fvs_caps (l := lp) (fv_okb rfl (by first | rfl | exact ble_of (by omega) | (simp [AV.ok, AV.oks]; done))) (by omega) hcaps) (hc := (hg (zAt t (w.getD i default)) (zAt_mem hj)))) (fun h6_2 => ?_) (fun h6_2 => ?_)
   ·
    refine AOps.cons rfl rfl (q_move) ?_
    refine AOps.gcons rfl rfl rfl rfl rfl (q_fa) ?_
    refine AOps.gcons rfl rfl rfl rfl rfl (q_load) ?_
    refine AOps.gcons rfl rfl rfl rfl rfl (q_call (lw + lp) (hc := (c_name_Count (zAt t (w.getD i default)).o (by omega)))) ?_
    refine AOps.gcons rfl rfl rfl rfl rfl (q_move) ?_
    refine AOps.gdec rfl rfl rfl rfl rfl (q_gtr) (fun h6_8 => ?_) (fun h6_8 => ?_)
    ·
     refine AOps.cons rfl rfl (q_pick) ?_
     refine AOps.nil ?_
     refine AWp.cond_t rfl ?_
     refine AWp.region ?_
     refine AOps.cons rfl rfl (q_move) ?_
     refine AOps.cons rfl rfl (q_fa) ?_
     refine AOps.cons rfl rfl (q_load) ?_
     refine AOps.cons rfl rfl (q_call (lw + lp) (hc := (c_name_Count (zAt t (w.getD i default)).o (by omega)))) ?_
     refine AOps.cons rfl rfl (q_assign) ?_
     refine AOps.cons rfl rfl (q_assign) ?_
     refine AOps.nil ?_
     refine AWp.region ?_
     refine AOps.cons rfl rfl (q_add) ?_
     refine AOps.cons rfl rfl (q_move) ?_
     refine AOps.nil ?_
     refine ⟨(i + 1, w.getD i default), ?_, Back.mk' (HasT.cons (HasT.cons (HasT.cons HasT.nil (h1 := by exact congrArg i64 (mostT_at hj.1).symm) ))) HasH.nil, ?_⟩
     ·
      try dsimp only
      exact ⟨by omega, by rw [foldl_step (by omega), hb]; exact nearS_take h6_2 h6_8, by omega, by omega⟩
     ·
      try dsimp only
      first | omega | (simp; omega)
    ·
     refine AOps.cons rfl rfl (q_pick) ?_
     refine AOps.nil ?_
     refine AWp.cond_f rfl ?_
     refine AWp.skip ?_
     refine AWp.region ?_
     refine AOps.cons rfl rfl (q_add) ?_
     refine AOps.cons rfl rfl (q_move) ?_
     refine AOps.nil ?_
     refine ⟨(i + 1, b), ?_, Back.mk' (HasT.cons (HasT.cons (HasT.cons HasT.nil))) HasH.nil, ?_⟩
     ·
      try dsimp only
      exact ⟨by omega, by rw [foldl_step (by omega), hb]; exact nearS_keep h6_8, hb1, hb2⟩
     ·
      try dsimp only
      first | omega | (simp; omega)
   ·
    refine AOps.cons rfl rfl (q_move) ?_
    refine AOps.gskip rfl rfl rfl rfl rfl rfl rfl rfl ?_
    refine AOps.gskip rfl rfl rfl rfl rfl rfl rfl rfl ?_
    refine AOps.gskip rfl rfl rfl rfl rfl rfl rfl rfl ?_
    refine AOps.gskip rfl rfl rfl rfl rfl rfl rfl rfl ?_
    refine AOps.gskip rfl rfl rfl rfl rfl rfl rfl rfl ?_
    refine AOps.cons rfl rfl (q_pick) ?_
    refine AOps.nil ?_
    refine AWp.cond_f rfl ?_
    refine AWp.skip ?_
    refine AWp.region ?_
    refine AOps.cons rfl rfl (q_add) ?_
    refine AOps.cons rfl rfl (q_move) ?_
    refine AOps.nil ?_
    refine ⟨(i + 1, b), ?_, Back.mk' (HasT.cons (HasT.cons (HasT.cons HasT.nil))) HasH.nil, ?_⟩
    ·
     try dsimp only
     exact ⟨by omega, by rw [foldl_step (by omega), hb]; exact nearS_no h6_2, hb1, hb2⟩
    ·
     try dsimp only
     first | omega | (simp; omega)
  ·
   refine AOps.nil ?_
   refine AWp.seq ?_
   refine AWp.cond_f rfl ?_
   refine AWp.exit ?_
   refine AWp.seq ?_
   refine AWp.region ?_
   refine AOps.cons rfl rfl (q_move) ?_
   refine AOps.cons rfl rfl (q_assign) ?_
   refine AOps.nil ?_
   refine AWp.ret ?_
   show Fin te Try.f47 _ _
   obtain rfl : i = w.length := by omega
   rw [List.take_length] at hb
   obtain rfl : b = nearF t p w := hb.symm
   refine q_ret (0) [_] [_] ?_
   rfl
set_option maxRecDepth 20000 in
set_option maxHeartbeats 2000000 in
theorem c_zone_every (t : Tr) (ht : TrOk t) : AC Try.prog 48 [.agg (trC t)] emp (Ret (.fz 0 (everyT t).length (cl ic (everyT t)))) := by
 have hb1 := ht.1
 have hel := everyN_len t.zs.length
 have hrl : (List.replicate t.zs.length (0 : Int)).length = t.zs.length := List.length_replicate
 refine AC.intro te_ok (fn := Try.f48) ⟨Try.func48, rfl, rfl⟩ (Nat.le_of_ble_eq_true rfl) ?_
 refine AWp.seq ?_
 refine AWp.region ?_
 refine AOps.cons rfl rfl (q_box 100) ?_
 refine AOps.cons rfl rfl (q_assign) ?_
 refine AOps.nil ?_
 refine AWp.seq ?_
 refine AWp.region ?_
 refine AOps.cons rfl rfl (q_fa) ?_
 refine AOps.cons rfl rfl (q_load) ?_
 refine AOps.cons rfl rfl (q_len) ?_
 refine AOps.cons rfl rfl (q_make 203 ic 0 t.zs.length) ?_
 refine AOps.cons rfl rfl (q_assign) ?_
 refine AOps.nil ?_
 refine AWp.seq ?_
 refine AWp.seq ?_
 refine AWp.region ?_
 refine AOps.cons rfl rfl (q_move) ?_
 refine AOps.cons rfl rfl (q_len) ?_
 refine AOps.cons rfl rfl (q_move) ?_
 refine AOps.nil ?_
 refine AWp.block ?_
 refine AWp.loopR (α := Nat × List Int) [3, 4, 11, 12, 13, 14, 15, 16, 17, 18] (fun x_ => [(11, i64 (x_.1)), (3, .sl 203 0 0 (x_.2).length 1)]) (fun x_ => [(203, .row (cl ic (x_.2)) 1 0)]) (fun x_ => (x_.1) ≤ t.zs.length ∧ (x_.2) = everyN (x_.1) ++ List.replicate (t.zs.length - (x_.1)) 0) (fun x_ => t.zs.length - (x_.1)) (0, List.replicate t.zs.length 0) ?_ (Back.mk' (HasT.cons (HasT.cons HasT.nil)) (HasH.cons HasH.nil)) ?_
 ·
  exact ⟨Nat.zero_le _, rfl⟩
 ·
  rintro ⟨i, acc⟩ hI3
  change i ≤ t.zs.length ∧ acc = everyN i ++ List.replicate (t.zs.length - i) 0 at hI3
  obtain ⟨hi, ha⟩ := hI3
  refine AWp.as (s' := AS.over _ [3, 4, 11, 12, 13, 14, 15, 16, 17, 18] [(11, i64 i), (3, .sl 203 0 0 acc.length 1)] [(203, .row (cl ic acc) 1 0)]) rfl ?_
  have hal := congrArg List.length ha
  rw [List.length_append, List.length_replicate, everyN_len] at hal
  refine AWp.seq ?_
  refine AWp.region ?_
  refine AOps.dec rfl rfl (q_lss) (fun h3_0 => ?_) (fun h3_0 => ?_)
  ·
   refine AOps.nil ?_
   refine AWp.seq ?_
   refine AWp.cond_t rfl ?_
   refine AWp.skip ?_
   refine AWp.seq ?_
   refine AWp.block ?_
   refine AWp.seq ?_
   refine AWp.region ?_
   refine AOps.cons rfl rfl (q_move) ?_
   refine AOps.cons rfl rfl (q_assign) ?_
   refine AOps.nil ?_
   refine AWp.region ?_
   refine AOps.cons rfl rfl (q_move) ?_
   refine AOps.cons rfl rfl (q_move) ?_
   refine AOps.cons rfl rfl (q_move) ?_
   refine AOps.cons rfl rfl (q_ix) ?_
   refine AOps.cons rfl rfl (q_store) ?_
   refine AOps.nil ?_
   refine AWp.region ?_
   refine AOps.cons rfl rfl (q_add) ?_
   refine AOps.cons rfl rfl (q_move) ?_
   refine AOps.nil ?_
   refine ⟨(i + 1, acc.set i (i : Int)), ?_, Back.mk' (HasT.cons (HasT.cons HasT.nil (h1 := by exact sl_eq (by simp)) )) (HasH.cons HasH.nil), ?_⟩
   ·
    try dsimp only
    exact ⟨by omega, by rw [ha]; exact set_rep (by omega)⟩
   ·
    try dsimp only
    first | omega | (simp; omega)
  ·
   refine AOps.nil ?_
   refine AWp.seq ?_
   refine AWp.cond_f rfl ?_
   refine AWp.exit ?_
   refine AWp.seq ?_
   refine AWp.region ?_
   refine AOps.cons rfl rfl (q_move) ?_
   refine AOps.cons rfl rfl (q_assign) ?_
   refine AOps.nil ?_
   refine AWp.ret ?_
   show Fin te Try.f48 _ _
   obtain rfl : i = t.zs.length := by omega
   rw [Nat.sub_self, List.replicate_zero, List.append_nil] at ha
   obtain rfl : acc = everyT t := ha
   refine q_ret (0) [_] [_] ?_
   rfl
set_option maxRecDepth 20000 in
set_option maxHeartbeats 2000000 in
theorem c_zone_parents_1 (o z : Zo) (lv : Nat) (ho : ZoOk o) (hz : ZoOk z) : AC Try.prog 49 [.agg (zoC o), .fp lv (zoC z)] emp (Ret (tf (parP z o))) := by
 have h1 := ho.1
 have h2 := hz.1
 refine AC.intro te_ok (fn := Try.f49) ⟨Try.func49, rfl, rfl⟩ (Nat.le_of_ble_eq_true rfl) ?_
 refine AWp.seq ?_
 refine AWp.region ?_
 refine AOps.cons rfl rfl (q_box 100) ?_
 refine AOps.cons rfl rfl (q_assign) ?_
 refine AOps.nil ?_
 refine AWp.seq ?_
 refine AWp.region ?_
 refine AOps.cons rfl rfl (q_fa) ?_
 refine AOps.cons rfl rfl (q_load) ?_
 refine AOps.cons rfl rfl (q_fa) ?_
 refine AOps.cons rfl rfl (q_load) ?_
 refine AOps.bool rfl rfl (q_call (lv) (hc := (c_name_Within z.o o.o (by omega) (by omega)))) (fun h1_4 => ?_) (fun h1_4 => ?_)
 ·
  refine AOps.cons rfl rfl (q_move) ?_
  refine AOps.gcons rfl rfl rfl rfl rfl (q_fa) ?_
  refine AOps.gcons rfl rfl rfl rfl rfl (q_load) ?_
  refine AOps.gcons rfl rfl rfl rfl rfl (q_fa) ?_
  refine AOps.gcons rfl rfl rfl rfl rfl (q_load) ?_
  refine AOps.gcons rfl rfl rfl rfl rfl (q_call (lv) (hc := (c_name_Same z.o o.o (by omega) (by omega)))) ?_
  refine AOps.gcons rfl rfl rfl rfl rfl (q_not) ?_
  refine AOps.cons rfl rfl (q_pick) ?_
  refine AOps.cons rfl rfl (q_assign) ?_
  refine AOps.nil ?_
  refine AWp.ret ?_
  show Fin te Try.f49 _ _
  refine q_ret (0) [_] [_] ?_
  exact congrArg tf (by simp_all [parP])
 ·
  refine AOps.cons rfl rfl (q_move) ?_
  refine AOps.gskip rfl rfl rfl rfl rfl rfl rfl rfl ?_
  refine AOps.gskip rfl rfl rfl rfl rfl rfl rfl rfl ?_
  refine AOps.gskip rfl rfl rfl rfl rfl rfl rfl rfl ?_
  refine AOps.gskip rfl rfl rfl rfl rfl rfl rfl rfl ?_
  refine AOps.gskip rfl rfl rfl rfl rfl rfl rfl rfl ?_
  refine AOps.gskip rfl rfl rfl rfl rfl rfl rfl rfl ?_
  refine AOps.cons rfl rfl (q_pick) ?_
  refine AOps.cons rfl rfl (q_assign) ?_
  refine AOps.nil ?_
  refine AWp.ret ?_
  show Fin te Try.f49 _ _
  refine q_ret (0) [_] [_] ?_
  exact congrArg tf (by simp_all [parP])
end Go.Proofs.Ytiojkmccnabmfaa.Fw


set_option linter.unusedVariables false
set_option linter.unusedSimpArgs false
namespace Go.Proofs.Ytiojkmccnabmfaa.Fw
open Go.RowKit
theorem c_CanA (t : Int) (b : List UInt8) (lv : Nat) (h : b.length ≤ 140737488351232) : AC Try.prog 53 [i64 t, .fz lv b.length (cl bc b)] emp (Ret (tf (canS t b))) := by
  by_cases h6 : t = 6
  · subst h6; exact c_Can6 b lv h
  · rw [canS_ne h6]; exact c_rdata_Can t b lv h h6
def baseO (z : Zo) (r : Rr) : Bool := withN r.nm z.o && decide (r.cs = 1) && decide (0 ≤ r.ttl) && decide (r.ttl ≤ 2147483647) && decide (1 ≤ r.ty) && decide (r.ty ≤ 65535) && canS r.ty r.da
def restO (z : Zo) (r : Rr) : Bool := if r.ty = 6 then sameN r.nm z.o && decide (cutZ z r.nm = []) else if r.ty = 2 then decide (cutZ z r.nm = []) || sameN (cutZ z r.nm) r.nm else if r.ty = 1 then true else decide (cutZ z r.nm = [])
def recO (z : Zo) (r : Rr) : Bool := baseO z r && restO z r
def cntS (z : Zo) (n : List UInt8) : Nat := (z.rs.filter fun o => sameN o.nm n).length
def inZ (z : Zo) (r : Rr) : Bool := recO z r && (!decide (r.ty = 5) || decide (cntS z r.nm = 1))
def childB (t : Tr) (up : List Int) (k : Int) (n : List UInt8) (i : Nat) : Bool := decide (0 < i) && decide (up.getD i default = k) && sameN (t.zs.getD i default).o n
def joinQ (t : Tr) (up : List Int) (k : Int) (z : Zo) (r : Rr) : Bool := decide (r.ty = 2) && !sameN r.nm z.o && !((List.range t.zs.length).any (childB t up k r.nm))
def kidO (t : Tr) (up : List Int) (k : Int) (i : Nat) : Bool := decide (i = 0) || decide (up.getD i default ≠ k) || (sameN (cutZ (zAt t k) (t.zs.getD i default).o) (t.zs.getD i default).o && subR (atZ (zAt t k) (t.zs.getD i default).o 2) (atZ (t.zs.getD i default) (t.zs.getD i default).o 2) && subR (atZ (t.zs.getD i default) (t.zs.getD i default).o 2) (atZ (zAt t k) (t.zs.getD i default).o 2))
def joinZ (t : Tr) (up : List Int) (k : Int) : Bool := (List.range t.zs.length).all (kidO t up k) && !((zAt t k).rs.any (joinQ t up k (zAt t k)))
def badZ (t : Tr) (i : Int) : Bool := decide (i < 0) || decide ((t.zs.length : Int) ≤ i)
def svO (t : Tr) (i : Nat) : Bool := decide (0 ≤ (t.ss.getD i default).ad) && decide ((t.ss.getD i default).ad ≤ 4294967295) && !decide ((t.ss.getD i default).ad ∈ (t.ss.take i).map Sv.ad) && !((t.ss.getD i default).zs.any (badZ t))
def srvT (t : Tr) : Bool := decide (t.ss.length ≤ 40) && (List.range t.ss.length).all (svO t)
def orgO (t : Tr) (i : Nat) : Bool := canN (t.zs.getD i default).o && !((t.zs.take i).any fun o => sameN o.o (t.zs.getD i default).o)
def zonO (t : Tr) (k : Nat) : Bool := (t.zs.getD k default).rs.all (inZ (t.zs.getD k default)) && decide ((atZ (t.zs.getD k default) (t.zs.getD k default).o 6).length = 1) && decide (1 ≤ (atZ (t.zs.getD k default) (t.zs.getD k default).o 2).length) && joinZ t (parT t) k
def sumT (l : List Zo) : Nat := (l.map fun z => z.rs.length).sum
def canT (t : Tr) : Bool := decide (1 ≤ t.zs.length) && decide (t.zs.length ≤ 20) && decide ((t.zs.getD 0 default).o = [0]) && srvT t && (List.range t.zs.length).all (orgO t) && decide (sumT t.zs ≤ 400) && (List.range t.zs.length).all (zonO t)
theorem range_all_iff {k : Nat} {p : Nat → Bool} : (List.range k).all p = true ↔ ∀ j, j < k → p j = true := by simp [List.all_eq_true]
theorem range_all_no {k j : Nat} {p : Nat → Bool} (h : j < k) (hp : p j = false) : (List.range k).all p = false := by
  cases hx : (List.range k).all p with
  | false => rfl
  | true => rw [range_all_iff.1 hx j h] at hp; cases hp
theorem range_any_no {k : Nat} {p : Nat → Bool} (h : ∀ j, j < k → p j = false) : (List.range k).any p = false := by
  rw [List.any_eq_false]; intro j hj; rw [h j (List.mem_range.1 hj)]; exact Bool.false_ne_true
theorem range_any_yes {k j : Nat} {p : Nat → Bool} (h : j < k) (hp : p j = true) : (List.range k).any p = true := List.any_eq_true.2 ⟨j, List.mem_range.2 h, hp⟩
theorem lt_step {p : Nat → Bool} {i : Nat} {b : Bool} (h : ∀ j, j < i → p j = b) (hp : p i = b) : ∀ j, j < i + 1 → p j = b := fun j hj => by
  by_cases e : j = i
  · rw [e]; exact hp
  · exact h j (by omega)
theorem cnt_step {z : Zo} {n : List UInt8} {i : Nat} (h : i < z.rs.length) : ((z.rs.take (i + 1)).filter fun o => sameN o.nm n).length = ((z.rs.take i).filter fun o => sameN o.nm n).length + (if sameN (z.rs.getD i default).nm n then 1 else 0) := by
  rw [filter_step h, List.length_append]
  split <;> rfl
theorem parT_len (t : Tr) : (parT t).length = t.zs.length := by simp [parT]
theorem map_step {α β : Type} [Inhabited α] {f : α → β} {l : List α} {i : Nat} (h : i < l.length) : (l.take (i + 1)).map f = (l.take i).map f ++ [f (l.getD i default)] := by
  rw [take_step' h, List.map_append]; rfl
theorem sum_step {l : List Zo} {i : Nat} (h : i < l.length) : sumT (l.take (i + 1)) = sumT (l.take i) + (l.getD i default).rs.length := by
  rw [take_step' h, sumT, List.map_append, List.sum_append]; rfl
set_option maxRecDepth 20000 in
set_option maxHeartbeats 2000000 in
theorem c_zone_parents (t : Tr) (ht : TrOk t) : AC Try.prog 26 [.agg (trC t)] emp (Ret (.fz 0 (parT t).length (cl ic (parT t)))) := by
 have hb1 := ht.1
 have hel := everyN_len t.zs.length
 refine AC.intro te_ok (fn := Try.f26) ⟨Try.func26, rfl, rfl⟩ (Nat.le_of_ble_eq_true rfl) ?_
 refine AWp.seq ?_
 refine AWp.region ?_
 refine AOps.cons rfl rfl (q_box 100) ?_
 refine AOps.cons rfl rfl (q_assign) ?_
 refine AOps.nil ?_
 refine AWp.seq ?_
 refine AWp.region ?_
 refine AOps.cons rfl rfl (q_nilrow 200 1 ic) ?_
 refine AOps.nil ?_
 refine AWp.seq ?_
 refine AWp.seq ?_
 refine AWp.region ?_
 refine AOps.cons rfl rfl (q_fa) ?_
 refine AOps.cons rfl rfl (q_load) ?_
 refine AOps.cons rfl rfl (q_len) ?_
 refine AOps.cons rfl rfl (q_move) ?_
 refine AOps.nil ?_
 refine AWp.block ?_
 refine AWp.loopR (α := Nat × List Int × Nat) [3, 5, 9, 10, 11, 12, 13, 14, 15, 16, 17, 18, 19, 20, 21] (fun x_ => [(9, i64 (x_.1)), (3, .sl 200 (x_.2.2) 0 (x_.2.1).length 1)]) (fun x_ => [(200, .row (cl ic (x_.2.1)) 1 (x_.2.2))]) (fun x_ => (x_.1) ≤ t.zs.length ∧ (x_.2.1) = (t.zs.take (x_.1)).map (parOf t)) (fun x_ => t.zs.length - (x_.1)) (0, [], 0) ?_ (Back.mk' (HasT.cons (HasT.cons HasT.nil)) (HasH.cons HasH.nil)) ?_
 ·
  exact ⟨Nat.zero_le _, rfl⟩
 ·
  rintro ⟨i, acc, v⟩ hI3
  change i ≤ t.zs.length ∧ acc = (t.zs.take i).map (parOf t) at hI3
  obtain ⟨hi, ha⟩ := hI3
  refine AWp.as (s' := AS.over _ [3, 5, 9, 10, 11, 12, 13, 14, 15, 16, 17, 18, 19, 20, 21] [(9, i64 i), (3, .sl 200 v 0 acc.length 1)] [(200, .row (cl ic acc) 1 v)]) rfl ?_
  have hal := congrArg List.length ha
  rw [List.length_map, List.length_take] at hal
  refine AWp.seq ?_
  refine AWp.region ?_
  refine AOps.dec rfl rfl (q_lss) (fun h3_0 => ?_) (fun h3_0 => ?_)
  ·
   refine AOps.nil ?_
   refine AWp.seq ?_
   refine AWp.cond_t rfl ?_
   refine AWp.skip ?_
   refine AWp.seq ?_
   refine AWp.block ?_
   refine AWp.seq ?_
   refine AWp.region ?_
   refine AOps.cons rfl rfl (q_ix) ?_
   refine AOps.cons rfl rfl (q_load) ?_
   refine AOps.cons rfl rfl (q_alloc 502) ?_
   refine AOps.cons rfl rfl (q_store) ?_
   refine AOps.nil ?_
   have hzi := ht.2.1 _ (getD_mem' (l := t.zs) (i := i) (by omega))
   refine AWp.draws [⟨0, [3], [], some 13, _, none⟩,
       ⟨1, [1], [100], some 14, _, none⟩,
       ⟨2, [1], [100], some 15, _, none⟩,
       ⟨3, [15], [], some 16, _, none⟩,
       ⟨4, [5], [502], some 17, _, none⟩,
       ⟨5, [14, 16, 17], [502], some 18, _, none⟩,
       ⟨6, [18], [606], some 19, _, some (606, _)⟩,
       ⟨7, [13, 19], [200, 606], some 20, _, some (200, _)⟩,
       ⟨8, [20], [], some 3, _, none⟩]
    [⟨0, [3], [], some 13, .any, none⟩,
        ⟨1, [1], [100], some 14, .any, none⟩,
        ⟨2, [1], [100], some 15, .any, none⟩,
        ⟨3, [15], [], some 16, .any, none⟩,
        ⟨4, [5], [502], some 17, .any, none⟩,
        ⟨5, [14, 16, 17], [502], some 18, .any, none⟩,
        ⟨6, [18], [606], some 19, .any, some (606, .box [])⟩,
        ⟨7, [13, 19], [200, 606], some 20, .any, some (200, .box [])⟩,
        ⟨8, [20], [], some 3, .any, none⟩]
    mixed_ok rfl (by kernel_rfl) ⟨DS.ok_over fun s0 => OpAt.go rfl rfl (q_move),
        DS.ok_over fun s0 => OpAt.go rfl rfl (q_load),
        DS.ok_over fun s0 => OpAt.go rfl rfl (q_load),
        DS.ok_over fun s0 => OpAt.go rfl rfl (q_call (0) (hc := (c_zone_every t ht))),
        DS.ok_over fun s0 => OpAt.go rfl rfl (q_makeFunc [] [_]),
        DS.ok_over fun s0 => OpAt.go rfl rfl (q_call (0) (hc := (c_zone_deepest t (everyT t) 0 1 [.fp 1 (zoC (t.zs.getD i default))] (parP (t.zs.getD i default)) ht (by show (everyN t.zs.length).length ≤ _; omega) (everyT_in t) rfl (fun z hz => c_zone_parents_1 z (t.zs.getD i default) 1 (ht.2.1 z hz) hzi)))),
        DS.ok_over fun s0 => OpAt.go rfl rfl (q_bs 606 ic [_] [(_, _)]),
        DS.ok_over fun s0 => OpAt.go rfl rfl (q_app),
        DS.ok_over fun s0 => OpAt.go rfl rfl (q_assign), trivial⟩ ?_
   dsimp only [final, DS.upd, AS.seto]
   refine AWp.region ?_
   refine AOps.cons rfl rfl (q_add) ?_
   refine AOps.cons rfl rfl (q_move) ?_
   refine AOps.nil ?_
   refine ⟨(i + 1, acc ++ [parOf t (t.zs.getD i default)], v + 1), ?_, Back.mk' (HasT.cons (HasT.cons HasT.nil)) (HasH.cons HasH.nil), ?_⟩
   ·
    try dsimp only
    exact ⟨by omega, by rw [map_step (by omega), ← ha]⟩
   ·
    try dsimp only
    first | omega | (simp; omega)
  ·
   refine AOps.nil ?_
   refine AWp.seq ?_
   refine AWp.cond_f rfl ?_
   refine AWp.exit ?_
   refine AWp.seq ?_
   refine AWp.region ?_
   refine AOps.cons rfl rfl (q_move) ?_
   refine AOps.cons rfl rfl (q_assign) ?_
   refine AOps.nil ?_
   refine AWp.ret ?_
   show Fin te Try.f26 _ _
   obtain rfl : i = t.zs.length := by omega
   rw [List.take_length] at ha
   obtain rfl : acc = parT t := ha
   refine q_ret (0) [_] [_] ?_
   rfl
set_option maxRecDepth 20000 in
set_option maxHeartbeats 2000000 in
theorem c_zone_subset_1_1 (r o : Rr) (lv : Nat) (hr : r.da.length ≤ 140737488351232) (ho : o.da.length ≤ 140737488351232) : AC Try.prog 86 [.agg (rrc o), .fp lv (rrc r)] emp (Ret (tf (subP r o))) := by
 refine AC.intro te_ok (fn := Try.f86) ⟨Try.func86, rfl, rfl⟩ (Nat.le_of_ble_eq_true rfl) ?_
 refine AWp.seq ?_
 refine AWp.region ?_
 refine AOps.cons rfl rfl (q_box 100) ?_
 refine AOps.cons rfl rfl (q_assign) ?_
 refine AOps.nil ?_
 refine AWp.seq ?_
 refine AWp.region ?_
 refine AOps.cons rfl rfl (q_fa) ?_
 refine AOps.cons rfl rfl (q_load) ?_
 refine AOps.cons rfl rfl (by first | exact q_conv_zs | exact q_conv_ls) ?_
 refine AOps.cons rfl rfl (q_fa) ?_
 refine AOps.cons rfl rfl (q_load) ?_
 refine AOps.cons rfl rfl (by first | exact q_conv_zs | exact q_conv_ls) ?_
 refine AOps.cons rfl rfl (q_call (lv) (hc := (c_name_Same r.da o.da (by omega) (by omega)))) ?_
 refine AOps.cons rfl rfl (q_assign) ?_
 refine AOps.nil ?_
 refine AWp.ret ?_
 show Fin te Try.f86 _ _
 refine q_ret (0) [_] [_] ?_
 rfl
set_option maxRecDepth 20000 in
set_option maxHeartbeats 2000000 in
theorem c_zone_subset_1 (b : List Rr) (r : Rr) (lv lb : Nat) (hb : RrsOk b) (hr : r.da.length ≤ 140737488351232) (hl : lb ≤ lv) : AC Try.prog 85 [.agg (rrc r), .fp lv [.fz lb b.length (cl rrc b)]] emp (Ret (tf (subQ b r))) := by
 have hbl := hb.1
 refine AC.intro te_ok (fn := Try.f85) ⟨Try.func85, rfl, rfl⟩ (Nat.le_of_ble_eq_true rfl) ?_
 refine AWp.seq ?_
 refine AWp.region ?_
 refine AOps.cons rfl rfl (q_box 100) ?_
 refine AOps.cons rfl rfl (q_assign) ?_
 refine AOps.nil ?_
 refine AWp.seq ?_
 refine AWp.region ?_
 refine AOps.cons rfl rfl (q_load) ?_
 refine AOps.cons rfl rfl (q_makeFunc [] [_]) ?_
 refine AOps.cons rfl rfl (q_call (lv) (hc := (c_ContainsFunc_rr b lb 0 (lv + 1) [.fp (lv + 1) (rrc r)] (subP r) (by omega) (by simp [AV.oks, AV.ok, Nat.ble_eq] <;> omega) (fun o ho => c_zone_subset_1_1 r o (lv + 1) hr (hb.2 o ho))))) ?_
 refine AOps.cons rfl rfl (q_not) ?_
 refine AOps.cons rfl rfl (q_assign) ?_
 refine AOps.nil ?_
 refine AWp.ret ?_
 show Fin te Try.f85 _ _
 refine q_ret (0) [_] [_] ?_
 rfl
set_option maxRecDepth 20000 in
set_option maxHeartbeats 2000000 in
theorem c_zone_subset (a b : List Rr) (la lb : Nat) (ha : RrsOk a) (hb : RrsOk b) : AC Try.prog 57 [.fz la a.length (cl rrc a), .fz lb b.length (cl rrc b)] emp (Ret (tf (subR a b))) := by
 have hal := ha.1
 refine AC.intro te_ok (fn := Try.f57) ⟨Try.func57, rfl, rfl⟩ (Nat.le_of_ble_eq_true rfl) ?_
 refine AWp.seq ?_
 refine AWp.region ?_
 refine AOps.cons rfl rfl (q_box 100) ?_
 refine AOps.cons rfl rfl (q_assign) ?_
 refine AOps.nil ?_
 refine AWp.seq ?_
 refine AWp.region ?_
 refine AOps.cons rfl rfl (q_move) ?_
 refine AOps.cons rfl rfl (q_makeFunc [] [_]) ?_
 refine AOps.cons rfl rfl (q_call (la + lb) (hA := by exact ⟨fv_okb rfl (ble_of (by omega)), fv_fn trivial ⟨fv_ptrb rfl .box (by simp [AV.oks, AV.ok, Nat.ble_eq]) rfl rfl, trivial⟩, trivial⟩) (hc := (c_ContainsFunc_rr a la 0 (la + lb + 1) [.fp (la + lb + 1) [.fz lb b.length (cl rrc b)]] (subQ b) (by omega) (by simp [AV.oks, AV.ok, Nat.ble_eq] <;> omega) (fun r hr => c_zone_subset_1 b r (la + lb + 1) lb hb (ha.2 r hr) (by omega))))) ?_
 refine AOps.cons rfl rfl (q_not) ?_
 refine AOps.cons rfl rfl (q_assign) ?_
 refine AOps.nil ?_
 refine AWp.ret ?_
 show Fin te Try.f57 _ _
 refine q_ret (0) [_] [_] ?_
 rfl
set_option maxRecDepth 20000 in
set_option maxHeartbeats 2000000 in
theorem c_zone_served_1 (i : Int) (t : Tr) (lv : Nat) (ht : TrOk t) : AC Try.prog 45 [i64 i, .fp lv (trC t)] emp (Ret (tf (badZ t i))) := by
 have hb1 := ht.1
 refine AC.intro te_ok (fn := Try.f45) ⟨Try.func45, rfl, rfl⟩ (Nat.le_of_ble_eq_true rfl) ?_
 refine AWp.seq ?_
 refine AWp.region ?_
 refine AOps.cons rfl rfl (q_assign) ?_
 refine AOps.nil ?_
 refine AWp.seq ?_
 refine AWp.region ?_
 refine AOps.cons rfl rfl (q_move) ?_
 refine AOps.dec rfl rfl (q_lss) (fun h1_1 => ?_) (fun h1_1 => ?_)
 ·
  refine AOps.cons rfl rfl (q_move) ?_
  refine AOps.gskip rfl rfl rfl rfl rfl rfl rfl rfl ?_
  refine AOps.gskip rfl rfl rfl rfl rfl rfl rfl rfl ?_
  refine AOps.gskip rfl rfl rfl rfl rfl rfl rfl rfl ?_
  refine AOps.gskip rfl rfl rfl rfl rfl rfl rfl rfl ?_
  refine AOps.gskip rfl rfl rfl rfl rfl rfl rfl rfl ?_
  refine AOps.cons rfl rfl (q_pick) ?_
  refine AOps.cons rfl rfl (q_assign) ?_
  refine AOps.nil ?_
  refine AWp.ret ?_
  show Fin te Try.f45 _ _
  refine q_ret (0) [_] [_] ?_
  exact congrArg tf (by simp [badZ, *]; try omega)
 ·
  refine AOps.cons rfl rfl (q_move) ?_
  refine AOps.gcons rfl rfl rfl rfl rfl (q_move) ?_
  refine AOps.gcons rfl rfl rfl rfl rfl (q_fa) ?_
  refine AOps.gcons rfl rfl rfl rfl rfl (q_load) ?_
  refine AOps.gcons rfl rfl rfl rfl rfl (q_len) ?_
  refine AOps.gcons rfl rfl rfl rfl rfl (q_geq) ?_
  refine AOps.cons rfl rfl (q_pick) ?_
  refine AOps.cons rfl rfl (q_assign) ?_
  refine AOps.nil ?_
  refine AWp.ret ?_
  show Fin te Try.f45 _ _
  refine q_ret (0) [_] [_] ?_
  exact congrArg tf (by simp [badZ, *]; try omega)
end Go.Proofs.Ytiojkmccnabmfaa.Fw


set_option linter.unusedVariables false
set_option linter.unusedSimpArgs false
namespace Go.Proofs.Ytiojkmccnabmfaa.Fw
open Go.RowKit
theorem kid4 (a b : Prop) [Decidable a] [Decidable b] (c : Bool) : (a ∧ b ∧ c = true) ∨ (a ∧ b ∧ c = false) ∨ (a ∧ ¬ b) ∨ ¬ a := by
  by_cases h1 : a
  · by_cases h2 : b
    · cases c
      · exact .inr (.inl ⟨h1, h2, rfl⟩)
      · exact .inl ⟨h1, h2, rfl⟩
    · exact .inr (.inr (.inl ⟨h1, h2⟩))
  · exact .inr (.inr (.inr h1))
set_option maxRecDepth 20000 in
set_option maxHeartbeats 2000000 in
theorem c_zone_joined_1 (t : Tr) (up : List Int) (k : Int) (z : Zo) (r : Rr) (lv lu : Nat) (ht : TrOk t) (hz : ZoOk z) (hr : r.nm.length ≤ 140737488351232) (hu : up.length = t.zs.length) (hl : lu ≤ lv) : AC Try.prog 58 [.agg (rrc r), .fp lv (zoC z), .fp lv (trC t), .fp lv [.fz lu up.length (cl ic up)], .fp lv [i64 k]] emp (Ret (tf (joinQ t up k z r))) := by
 have hb1 := ht.1
 have hol := hz.1
 refine AC.intro te_ok (fn := Try.f58) ⟨Try.func58, rfl, rfl⟩ (Nat.le_of_ble_eq_true rfl) ?_
 refine AWp.seq ?_
 refine AWp.region ?_
 refine AOps.cons rfl rfl (q_box 100) ?_
 refine AOps.cons rfl rfl (q_assign) ?_
 refine AOps.nil ?_
 refine AWp.seq ?_
 refine AWp.seq ?_
 refine AWp.region ?_
 refine AOps.cons rfl rfl (q_fa) ?_
 refine AOps.cons rfl rfl (q_load) ?_
 refine AOps.dec rfl rfl (q_neq) (fun h1_2 => ?_) (fun h1_2 => ?_)
 ·
  refine AOps.cons rfl rfl (q_move) ?_
  refine AOps.gskip rfl rfl rfl rfl rfl rfl rfl rfl ?_
  refine AOps.gskip rfl rfl rfl rfl rfl rfl rfl rfl ?_
  refine AOps.gskip rfl rfl rfl rfl rfl rfl rfl rfl ?_
  refine AOps.gskip rfl rfl rfl rfl rfl rfl rfl rfl ?_
  refine AOps.gskip rfl rfl rfl rfl rfl rfl rfl rfl ?_
  refine AOps.cons rfl rfl (q_pick) ?_
  refine AOps.nil ?_
  refine AWp.cond_t rfl ?_
  refine AWp.seq ?_
  refine AWp.region ?_
  refine AOps.cons rfl rfl (q_assign) ?_
  refine AOps.nil ?_
  refine AWp.ret ?_
  show Fin te Try.f58 _ _
  refine q_ret (0) [_] [_] ?_
  exact congrArg tf (by simp [joinQ, *])
 ·
  refine AOps.cons rfl rfl (q_move) ?_
  refine AOps.gcons rfl rfl rfl rfl rfl (q_fa) ?_
  refine AOps.gcons rfl rfl rfl rfl rfl (q_load) ?_
  refine AOps.gcons rfl rfl rfl rfl rfl (q_fa) ?_
  refine AOps.gcons rfl rfl rfl rfl rfl (q_load) ?_
  refine AOps.gbool rfl rfl rfl rfl rfl (q_call (lv) (hc := (c_name_Same r.nm z.o (by omega) (by omega)))) (fun h1_8 => ?_) (fun h1_8 => ?_)
  ·
   refine AOps.cons rfl rfl (q_pick) ?_
   refine AOps.nil ?_
   refine AWp.cond_t rfl ?_
   refine AWp.seq ?_
   refine AWp.region ?_
   refine AOps.cons rfl rfl (q_assign) ?_
   refine AOps.nil ?_
   refine AWp.ret ?_
   show Fin te Try.f58 _ _
   refine q_ret (0) [_] [_] ?_
   exact congrArg tf (by simp [joinQ, *])
  ·
   refine AOps.cons rfl rfl (q_pick) ?_
   refine AOps.nil ?_
   refine AWp.cond_f rfl ?_
   refine AWp.skip ?_
   refine AWp.seq ?_
   refine AWp.seq ?_
   refine AWp.region ?_
   refine AOps.cons rfl rfl (q_fa) ?_
   refine AOps.cons rfl rfl (q_load) ?_
   refine AOps.cons rfl rfl (q_len) ?_
   refine AOps.cons rfl rfl (q_move) ?_
   refine AOps.nil ?_
   refine AWp.block ?_
   refine AWp.loopR (α := Nat) [6, 7, 8, 22, 23, 24, 25, 26, 27, 28, 29, 30, 31, 32, 33, 34, 35, 36, 37, 38, 39, 40, 41, 42, 43, 44] (fun i => [(22, i64 i)]) (fun i => []) (fun i => i ≤ t.zs.length ∧ ∀ j, j < i → childB t up k r.nm j = false) (fun i => t.zs.length - i) 0 ?_ (Back.mk' (HasT.cons HasT.nil) HasH.nil) ?_
   ·
    exact ⟨Nat.zero_le _, fun j hj => absurd hj (Nat.not_lt_zero j)⟩
   ·
    rintro i ⟨hi, hc⟩
    refine AWp.seq ?_
    refine AWp.region ?_
    refine AOps.dec rfl rfl (q_lss) (fun h4_0 => ?_) (fun h4_0 => ?_)
    ·
     refine AOps.nil ?_
     refine AWp.seq ?_
     refine AWp.cond_t rfl ?_
     refine AWp.skip ?_
     refine AWp.seq ?_
     refine AWp.block ?_
     refine AWp.seq ?_
     refine AWp.region ?_
     refine AOps.cons rfl rfl (q_move) ?_
     refine AOps.cons rfl rfl (q_ix) ?_
     refine AOps.cons rfl rfl (q_load) ?_
     refine AOps.cons rfl rfl (q_alloc 603) ?_
     refine AOps.cons rfl rfl (q_assign) ?_
     refine AOps.cons rfl rfl (q_store) ?_
     refine AOps.nil ?_
     refine AWp.seq ?_
     have hzi := ht.2.1 _ (getD_mem' (l := t.zs) (i := i) (by omega))
     have hzl := hzi.1
     rcases kid4 (0 < (i : Int)) (up.getD i default = k) (sameN (t.zs.getD i default).o r.nm) with ⟨h1, h2, h3⟩ | ⟨h1, h2, h3⟩ | ⟨h1, h2⟩ | h1
     ·
      refine AWp.draws [⟨0, [7], [], some 27, _, none⟩,
          ⟨1, [27], [], some 28, _, none⟩,
          ⟨2, [28], [], some 29, _, none⟩,
          ⟨3, [3, 29], [], some 30, _, none⟩,
          ⟨4, [7, 29], [], some 31, _, none⟩,
          ⟨5, [29, 30, 31], [], some 32, _, none⟩,
          ⟨6, [29, 32], [], some 33, _, none⟩,
          ⟨7, [4, 29], [], some 34, _, none⟩,
          ⟨8, [29, 33, 34], [], some 35, _, none⟩,
          ⟨9, [29, 35], [], some 36, _, none⟩,
          ⟨10, [36], [], some 37, _, none⟩,
          ⟨11, [8, 37], [603], some 38, _, none⟩,
          ⟨12, [37, 38], [603], some 39, _, none⟩,
          ⟨13, [5, 37], [100], some 40, _, none⟩,
          ⟨14, [37, 40], [100], some 41, _, none⟩,
          ⟨15, [37, 39, 41], [], some 42, _, none⟩,
          ⟨16, [37, 42], [], some 43, _, none⟩]
       [⟨0, [7], [], some 27, .any, none⟩,
           ⟨1, [27], [], some 28, .any, none⟩,
           ⟨2, [28], [], some 29, .any, none⟩,
           ⟨3, [3, 29], [], some 30, .any, none⟩,
           ⟨4, [7, 29], [], some 31, .any, none⟩,
           ⟨5, [29, 30, 31], [], some 32, .any, none⟩,
           ⟨6, [29, 32], [], some 33, .any, none⟩,
           ⟨7, [4, 29], [], some 34, .any, none⟩,
           ⟨8, [29, 33, 34], [], some 35, .any, none⟩,
           ⟨9, [29, 35], [], some 36, .any, none⟩,
           ⟨10, [36], [], some 37, .any, none⟩,
           ⟨11, [8, 37], [603], some 38, .any, none⟩,
           ⟨12, [37, 38], [603], some 39, .any, none⟩,
           ⟨13, [5, 37], [100], some 40, .any, none⟩,
           ⟨14, [37, 40], [100], some 41, .any, none⟩,
           ⟨15, [37, 39, 41], [], some 42, .any, none⟩,
           ⟨16, [37, 42], [], some 43, .any, none⟩]
       mixed_ok rfl (by kernel_rfl) ⟨DS.ok_over fun s0 => OpAt.go rfl rfl (q_move),
           DS.ok_over fun s0 => OpAt.go rfl rfl ((OpOk.dec_t (q_gtr) (h1))),
           DS.ok_over fun s0 => OpAt.go rfl rfl (q_move),
           DS.ok_over fun s0 => OpAt.ggo rfl rfl rfl rfl rfl (q_load),
           DS.ok_over fun s0 => OpAt.ggo rfl rfl rfl rfl rfl (q_move),
           DS.ok_over fun s0 => OpAt.ggo rfl rfl rfl rfl rfl (q_ix),
           DS.ok_over fun s0 => OpAt.ggo rfl rfl rfl rfl rfl (q_load),
           DS.ok_over fun s0 => OpAt.ggo rfl rfl rfl rfl rfl (q_load),
           DS.ok_over fun s0 => OpAt.ggo rfl rfl rfl rfl rfl ((OpOk.dec_t (q_eql) (h2))),
           DS.ok_over fun s0 => OpAt.go rfl rfl (q_pick),
           DS.ok_over fun s0 => OpAt.go rfl rfl (q_move),
           DS.ok_over fun s0 => OpAt.ggo rfl rfl rfl rfl rfl (q_fa),
           DS.ok_over fun s0 => OpAt.ggo rfl rfl rfl rfl rfl (q_load),
           DS.ok_over fun s0 => OpAt.ggo rfl rfl rfl rfl rfl (q_fa),
           DS.ok_over fun s0 => OpAt.ggo rfl rfl rfl rfl rfl (q_load),
           DS.ok_over fun s0 => OpAt.ggo rfl rfl rfl rfl rfl ((OpOk.bool_is (c := true) (q_call (lv) (hc := (c_name_Same (t.zs.getD i default).o r.nm (by omega) (by omega)))) (h3))),
           DS.ok_over fun s0 => OpAt.go rfl rfl (q_pick), trivial⟩ ?_
      dsimp only [final, DS.upd, AS.seto]
      refine AWp.cond_t rfl ?_
      refine AWp.seq ?_
      refine AWp.region ?_
      refine AOps.cons rfl rfl (q_assign) ?_
      refine AOps.nil ?_
      refine AWp.ret ?_
      show Fin te Try.f58 _ _
      refine q_ret (0) [_] [_] ?_
      exact congrArg tf (by rw [joinQ, range_any_yes (j := i) (by omega) (show childB t up k r.nm i = true by rw [childB, decide_eq_true (by omega), decide_eq_true h2, h3]; rfl), Bool.not_true, Bool.and_false])
     ·
      refine AWp.draws [⟨0, [7], [], some 27, _, none⟩,
          ⟨1, [27], [], some 28, _, none⟩,
          ⟨2, [28], [], some 29, _, none⟩,
          ⟨3, [3, 29], [], some 30, _, none⟩,
          ⟨4, [7, 29], [], some 31, _, none⟩,
          ⟨5, [29, 30, 31], [], some 32, _, none⟩,
          ⟨6, [29, 32], [], some 33, _, none⟩,
          ⟨7, [4, 29], [], some 34, _, none⟩,
          ⟨8, [29, 33, 34], [], some 35, _, none⟩,
          ⟨9, [29, 35], [], some 36, _, none⟩,
          ⟨10, [36], [], some 37, _, none⟩,
          ⟨11, [8, 37], [603], some 38, _, none⟩,
          ⟨12, [37, 38], [603], some 39, _, none⟩,
          ⟨13, [5, 37], [100], some 40, _, none⟩,
          ⟨14, [37, 40], [100], some 41, _, none⟩,
          ⟨15, [37, 39, 41], [], some 42, _, none⟩,
          ⟨16, [37, 42], [], some 43, _, none⟩]
       [⟨0, [7], [], some 27, .any, none⟩,
           ⟨1, [27], [], some 28, .any, none⟩,
           ⟨2, [28], [], some 29, .any, none⟩,
           ⟨3, [3, 29], [], some 30, .any, none⟩,
           ⟨4, [7, 29], [], some 31, .any, none⟩,
           ⟨5, [29, 30, 31], [], some 32, .any, none⟩,
           ⟨6, [29, 32], [], some 33, .any, none⟩,
           ⟨7, [4, 29], [], some 34, .any, none⟩,
           ⟨8, [29, 33, 34], [], some 35, .any, none⟩,
           ⟨9, [29, 35], [], some 36, .any, none⟩,
           ⟨10, [36], [], some 37, .any, none⟩,
           ⟨11, [8, 37], [603], some 38, .any, none⟩,
           ⟨12, [37, 38], [603], some 39, .any, none⟩,
           ⟨13, [5, 37], [100], some 40, .any, none⟩,
           ⟨14, [37, 40], [100], some 41, .any, none⟩,
           ⟨15, [37, 39, 41], [], some 42, .any, none⟩,
           ⟨16, [37, 42], [], some 43, .any, none⟩]
       mixed_ok rfl (by kernel_rfl) ⟨DS.ok_over fun s0 => OpAt.go rfl rfl (q_move),
           DS.ok_over fun s0 => OpAt.go rfl rfl ((OpOk.dec_t (q_gtr) (h1))),
           DS.ok_over fun s0 => OpAt.go rfl rfl (q_move),
           DS.ok_over fun s0 => OpAt.ggo rfl rfl rfl rfl rfl (q_load),
           DS.ok_over fun s0 => OpAt.ggo rfl rfl rfl rfl rfl (q_move),
           DS.ok_over fun s0 => OpAt.ggo rfl rfl rfl rfl rfl (q_ix),
           DS.ok_over fun s0 => OpAt.ggo rfl rfl rfl rfl rfl (q_load),
           DS.ok_over fun s0 => OpAt.ggo rfl rfl rfl rfl rfl (q_load),
           DS.ok_over fun s0 => OpAt.ggo rfl rfl rfl rfl rfl ((OpOk.dec_t (q_eql) (h2))),
           DS.ok_over fun s0 => OpAt.go rfl rfl (q_pick),
           DS.ok_over fun s0 => OpAt.go rfl rfl (q_move),
           DS.ok_over fun s0 => OpAt.ggo rfl rfl rfl rfl rfl (q_fa),
           DS.ok_over fun s0 => OpAt.ggo rfl rfl rfl rfl rfl (q_load),
           DS.ok_over fun s0 => OpAt.ggo rfl rfl rfl rfl rfl (q_fa),
           DS.ok_over fun s0 => OpAt.ggo rfl rfl rfl rfl rfl (q_load),
           DS.ok_over fun s0 => OpAt.ggo rfl rfl rfl rfl rfl ((OpOk.bool_is (c := false) (q_call (lv) (hc := (c_name_Same (t.zs.getD i default).o r.nm (by omega) (by omega)))) (h3))),
           DS.ok_over fun s0 => OpAt.go rfl rfl (q_pick), trivial⟩ ?_
      dsimp only [final, DS.upd, AS.seto]
      refine AWp.cond_f rfl ?_
      refine AWp.skip ?_
      refine AWp.region ?_
      refine AOps.cons rfl rfl (q_add) ?_
      refine AOps.cons rfl rfl (q_move) ?_
      refine AOps.nil ?_
      refine ⟨i + 1, ?_, Back.mk' (HasT.cons HasT.nil) HasH.nil, ?_⟩
      ·
       exact ⟨by omega, lt_step hc (by rw [childB, h3, Bool.and_false])⟩
      ·
       first | omega | (simp; omega)
     ·
      refine AWp.draws [⟨0, [7], [], some 27, _, none⟩,
          ⟨1, [27], [], some 28, _, none⟩,
          ⟨2, [28], [], some 29, _, none⟩,
          ⟨3, [3, 29], [], some 30, _, none⟩,
          ⟨4, [7, 29], [], some 31, _, none⟩,
          ⟨5, [29, 30, 31], [], some 32, _, none⟩,
          ⟨6, [29, 32], [], some 33, _, none⟩,
          ⟨7, [4, 29], [], some 34, _, none⟩,
          ⟨8, [29, 33, 34], [], some 35, _, none⟩,
          ⟨9, [29, 35], [], some 36, _, none⟩,
          ⟨10, [36], [], some 37, _, none⟩,
          ⟨11, [37], [], some 38, .v undef, none⟩,
          ⟨12, [37], [], some 39, .v undef, none⟩,
          ⟨13, [37], [], some 40, .v undef, none⟩,
          ⟨14, [37], [], some 41, .v undef, none⟩,
          ⟨15, [37], [], some 42, .v undef, none⟩,
          ⟨16, [37, 42], [], some 43, _, none⟩]
       [⟨0, [7], [], some 27, .any, none⟩,
           ⟨1, [27], [], some 28, .any, none⟩,
           ⟨2, [28], [], some 29, .any, none⟩,
           ⟨3, [3, 29], [], some 30, .any, none⟩,
           ⟨4, [7, 29], [], some 31, .any, none⟩,
           ⟨5, [29, 30, 31], [], some 32, .any, none⟩,
           ⟨6, [29, 32], [], some 33, .any, none⟩,
           ⟨7, [4, 29], [], some 34, .any, none⟩,
           ⟨8, [29, 33, 34], [], some 35, .any, none⟩,
           ⟨9, [29, 35], [], some 36, .any, none⟩,
           ⟨10, [36], [], some 37, .any, none⟩,
           ⟨11, [37], [], some 38, .any, none⟩,
           ⟨12, [37], [], some 39, .any, none⟩,
           ⟨13, [37], [], some 40, .any, none⟩,
           ⟨14, [37], [], some 41, .any, none⟩,
           ⟨15, [37], [], some 42, .any, none⟩,
           ⟨16, [37, 42], [], some 43, .any, none⟩]
       mixed_ok rfl (by kernel_rfl) ⟨DS.ok_over fun s0 => OpAt.go rfl rfl (q_move),
           DS.ok_over fun s0 => OpAt.go rfl rfl ((OpOk.dec_t (q_gtr) (h1))),
           DS.ok_over fun s0 => OpAt.go rfl rfl (q_move),
           DS.ok_over fun s0 => OpAt.ggo rfl rfl rfl rfl rfl (q_load),
           DS.ok_over fun s0 => OpAt.ggo rfl rfl rfl rfl rfl (q_move),
           DS.ok_over fun s0 => OpAt.ggo rfl rfl rfl rfl rfl (q_ix),
           DS.ok_over fun s0 => OpAt.ggo rfl rfl rfl rfl rfl (q_load),
           DS.ok_over fun s0 => OpAt.ggo rfl rfl rfl rfl rfl (q_load),
           DS.ok_over fun s0 => OpAt.ggo rfl rfl rfl rfl rfl ((OpOk.dec_f (q_eql) (h2))),
           DS.ok_over fun s0 => OpAt.go rfl rfl (q_pick),
           DS.ok_over fun s0 => OpAt.go rfl rfl (q_move),
           DS.ok_over fun s0 => OpAt.gskip rfl rfl rfl rfl rfl rfl rfl rfl,
           DS.ok_over fun s0 => OpAt.gskip rfl rfl rfl rfl rfl rfl rfl rfl,
           DS.ok_over fun s0 => OpAt.gskip rfl rfl rfl rfl rfl rfl rfl rfl,
           DS.ok_over fun s0 => OpAt.gskip rfl rfl rfl rfl rfl rfl rfl rfl,
           DS.ok_over fun s0 => OpAt.gskip rfl rfl rfl rfl rfl rfl rfl rfl,
           DS.ok_over fun s0 => OpAt.go rfl rfl (q_pick), trivial⟩ ?_
      dsimp only [final, DS.upd, AS.seto]
      refine AWp.cond_f rfl ?_
      refine AWp.skip ?_
      refine AWp.region ?_
      refine AOps.cons rfl rfl (q_add) ?_
      refine AOps.cons rfl rfl (q_move) ?_
      refine AOps.nil ?_
      refine ⟨i + 1, ?_, Back.mk' (HasT.cons HasT.nil) HasH.nil, ?_⟩
      ·
       exact ⟨by omega, lt_step hc (by rw [childB, decide_eq_false h2, Bool.and_false, Bool.false_and])⟩
      ·
       first | omega | (simp; omega)
     ·
      refine AWp.draws [⟨0, [7], [], some 27, _, none⟩,
          ⟨1, [27], [], some 28, _, none⟩,
          ⟨2, [28], [], some 29, _, none⟩,
          ⟨3, [29], [], some 30, .v undef, none⟩,
          ⟨4, [29], [], some 31, .v undef, none⟩,
          ⟨5, [29], [], some 32, .v undef, none⟩,
          ⟨6, [29], [], some 33, .v undef, none⟩,
          ⟨7, [29], [], some 34, .v undef, none⟩,
          ⟨8, [29], [], some 35, .v undef, none⟩,
          ⟨9, [29, 35], [], some 36, _, none⟩,
          ⟨10, [36], [], some 37, _, none⟩,
          ⟨11, [37], [], some 38, .v undef, none⟩,
          ⟨12, [37], [], some 39, .v undef, none⟩,
          ⟨13, [37], [], some 40, .v undef, none⟩,
          ⟨14, [37], [], some 41, .v undef, none⟩,
          ⟨15, [37], [], some 42, .v undef, none⟩,
          ⟨16, [37, 42], [], some 43, _, none⟩]
       [⟨0, [7], [], some 27, .any, none⟩,
           ⟨1, [27], [], some 28, .any, none⟩,
           ⟨2, [28], [], some 29, .any, none⟩,
           ⟨3, [29], [], some 30, .any, none⟩,
           ⟨4, [29], [], some 31, .any, none⟩,
           ⟨5, [29], [], some 32, .any, none⟩,
           ⟨6, [29], [], some 33, .any, none⟩,
           ⟨7, [29], [], some 34, .any, none⟩,
           ⟨8, [29], [], some 35, .any, none⟩,
           ⟨9, [29, 35], [], some 36, .any, none⟩,
           ⟨10, [36], [], some 37, .any, none⟩,
           ⟨11, [37], [], some 38, .any, none⟩,
           ⟨12, [37], [], some 39, .any, none⟩,
           ⟨13, [37], [], some 40, .any, none⟩,
           ⟨14, [37], [], some 41, .any, none⟩,
           ⟨15, [37], [], some 42, .any, none⟩,
           ⟨16, [37, 42], [], some 43, .any, none⟩]
       mixed_ok rfl (by kernel_rfl) ⟨DS.ok_over fun s0 => OpAt.go rfl rfl (q_move),
           DS.ok_over fun s0 => OpAt.go rfl rfl ((OpOk.dec_f (q_gtr) (h1))),
           DS.ok_over fun s0 => OpAt.go rfl rfl (q_move),
           DS.ok_over fun s0 => OpAt.gskip rfl rfl rfl rfl rfl rfl rfl rfl,
           DS.ok_over fun s0 => OpAt.gskip rfl rfl rfl rfl rfl rfl rfl rfl,
           DS.ok_over fun s0 => OpAt.gskip rfl rfl rfl rfl rfl rfl rfl rfl,
           DS.ok_over fun s0 => OpAt.gskip rfl rfl rfl rfl rfl rfl rfl rfl,
           DS.ok_over fun s0 => OpAt.gskip rfl rfl rfl rfl rfl rfl rfl rfl,
           DS.ok_over fun s0 => OpAt.gskip rfl rfl rfl rfl rfl rfl rfl rfl,
           DS.ok_over fun s0 => OpAt.go rfl rfl (q_pick),
           DS.ok_over fun s0 => OpAt.go rfl rfl (q_move),
           DS.ok_over fun s0 => OpAt.gskip rfl rfl rfl rfl rfl rfl rfl rfl,
           DS.ok_over fun s0 => OpAt.gskip rfl rfl rfl rfl rfl rfl rfl rfl,
           DS.ok_over fun s0 => OpAt.gskip rfl rfl rfl rfl rfl rfl rfl rfl,
           DS.ok_over fun s0 => OpAt.gskip rfl rfl rfl rfl rfl rfl rfl rfl,
           DS.ok_over fun s0 => OpAt.gskip rfl rfl rfl rfl rfl rfl rfl rfl,
           DS.ok_over fun s0 => OpAt.go rfl rfl (q_pick), trivial⟩ ?_
      dsimp only [final, DS.upd, AS.seto]
      refine AWp.cond_f rfl ?_
      refine AWp.skip ?_
      refine AWp.region ?_
      refine AOps.cons rfl rfl (q_add) ?_
      refine AOps.cons rfl rfl (q_move) ?_
      refine AOps.nil ?_
      refine ⟨i + 1, ?_, Back.mk' (HasT.cons HasT.nil) HasH.nil, ?_⟩
      ·
       exact ⟨by omega, lt_step hc (by rw [childB, decide_eq_false (by omega), Bool.false_and, Bool.false_and])⟩
      ·
       first | omega | (simp; omega)
    ·
     refine AOps.nil ?_
     refine AWp.seq ?_
     refine AWp.cond_f rfl ?_
     refine AWp.exit ?_
     refine AWp.seq ?_
     refine AWp.region ?_
     refine AOps.cons rfl rfl (q_assign) ?_
     refine AOps.nil ?_
     refine AWp.ret ?_
     show Fin te Try.f58 _ _
     refine q_ret (0) [_] [_] ?_
     obtain rfl : i = t.zs.length := by omega
     exact congrArg tf (by rw [joinQ, range_any_no hc]; simp_all)
end Go.Proofs.Ytiojkmccnabmfaa.Fw


set_option linter.unusedVariables false
set_option linter.unusedSimpArgs false
namespace Go.Proofs.Ytiojkmccnabmfaa.Fw
open Go.RowKit
theorem sameN_nil (n : List UInt8) : sameN [] n = false := by
  unfold sameN
  have : canN [] = false := by
    cases h : canN [] with
    | false => rfl
    | true => exact absurd rfl (canN_ne h)
  rw [this]; rfl
theorem joinZ_no {t : Tr} {up : List Int} {k : Int} {j : Nat} (hj : j < t.zs.length) (h : kidO t up k j = false) : joinZ t up k = false := by rw [joinZ, range_all_no hj h, Bool.false_and]
theorem kidO_no {t : Tr} {up : List Int} {k : Int} {i : Nat} (h0 : ¬ (i : Int) = 0) (h1 : up.getD i default = k) (h : (sameN (cutZ (zAt t k) (t.zs.getD i default).o) (t.zs.getD i default).o && subR (atZ (zAt t k) (t.zs.getD i default).o 2) (atZ (t.zs.getD i default) (t.zs.getD i default).o 2) && subR (atZ (t.zs.getD i default) (t.zs.getD i default).o 2) (atZ (zAt t k) (t.zs.getD i default).o 2)) = false) : kidO t up k i = false := by
  rw [kidO, decide_eq_false (by omega), decide_eq_false (by simpa using h1), h]; rfl
theorem kidO_yes {t : Tr} {up : List Int} {k : Int} {i : Nat} (h1 : sameN (cutZ (zAt t k) (t.zs.getD i default).o) (t.zs.getD i default).o = true) (h2 : subR (atZ (zAt t k) (t.zs.getD i default).o 2) (atZ (t.zs.getD i default) (t.zs.getD i default).o 2) = true) (h3 : subR (atZ (t.zs.getD i default) (t.zs.getD i default).o 2) (atZ (zAt t k) (t.zs.getD i default).o 2) = true) : kidO t up k i = true := by
  rw [kidO, h1, h2, h3]; simp
theorem kid3 (a b : Prop) [Decidable a] [Decidable b] : a ∨ (¬ a ∧ ¬ b) ∨ (¬ a ∧ b) := by
  by_cases h1 : a
  · exact .inl h1
  · by_cases h2 : b
    · exact .inr (.inr ⟨h1, h2⟩)
    · exact .inr (.inl ⟨h1, h2⟩)
theorem srvT_no {t : Tr} {j : Nat} (hj : j < t.ss.length) (h : svO t j = false) : srvT t = false := by rw [srvT, range_all_no hj h, Bool.and_false]
theorem srvT_yes {t : Tr} (h : ∀ j, j < t.ss.length → svO t j = true) : srvT t = decide (t.ss.length ≤ 40) := by rw [srvT, range_all_iff.2 h, Bool.and_true]
def MetA (t : Tr) (i : Nat) (m : List (Int × Bool)) : Prop := ∀ a, (mget m a).getD false = decide (a ∈ (t.ss.take i).map Sv.ad)
theorem MetA.start (t : Tr) : MetA t 0 [] := fun a => by simp [mget]
theorem MetA.step {t : Tr} {i : Nat} {m : List (Int × Bool)} (h : MetA t i m) (hi : i < t.ss.length) : MetA t (i + 1) (mput m (t.ss.getD i default).ad true) := fun a => by
  rw [mget_put, map_step hi]
  obtain ⟨x, hx⟩ : ∃ x, x = (t.ss.getD i default).ad := ⟨_, rfl⟩
  rw [← hx]
  by_cases e : x = a
  · rw [if_pos e]; simp [e]
  · rw [if_neg e, h a]
    have e2 : ¬ a = x := fun k => e k.symm
    simp [e2]
theorem baseO_yes {z : Zo} {r : Rr} (a : withN r.nm z.o = true) (b : ¬ ¬ r.cs = 1) (c : ¬ r.ttl < 0) (d : ¬ 2147483647 < r.ttl) (e : ¬ r.ty < 1) (f : ¬ 65535 < r.ty) (g : canS r.ty r.da = true) : baseO z r = true := by
  rw [Decidable.not_not] at b
  rw [baseO, a, g, decide_eq_true b, decide_eq_true (by omega), decide_eq_true (by omega), decide_eq_true (by omega), decide_eq_true (by omega)]; rfl
theorem inZ_base {z : Zo} {r : Rr} (h : baseO z r = true) : inZ z r = (restO z r && (!decide (r.ty = 5) || decide (cntS z r.nm = 1))) := by rw [inZ, recO, h, Bool.true_and]
section
variable {t : Tr} {i : Nat} {m : List (Int × Bool)}
theorem svO_1 (h : (t.ss.getD i default).ad < 0) : svO t i = false := by rw [svO, decide_eq_false (by omega)]; rfl
theorem svO_2 (h : 4294967295 < (t.ss.getD i default).ad) : svO t i = false := by rw [svO, decide_eq_false (p := (t.ss.getD i default).ad ≤ 4294967295) (by omega), Bool.and_false]; rfl
theorem svO_3 (hm : MetA t i m) (h : (mget m (t.ss.getD i default).ad).getD false = true) : svO t i = false := by rw [svO, ← hm, h, Bool.not_true, Bool.and_false]; rfl
theorem svO_4 (h : (t.ss.getD i default).zs.any (badZ t) = true) : svO t i = false := by rw [svO, h, Bool.not_true, Bool.and_false]
theorem svO_yes (hm : MetA t i m) (h1 : ¬ (t.ss.getD i default).ad < 0) (h2 : ¬ 4294967295 < (t.ss.getD i default).ad) (h3 : (mget m (t.ss.getD i default).ad).getD false = false) (h4 : (t.ss.getD i default).zs.any (badZ t) = false) : svO t i = true := by
  rw [svO, ← hm, h3, h4, decide_eq_true (by omega), decide_eq_true (by omega)]; rfl
end
set_option maxRecDepth 20000 in
set_option maxHeartbeats 2000000 in
theorem c_zone_joined (t : Tr) (up : List Int) (k : Int) (lu : Nat) (ht : TrOk t) (hu : up.length = t.zs.length) (hk : 0 ≤ k ∧ k < t.zs.length) : AC Try.prog 31 [.agg (trC t), .fz lu up.length (cl ic up), i64 k] emp (Ret (tf (joinZ t up k))) := by
 have hb1 := ht.1
 have hzk := zo_ok ht hk
 have hkl := hzk.1
 have hkr : (zAt t k).rs.length * 64 ≤ 140737488351232 := hzk.2.1.1
 refine AC.intro te_ok (fn := Try.f31) ⟨Try.func31, rfl, rfl⟩ (Nat.le_of_ble_eq_true rfl) ?_
 refine AWp.seq ?_
 refine AWp.region ?_
 refine AOps.cons rfl rfl (q_box 100) ?_
 refine AOps.cons rfl rfl (q_box 101) ?_
 refine AOps.cons rfl rfl (q_box 102) ?_
 refine AOps.cons rfl rfl (q_assign) ?_
 refine AOps.nil ?_
 refine AWp.seq ?_
 refine AWp.region ?_
 refine AOps.cons rfl rfl (q_fa) ?_
 refine AOps.cons rfl rfl (q_load) ?_
 refine AOps.cons rfl rfl (q_load) ?_
 refine AOps.cons rfl rfl (q_ix) ?_
 refine AOps.cons rfl rfl (q_load) ?_
 refine AOps.cons rfl rfl (q_alloc 205) ?_
 refine AOps.cons rfl rfl (q_store) ?_
 refine AOps.nil ?_
 refine AWp.seq ?_
 refine AWp.seq ?_
 refine AWp.region ?_
 refine AOps.cons rfl rfl (q_fa) ?_
 refine AOps.cons rfl rfl (q_load) ?_
 refine AOps.cons rfl rfl (q_len) ?_
 refine AOps.cons rfl rfl (q_move) ?_
 refine AOps.nil ?_
 refine AWp.block ?_
 refine AWp.loopR (α := Nat) [6, 8, 9, 10, 11, 12, 13, 22, 23, 24, 25, 26, 27, 28, 29, 30, 31, 32, 33, 34, 35, 36, 37, 38, 39, 40, 41, 42, 43, 44, 45, 46, 47, 48, 49, 50, 51, 52, 53, 54, 55, 56, 57, 58, 59, 60, 61, 62, 63, 64, 65, 66, 67, 68, 69, 70, 71, 72, 73] (fun i => [(22, i64 i)]) (fun i => []) (fun i => i ≤ t.zs.length ∧ ∀ j, j < i → kidO t up k j = true) (fun i => t.zs.length - i) 0 ?_ (Back.mk' (HasT.cons HasT.nil) HasH.nil) ?_
 ·
  exact ⟨Nat.zero_le _, fun j hj => absurd hj (Nat.not_lt_zero j)⟩
 ·
  rintro i ⟨hi, hc⟩
  refine AWp.seq ?_
  refine AWp.region ?_
  refine AOps.dec rfl rfl (q_lss) (fun h3_0 => ?_) (fun h3_0 => ?_)
  ·
   refine AOps.nil ?_
   refine AWp.seq ?_
   refine AWp.cond_t rfl ?_
   refine AWp.skip ?_
   refine AWp.seq ?_
   refine AWp.block ?_
   refine AWp.seq ?_
   refine AWp.region ?_
   refine AOps.cons rfl rfl (q_move) ?_
   refine AOps.cons rfl rfl (q_ix) ?_
   refine AOps.cons rfl rfl (q_load) ?_
   refine AOps.cons rfl rfl (q_alloc 503) ?_
   refine AOps.cons rfl rfl (q_assign) ?_
   refine AOps.cons rfl rfl (q_store) ?_
   refine AOps.nil ?_
   refine AWp.seq ?_
   refine AWp.seq ?_
   have hzi := ht.2.1 _ (getD_mem' (l := t.zs) (i := i) (by omega))
   have hzl := hzi.1
   rcases kid3 ((i : Int) = 0) (up.getD i default = k) with h1 | ⟨h1, h2⟩ | ⟨h1, h2⟩
   ·
    refine AWp.draws [⟨0, [8], [], some 27, _, none⟩,
        ⟨1, [27], [], some 28, _, none⟩,
        ⟨2, [28], [], some 29, _, none⟩,
        ⟨3, [29], [], some 30, .v undef, none⟩,
        ⟨4, [29], [], some 31, .v undef, none⟩,
        ⟨5, [29], [], some 32, .v undef, none⟩,
        ⟨6, [29], [], some 33, .v undef, none⟩,
        ⟨7, [29], [], some 34, .v undef, none⟩,
        ⟨8, [29], [], some 35, .v undef, none⟩,
        ⟨9, [29, 35], [], some 36, _, none⟩]
     [⟨0, [8], [], some 27, .any, none⟩,
         ⟨1, [27], [], some 28, .any, none⟩,
         ⟨2, [28], [], some 29, .any, none⟩,
         ⟨3, [29], [], some 30, .any, none⟩,
         ⟨4, [29], [], some 31, .any, none⟩,
         ⟨5, [29], [], some 32, .any, none⟩,
         ⟨6, [29], [], some 33, .any, none⟩,
         ⟨7, [29], [], some 34, .any, none⟩,
         ⟨8, [29], [], some 35, .any, none⟩,
         ⟨9, [29, 35], [], some 36, .any, none⟩]
     mixed_ok rfl (by kernel_rfl) ⟨DS.ok_over fun s0 => OpAt.go rfl rfl (q_move),
         DS.ok_over fun s0 => OpAt.go rfl rfl ((OpOk.dec_t (q_eql) (h1))),
         DS.ok_over fun s0 => OpAt.go rfl rfl (q_move),
         DS.ok_over fun s0 => OpAt.gskip rfl rfl rfl rfl rfl rfl rfl rfl,
         DS.ok_over fun s0 => OpAt.gskip rfl rfl rfl rfl rfl rfl rfl rfl,
         DS.ok_over fun s0 => OpAt.gskip rfl rfl rfl rfl rfl rfl rfl rfl,
         DS.ok_over fun s0 => OpAt.gskip rfl rfl rfl rfl rfl rfl rfl rfl,
         DS.ok_over fun s0 => OpAt.gskip rfl rfl rfl rfl rfl rfl rfl rfl,
         DS.ok_over fun s0 => OpAt.gskip rfl rfl rfl rfl rfl rfl rfl rfl,
         DS.ok_over fun s0 => OpAt.go rfl rfl (q_pick), trivial⟩ ?_
    dsimp only [final, DS.upd, AS.seto]
    refine AWp.cond_t rfl ?_
    refine AWp.exit ?_
    refine AWp.region ?_
    refine AOps.cons rfl rfl (q_add) ?_
    refine AOps.cons rfl rfl (q_move) ?_
    refine AOps.nil ?_
    refine ⟨i + 1, ?_, Back.mk' (HasT.cons HasT.nil) HasH.nil, ?_⟩
    ·
     exact ⟨by omega, lt_step hc (by rw [kidO, decide_eq_true (by omega)]; rfl)⟩
    ·
     first | omega | (simp; omega)
   ·
    refine AWp.draws [⟨0, [8], [], some 27, _, none⟩,
        ⟨1, [27], [], some 28, _, none⟩,
        ⟨2, [28], [], some 29, _, none⟩,
        ⟨3, [4, 29], [101], some 30, _, none⟩,
        ⟨4, [8, 29], [], some 31, _, none⟩,
        ⟨5, [29, 30, 31], [], some 32, _, none⟩,
        ⟨6, [29, 32], [], some 33, _, none⟩,
        ⟨7, [5, 29], [102], some 34, _, none⟩,
        ⟨8, [29, 33, 34], [], some 35, _, none⟩,
        ⟨9, [29, 35], [], some 36, _, none⟩]
     [⟨0, [8], [], some 27, .any, none⟩,
         ⟨1, [27], [], some 28, .any, none⟩,
         ⟨2, [28], [], some 29, .any, none⟩,
         ⟨3, [4, 29], [101], some 30, .any, none⟩,
         ⟨4, [8, 29], [], some 31, .any, none⟩,
         ⟨5, [29, 30, 31], [], some 32, .any, none⟩,
         ⟨6, [29, 32], [], some 33, .any, none⟩,
         ⟨7, [5, 29], [102], some 34, .any, none⟩,
         ⟨8, [29, 33, 34], [], some 35, .any, none⟩,
         ⟨9, [29, 35], [], some 36, .any, none⟩]
     mixed_ok rfl (by kernel_rfl) ⟨DS.ok_over fun s0 => OpAt.go rfl rfl (q_move),
         DS.ok_over fun s0 => OpAt.go rfl rfl ((OpOk.dec_f (q_eql) (h1))),
         DS.ok_over fun s0 => OpAt.go rfl rfl (q_move),
         DS.ok_over fun s0 => OpAt.ggo rfl rfl rfl rfl rfl (q_load),
         DS.ok_over fun s0 => OpAt.ggo rfl rfl rfl rfl rfl (q_move),
         DS.ok_over fun s0 => OpAt.ggo rfl rfl rfl rfl rfl (q_ix),
         DS.ok_over fun s0 => OpAt.ggo rfl rfl rfl rfl rfl (q_load),
         DS.ok_over fun s0 => OpAt.ggo rfl rfl rfl rfl rfl (q_load),
         DS.ok_over fun s0 => OpAt.ggo rfl rfl rfl rfl rfl ((OpOk.dec_t (q_neq) (h2))),
         DS.ok_over fun s0 => OpAt.go rfl rfl (q_pick), trivial⟩ ?_
    dsimp only [final, DS.upd, AS.seto]
    refine AWp.cond_t rfl ?_
    refine AWp.exit ?_
    refine AWp.region ?_
    refine AOps.cons rfl rfl (q_add) ?_
    refine AOps.cons rfl rfl (q_move) ?_
    refine AOps.nil ?_
    refine ⟨i + 1, ?_, Back.mk' (HasT.cons HasT.nil) HasH.nil, ?_⟩
    ·
     exact ⟨by omega, lt_step hc (by rw [kidO, decide_eq_true h2, Bool.or_true]; rfl)⟩
    ·
     first | omega | (simp; omega)
   ·
    refine AWp.draws [⟨0, [8], [], some 27, _, none⟩,
        ⟨1, [27], [], some 28, _, none⟩,
        ⟨2, [28], [], some 29, _, none⟩,
        ⟨3, [4, 29], [101], some 30, _, none⟩,
        ⟨4, [8, 29], [], some 31, _, none⟩,
        ⟨5, [29, 30, 31], [], some 32, _, none⟩,
        ⟨6, [29, 32], [], some 33, _, none⟩,
        ⟨7, [5, 29], [102], some 34, _, none⟩,
        ⟨8, [29, 33, 34], [], some 35, _, none⟩,
        ⟨9, [29, 35], [], some 36, _, none⟩]
     [⟨0, [8], [], some 27, .any, none⟩,
         ⟨1, [27], [], some 28, .any, none⟩,
         ⟨2, [28], [], some 29, .any, none⟩,
         ⟨3, [4, 29], [101], some 30, .any, none⟩,
         ⟨4, [8, 29], [], some 31, .any, none⟩,
         ⟨5, [29, 30, 31], [], some 32, .any, none⟩,
         ⟨6, [29, 32], [], some 33, .any, none⟩,
         ⟨7, [5, 29], [102], some 34, .any, none⟩,
         ⟨8, [29, 33, 34], [], some 35, .any, none⟩,
         ⟨9, [29, 35], [], some 36, .any, none⟩]
     mixed_ok rfl (by kernel_rfl) ⟨DS.ok_over fun s0 => OpAt.go rfl rfl (q_move),
         DS.ok_over fun s0 => OpAt.go rfl rfl ((OpOk.dec_f (q_eql) (h1))),
         DS.ok_over fun s0 => OpAt.go rfl rfl (q_move),
         DS.ok_over fun s0 => OpAt.ggo rfl rfl rfl rfl rfl (q_load),
         DS.ok_over fun s0 => OpAt.ggo rfl rfl rfl rfl rfl (q_move),
         DS.ok_over fun s0 => OpAt.ggo rfl rfl rfl rfl rfl (q_ix),
         DS.ok_over fun s0 => OpAt.ggo rfl rfl rfl rfl rfl (q_load),
         DS.ok_over fun s0 => OpAt.ggo rfl rfl rfl rfl rfl (q_load),
         DS.ok_over fun s0 => OpAt.ggo rfl rfl rfl rfl rfl ((OpOk.dec_f (q_neq) (fun h => h h2))),
         DS.ok_over fun s0 => OpAt.go rfl rfl (q_pick), trivial⟩ ?_
    dsimp only [final, DS.upd, AS.seto]
    refine AWp.cond_f rfl ?_
    refine AWp.skip ?_
    refine AWp.seq ?_
    refine AWp.region ?_
    have hcl := cutZ_len hzk (t.zs.getD i default).o
    refine AOps.cons rfl rfl (q_load) ?_
    refine AOps.cons rfl rfl (q_fa) ?_
    refine AOps.cons rfl rfl (q_load) ?_
    refine AOps.cons rfl rfl (q_call (lu) (hc := (c_zone_cut (zAt t k) (t.zs.getD i default).o hzk hzl))) ?_
    refine AOps.cons rfl rfl (q_move) ?_
    refine AOps.cons rfl rfl (q_extract) ?_
    refine AOps.bool rfl rfl (q_extract) (fun h6_6 => ?_) (fun h6_6 => ?_)
    ·
     refine AOps.cons rfl rfl (q_assign) ?_
     refine AOps.cons rfl rfl (q_assign) ?_
     refine AOps.nil ?_
     refine AWp.seq ?_
     refine AWp.draws [⟨0, [7], [205], some 44, _, none⟩,
         ⟨1, [9], [503], some 45, _, none⟩,
         ⟨2, [45], [503], some 46, _, none⟩,
         ⟨3, [44, 46], [], some 47, _, none⟩,
         ⟨4, [9], [503], some 48, _, none⟩,
         ⟨5, [9], [503], some 49, _, none⟩,
         ⟨6, [49], [503], some 50, _, none⟩,
         ⟨7, [48, 50], [], some 51, _, none⟩,
         ⟨8, [47], [], some 12, _, none⟩,
         ⟨9, [51], [], some 13, _, none⟩]
      [⟨0, [7], [205], some 44, .any, none⟩,
          ⟨1, [9], [503], some 45, .any, none⟩,
          ⟨2, [45], [503], some 46, .any, none⟩,
          ⟨3, [44, 46], [], some 47, .any, none⟩,
          ⟨4, [9], [503], some 48, .any, none⟩,
          ⟨5, [9], [503], some 49, .any, none⟩,
          ⟨6, [49], [503], some 50, .any, none⟩,
          ⟨7, [48, 50], [], some 51, .any, none⟩,
          ⟨8, [47], [], some 12, .any, none⟩,
          ⟨9, [51], [], some 13, .any, none⟩]
      mixed_ok rfl (by kernel_rfl) ⟨DS.ok_over fun s0 => OpAt.go rfl rfl (q_load),
          DS.ok_over fun s0 => OpAt.go rfl rfl (q_fa),
          DS.ok_over fun s0 => OpAt.go rfl rfl (q_load),
          DS.ok_over fun s0 => OpAt.go rfl rfl (q_call (lu) (hc := (c_zone_at (zAt t k) (t.zs.getD i default).o 2 hzk hzl))),
          DS.ok_over fun s0 => OpAt.go rfl rfl (q_load),
          DS.ok_over fun s0 => OpAt.go rfl rfl (q_fa),
          DS.ok_over fun s0 => OpAt.go rfl rfl (q_load),
          DS.ok_over fun s0 => OpAt.go rfl rfl (q_call (lu) (hc := (c_zone_at (t.zs.getD i default) (t.zs.getD i default).o 2 hzi hzl))),
          DS.ok_over fun s0 => OpAt.go rfl rfl (q_assign),
          DS.ok_over fun s0 => OpAt.go rfl rfl (q_assign), trivial⟩ ?_
     dsimp only [final, DS.upd, AS.seto]
     refine AWp.seq ?_
     refine AWp.region ?_
     refine AOps.cons rfl rfl (q_move) ?_
     refine AOps.cons rfl rfl (q_not) ?_
     refine AOps.cons rfl rfl (q_move) ?_
     refine AOps.gcons rfl rfl rfl rfl rfl (q_move) ?_
     refine AOps.gcons rfl rfl rfl rfl rfl (q_fa) ?_
     refine AOps.gcons rfl rfl rfl rfl rfl (q_load) ?_
     refine AOps.gbool rfl rfl rfl rfl rfl (q_call (lu) (hc := (c_name_Same (cutZ (zAt t k) (t.zs.getD i default).o) (t.zs.getD i default).o (by omega) (by omega)))) (fun h8_6 => ?_) (fun h8_6 => ?_)
     ·
      refine AOps.gcons rfl rfl rfl rfl rfl (q_not) ?_
      refine AOps.cons rfl rfl (q_pick) ?_
      refine AOps.cons rfl rfl (q_move) ?_
      refine AOps.gcons rfl rfl rfl rfl rfl (q_move) ?_
      refine AOps.gcons rfl rfl rfl rfl rfl (q_move) ?_
      refine AOps.gbool rfl rfl rfl rfl rfl (q_call (lu) (hc := (c_zone_subset (atZ (zAt t k) (t.zs.getD i default).o 2) (atZ (t.zs.getD i default) (t.zs.getD i default).o 2) 0 0 (atZ_ok hzk _ _) (atZ_ok hzi _ _)))) (fun h8_12 => ?_) (fun h8_12 => ?_)
      ·
       refine AOps.gcons rfl rfl rfl rfl rfl (q_not) ?_
       refine AOps.cons rfl rfl (q_pick) ?_
       refine AOps.cons rfl rfl (q_move) ?_
       refine AOps.gcons rfl rfl rfl rfl rfl (q_move) ?_
       refine AOps.gcons rfl rfl rfl rfl rfl (q_move) ?_
       refine AOps.gbool rfl rfl rfl rfl rfl (q_call (lu) (hc := (c_zone_subset (atZ (t.zs.getD i default) (t.zs.getD i default).o 2) (atZ (zAt t k) (t.zs.getD i default).o 2) 0 0 (atZ_ok hzi _ _) (atZ_ok hzk _ _)))) (fun h8_18 => ?_) (fun h8_18 => ?_)
       ·
        refine AOps.gcons rfl rfl rfl rfl rfl (q_not) ?_
        refine AOps.cons rfl rfl (q_pick) ?_
        refine AOps.nil ?_
        refine AWp.cond_f rfl ?_
        refine AWp.skip ?_
        refine AWp.region ?_
        refine AOps.cons rfl rfl (q_add) ?_
        refine AOps.cons rfl rfl (q_move) ?_
        refine AOps.nil ?_
        refine ⟨i + 1, ?_, Back.mk' (HasT.cons HasT.nil) HasH.nil, ?_⟩
        ·
         exact ⟨by omega, lt_step hc (kidO_yes h8_6 h8_12 h8_18)⟩
        ·
         first | omega | (simp; omega)
       ·
        refine AOps.gcons rfl rfl rfl rfl rfl (q_not) ?_
        refine AOps.cons rfl rfl (q_pick) ?_
        refine AOps.nil ?_
        refine AWp.cond_t rfl ?_
        refine AWp.seq ?_
        refine AWp.region ?_
        refine AOps.cons rfl rfl (q_assign) ?_
        refine AOps.nil ?_
        refine AWp.ret ?_
        show Fin te Try.f31 _ _
        refine q_ret (0) [_] [_] ?_
        exact congrArg tf (joinZ_no (j := i) (by omega) (kidO_no h1 h2 (by rw [h8_18, Bool.and_false]))).symm
      ·
       refine AOps.gcons rfl rfl rfl rfl rfl (q_not) ?_
       refine AOps.cons rfl rfl (q_pick) ?_
       refine AOps.cons rfl rfl (q_move) ?_
       refine AOps.gskip rfl rfl rfl rfl rfl rfl rfl rfl ?_
       refine AOps.gskip rfl rfl rfl rfl rfl rfl rfl rfl ?_
       refine AOps.gskip rfl rfl rfl rfl rfl rfl rfl rfl ?_
       refine AOps.gskip rfl rfl rfl rfl rfl rfl rfl rfl ?_
       refine AOps.cons rfl rfl (q_pick) ?_
       refine AOps.nil ?_
       refine AWp.cond_t rfl ?_
       refine AWp.seq ?_
       refine AWp.region ?_
       refine AOps.cons rfl rfl (q_assign) ?_
       refine AOps.nil ?_
       refine AWp.ret ?_
       show Fin te Try.f31 _ _
       refine q_ret (0) [_] [_] ?_
       exact congrArg tf (joinZ_no (j := i) (by omega) (kidO_no h1 h2 (by rw [h8_12, Bool.and_false]; rfl))).symm
     ·
      refine AOps.gcons rfl rfl rfl rfl rfl (q_not) ?_
      refine AOps.cons rfl rfl (q_pick) ?_
      refine AOps.cons rfl rfl (q_move) ?_
      refine AOps.gskip rfl rfl rfl rfl rfl rfl rfl rfl ?_
      refine AOps.gskip rfl rfl rfl rfl rfl rfl rfl rfl ?_
      refine AOps.gskip rfl rfl rfl rfl rfl rfl rfl rfl ?_
      refine AOps.gskip rfl rfl rfl rfl rfl rfl rfl rfl ?_
      refine AOps.cons rfl rfl (q_pick) ?_
      refine AOps.cons rfl rfl (q_move) ?_
      refine AOps.gskip rfl rfl rfl rfl rfl rfl rfl rfl ?_
      refine AOps.gskip rfl rfl rfl rfl rfl rfl rfl rfl ?_
      refine AOps.gskip rfl rfl rfl rfl rfl rfl rfl rfl ?_
      refine AOps.gskip rfl rfl rfl rfl rfl rfl rfl rfl ?_
      refine AOps.cons rfl rfl (q_pick) ?_
      refine AOps.nil ?_
      refine AWp.cond_t rfl ?_
      refine AWp.seq ?_
      refine AWp.region ?_
      refine AOps.cons rfl rfl (q_assign) ?_
      refine AOps.nil ?_
      refine AWp.ret ?_
      show Fin te Try.f31 _ _
      refine q_ret (0) [_] [_] ?_
      exact congrArg tf (joinZ_no (j := i) (by omega) (kidO_no h1 h2 (by rw [h8_6]; rfl))).symm
    ·
     refine AOps.cons rfl rfl (q_assign) ?_
     refine AOps.cons rfl rfl (q_assign) ?_
     refine AOps.nil ?_
     refine AWp.seq ?_
     refine AWp.draws [⟨0, [7], [205], some 44, _, none⟩,
         ⟨1, [9], [503], some 45, _, none⟩,
         ⟨2, [45], [503], some 46, _, none⟩,
         ⟨3, [44, 46], [], some 47, _, none⟩,
         ⟨4, [9], [503], some 48, _, none⟩,
         ⟨5, [9], [503], some 49, _, none⟩,
         ⟨6, [49], [503], some 50, _, none⟩,
         ⟨7, [48, 50], [], some 51, _, none⟩,
         ⟨8, [47], [], some 12, _, none⟩,
         ⟨9, [51], [], some 13, _, none⟩]
      [⟨0, [7], [205], some 44, .any, none⟩,
          ⟨1, [9], [503], some 45, .any, none⟩,
          ⟨2, [45], [503], some 46, .any, none⟩,
          ⟨3, [44, 46], [], some 47, .any, none⟩,
          ⟨4, [9], [503], some 48, .any, none⟩,
          ⟨5, [9], [503], some 49, .any, none⟩,
          ⟨6, [49], [503], some 50, .any, none⟩,
          ⟨7, [48, 50], [], some 51, .any, none⟩,
          ⟨8, [47], [], some 12, .any, none⟩,
          ⟨9, [51], [], some 13, .any, none⟩]
      mixed_ok rfl (by kernel_rfl) ⟨DS.ok_over fun s0 => OpAt.go rfl rfl (q_load),
          DS.ok_over fun s0 => OpAt.go rfl rfl (q_fa),
          DS.ok_over fun s0 => OpAt.go rfl rfl (q_load),
          DS.ok_over fun s0 => OpAt.go rfl rfl (q_call (lu) (hc := (c_zone_at (zAt t k) (t.zs.getD i default).o 2 hzk hzl))),
          DS.ok_over fun s0 => OpAt.go rfl rfl (q_load),
          DS.ok_over fun s0 => OpAt.go rfl rfl (q_fa),
          DS.ok_over fun s0 => OpAt.go rfl rfl (q_load),
          DS.ok_over fun s0 => OpAt.go rfl rfl (q_call (lu) (hc := (c_zone_at (t.zs.getD i default) (t.zs.getD i default).o 2 hzi hzl))),
          DS.ok_over fun s0 => OpAt.go rfl rfl (q_assign),
          DS.ok_over fun s0 => OpAt.go rfl rfl (q_assign), trivial⟩ ?_
     dsimp only [final, DS.upd, AS.seto]
     refine AWp.seq ?_
     refine AWp.region ?_
     refine AOps.cons rfl rfl (q_move) ?_
     refine AOps.cons rfl rfl (q_not) ?_
     refine AOps.cons rfl rfl (q_move) ?_
     refine AOps.gskip rfl rfl rfl rfl rfl rfl rfl rfl ?_
     refine AOps.gskip rfl rfl rfl rfl rfl rfl rfl rfl ?_
     refine AOps.gskip rfl rfl rfl rfl rfl rfl rfl rfl ?_
     refine AOps.gskip rfl rfl rfl rfl rfl rfl rfl rfl ?_
     refine AOps.gskip rfl rfl rfl rfl rfl rfl rfl rfl ?_
     refine AOps.cons rfl rfl (q_pick) ?_
     refine AOps.cons rfl rfl (q_move) ?_
     refine AOps.gskip rfl rfl rfl rfl rfl rfl rfl rfl ?_
     refine AOps.gskip rfl rfl rfl rfl rfl rfl rfl rfl ?_
     refine AOps.gskip rfl rfl rfl rfl rfl rfl rfl rfl ?_
     refine AOps.gskip rfl rfl rfl rfl rfl rfl rfl rfl ?_
     refine AOps.cons rfl rfl (q_pick) ?_
     refine AOps.cons rfl rfl (q_move) ?_
     refine AOps.gskip rfl rfl rfl rfl rfl rfl rfl rfl ?_
     refine AOps.gskip rfl rfl rfl rfl rfl rfl rfl rfl ?_
     refine AOps.gskip rfl rfl rfl rfl rfl rfl rfl rfl ?_
     refine AOps.gskip rfl rfl rfl rfl rfl rfl rfl rfl ?_
     refine AOps.cons rfl rfl (q_pick) ?_
     refine AOps.nil ?_
     refine AWp.cond_t rfl ?_
     refine AWp.seq ?_
     refine AWp.region ?_
     refine AOps.cons rfl rfl (q_assign) ?_
     refine AOps.nil ?_
     refine AWp.ret ?_
     show Fin te Try.f31 _ _
     refine q_ret (0) [_] [_] ?_
     exact congrArg tf (joinZ_no (j := i) (by omega) (kidO_no h1 h2 (by rw [show cutZ (zAt t k) (t.zs.getD i default).o = [] from Decidable.not_not.1 (of_decide_eq_false h6_6), sameN_nil]; rfl))).symm
  ·
   refine AOps.nil ?_
   refine AWp.seq ?_
   refine AWp.cond_f rfl ?_
   refine AWp.exit ?_
   refine AWp.seq ?_
   refine AWp.region ?_
   refine AOps.cons rfl rfl (q_fa) ?_
   refine AOps.cons rfl rfl (q_load) ?_
   refine AOps.cons rfl rfl (q_makeFunc [] [_, _, _, _]) ?_
   refine AOps.cons rfl rfl (q_call (lu) (hA := by exact ⟨fv_okb rfl (ble_of (by omega)), fv_fn trivial ⟨fv_ptrb rfl .box rfl rfl rfl, fv_ptrb rfl .box rfl rfl rfl, fv_ptrb rfl .box (by simp [AV.oks, AV.ok, Nat.ble_eq]) rfl rfl, fv_ptrb rfl .box rfl rfl rfl, trivial⟩, trivial⟩) (hc := (c_ContainsFunc_rr (zAt t k).rs 0 0 (lu + 1) [.fp (lu + 1) (zoC (zAt t k)), .fp (lu + 1) (trC t), .fp (lu + 1) [.fz lu up.length (cl ic up)], .fp (lu + 1) [i64 k]] (joinQ t up k (zAt t k)) (by omega) (by simp [AV.oks, AV.ok, Nat.ble_eq] <;> omega) (fun r hr => c_zone_joined_1 t up k (zAt t k) r (lu + 1) lu ht hzk (hzk.2.2 r hr) hu (by omega))))) ?_
   refine AOps.cons rfl rfl (q_not) ?_
   refine AOps.cons rfl rfl (q_assign) ?_
   refine AOps.nil ?_
   refine AWp.ret ?_
   show Fin te Try.f31 _ _
   refine q_ret (0) [_] [_] ?_
   obtain rfl : i = t.zs.length := by omega
   exact congrArg tf (by rw [joinZ, range_all_iff.2 hc, Bool.true_and])
set_option maxRecDepth 20000 in
set_option maxHeartbeats 2000000 in
theorem c_zone_served (t : Tr) (ht : TrOk t) : AC Try.prog 24 [.agg (trC t)] emp (Ret (tf (srvT t))) := by
 have hb1 := ht.1
 have hb2 := ht.2.2.1
 refine AC.intro te_ok (fn := Try.f24) ⟨Try.func24, rfl, rfl⟩ (Nat.le_of_ble_eq_true rfl) ?_
 refine AWp.seq ?_
 refine AWp.region ?_
 refine AOps.cons rfl rfl (q_box 100) ?_
 refine AOps.cons rfl rfl (q_assign) ?_
 refine AOps.nil ?_
 refine AWp.seq ?_
 refine AWp.region ?_
 refine AOps.cons rfl rfl (q_makeMap 200 MInt (fun b : Bool => tf b)) ?_
 refine AOps.cons rfl rfl (q_assign) ?_
 refine AOps.nil ?_
 refine AWp.seq ?_
 refine AWp.seq ?_
 refine AWp.region ?_
 refine AOps.cons rfl rfl (q_fa) ?_
 refine AOps.cons rfl rfl (q_load) ?_
 refine AOps.cons rfl rfl (q_len) ?_
 refine AOps.cons rfl rfl (q_move) ?_
 refine AOps.nil ?_
 refine AWp.block ?_
 refine AWp.loopR (α := Nat × List (Int × Bool)) [2, 5, 6, 11, 12, 13, 14, 15, 16, 17, 18, 19, 20, 21, 22, 23, 24, 25, 26, 27, 28, 29, 30, 31, 32, 33, 34, 35, 36, 37, 38, 39] (fun x_ => [(11, i64 (x_.1))]) (fun x_ => [(200, .map (me MInt (fun b : Bool => tf b) (x_.2)))]) (fun x_ => (x_.1) ≤ t.ss.length ∧ MetA t (x_.1) (x_.2) ∧ ∀ j, j < (x_.1) → svO t j = true) (fun x_ => t.ss.length - (x_.1)) (0, []) ?_ (Back.mk' (HasT.cons HasT.nil) (HasH.cons HasH.nil (h2 := by exact objIn_me (fun _ => rfl)) )) ?_
 ·
  exact ⟨Nat.zero_le _, MetA.start t, fun j hj => absurd hj (Nat.not_lt_zero j)⟩
 ·
  rintro ⟨i, m⟩ hI3
  change i ≤ t.ss.length ∧ MetA t i m ∧ ∀ j, j < i → svO t j = true at hI3
  obtain ⟨hi, hm, hc⟩ := hI3
  refine AWp.as (s' := AS.over _ [2, 5, 6, 11, 12, 13, 14, 15, 16, 17, 18, 19, 20, 21, 22, 23, 24, 25, 26, 27, 28, 29, 30, 31, 32, 33, 34, 35, 36, 37, 38, 39] [(11, i64 i)] [(200, .map (me MInt (fun b : Bool => tf b) m))]) rfl ?_
  refine AWp.seq ?_
  refine AWp.region ?_
  refine AOps.dec rfl rfl (q_lss) (fun h3_0 => ?_) (fun h3_0 => ?_)
  ·
   refine AOps.nil ?_
   refine AWp.seq ?_
   refine AWp.cond_t rfl ?_
   refine AWp.skip ?_
   refine AWp.seq ?_
   refine AWp.block ?_
   refine AWp.seq ?_
   refine AWp.region ?_
   have hsz := ht.2.2.2 _ (getD_mem' (l := t.ss) (i := i) (by omega))
   refine AOps.cons rfl rfl (q_ix) ?_
   refine AOps.cons rfl rfl (q_load) ?_
   refine AOps.cons rfl rfl (q_alloc 502) ?_
   refine AOps.cons rfl rfl (q_store) ?_
   refine AOps.nil ?_
   refine AWp.seq ?_
   refine AWp.region ?_
   refine AOps.cons rfl rfl (q_makeFunc [] [_]) ?_
   refine AOps.cons rfl rfl (q_assign) ?_
   refine AOps.nil ?_
   refine AWp.seq ?_
   refine AWp.seq ?_
   refine AWp.region ?_
   refine AOps.cons rfl rfl (q_fa) ?_
   refine AOps.cons rfl rfl (q_load) ?_
   refine AOps.dec rfl rfl (q_lss) (fun h6_2 => ?_) (fun h6_2 => ?_)
   ·
    refine AOps.cons rfl rfl (q_move) ?_
    refine AOps.gskip rfl rfl rfl rfl rfl rfl rfl rfl ?_
    refine AOps.gskip rfl rfl rfl rfl rfl rfl rfl rfl ?_
    refine AOps.gskip rfl rfl rfl rfl rfl rfl rfl rfl ?_
    refine AOps.cons rfl rfl (q_pick) ?_
    refine AOps.cons rfl rfl (q_move) ?_
    refine AOps.gskip rfl rfl rfl rfl rfl rfl rfl rfl ?_
    refine AOps.gskip rfl rfl rfl rfl rfl rfl rfl rfl ?_
    refine AOps.gskip rfl rfl rfl rfl rfl rfl rfl rfl ?_
    refine AOps.gskip rfl rfl rfl rfl rfl rfl rfl rfl ?_
    refine AOps.cons rfl rfl (q_pick) ?_
    refine AOps.cons rfl rfl (q_move) ?_
    refine AOps.gskip rfl rfl rfl rfl rfl rfl rfl rfl ?_
    refine AOps.gskip rfl rfl rfl rfl rfl rfl rfl rfl ?_
    refine AOps.gskip rfl rfl rfl rfl rfl rfl rfl rfl ?_
    refine AOps.gskip rfl rfl rfl rfl rfl rfl rfl rfl ?_
    refine AOps.cons rfl rfl (q_pick) ?_
    refine AOps.nil ?_
    refine AWp.cond_t rfl ?_
    refine AWp.seq ?_
    refine AWp.region ?_
    refine AOps.cons rfl rfl (q_assign) ?_
    refine AOps.nil ?_
    refine AWp.ret ?_
    show Fin te Try.f24 _ _
    refine q_ret (0) [_] [_] ?_
    exact congrArg tf (srvT_no (j := i) (by omega) (svO_1 h6_2)).symm
   ·
    refine AOps.cons rfl rfl (q_move) ?_
    refine AOps.gcons rfl rfl rfl rfl rfl (q_fa) ?_
    refine AOps.gcons rfl rfl rfl rfl rfl (q_load) ?_
    refine AOps.gdec rfl rfl rfl rfl rfl (q_gtr) (fun h6_6 => ?_) (fun h6_6 => ?_)
    ·
     refine AOps.cons rfl rfl (q_pick) ?_
     refine AOps.cons rfl rfl (q_move) ?_
     refine AOps.gskip rfl rfl rfl rfl rfl rfl rfl rfl ?_
     refine AOps.gskip rfl rfl rfl rfl rfl rfl rfl rfl ?_
     refine AOps.gskip rfl rfl rfl rfl rfl rfl rfl rfl ?_
     refine AOps.gskip rfl rfl rfl rfl rfl rfl rfl rfl ?_
     refine AOps.cons rfl rfl (q_pick) ?_
     refine AOps.cons rfl rfl (q_move) ?_
     refine AOps.gskip rfl rfl rfl rfl rfl rfl rfl rfl ?_
     refine AOps.gskip rfl rfl rfl rfl rfl rfl rfl rfl ?_
     refine AOps.gskip rfl rfl rfl rfl rfl rfl rfl rfl ?_
     refine AOps.gskip rfl rfl rfl rfl rfl rfl rfl rfl ?_
     refine AOps.cons rfl rfl (q_pick) ?_
     refine AOps.nil ?_
     refine AWp.cond_t rfl ?_
     refine AWp.seq ?_
     refine AWp.region ?_
     refine AOps.cons rfl rfl (q_assign) ?_
     refine AOps.nil ?_
     refine AWp.ret ?_
     show Fin te Try.f24 _ _
     refine q_ret (0) [_] [_] ?_
     exact congrArg tf (srvT_no (j := i) (by omega) (svO_2 h6_6)).symm
    ·
     refine AOps.cons rfl rfl (q_pick) ?_
     refine AOps.cons rfl rfl (q_move) ?_
     refine AOps.gcons rfl rfl rfl rfl rfl (q_move) ?_
     refine AOps.gcons rfl rfl rfl rfl rfl (q_fa) ?_
     refine AOps.gcons rfl rfl rfl rfl rfl (q_load) ?_
     refine AOps.gbool rfl rfl rfl rfl rfl (q_lookup MInt) (fun h6_12 => ?_) (fun h6_12 => ?_)
     ·
      refine AOps.cons rfl rfl (q_pick) ?_
      refine AOps.cons rfl rfl (q_move) ?_
      refine AOps.gskip rfl rfl rfl rfl rfl rfl rfl rfl ?_
      refine AOps.gskip rfl rfl rfl rfl rfl rfl rfl rfl ?_
      refine AOps.gskip rfl rfl rfl rfl rfl rfl rfl rfl ?_
      refine AOps.gskip rfl rfl rfl rfl rfl rfl rfl rfl ?_
      refine AOps.cons rfl rfl (q_pick) ?_
      refine AOps.nil ?_
      refine AWp.cond_t rfl ?_
      refine AWp.seq ?_
      refine AWp.region ?_
      refine AOps.cons rfl rfl (q_assign) ?_
      refine AOps.nil ?_
      refine AWp.ret ?_
      show Fin te Try.f24 _ _
      refine q_ret (0) [_] [_] ?_
      exact congrArg tf (srvT_no (j := i) (by omega) (svO_3 hm h6_12)).symm
     ·
      refine AOps.cons rfl rfl (q_pick) ?_
      refine AOps.cons rfl rfl (q_move) ?_
      refine AOps.gcons rfl rfl rfl rfl rfl (q_fa) ?_
      refine AOps.gcons rfl rfl rfl rfl rfl (q_load) ?_
      refine AOps.gcons rfl rfl rfl rfl rfl (q_move) ?_
      refine AOps.gbool rfl rfl rfl rfl rfl (q_call (0) (hc := (c_ContainsFunc_int (t.ss.getD i default).zs 0 0 1 [.fp 1 (trC t)] (badZ t) (by omega) rfl (fun j hj => c_zone_served_1 j t 1 ht)))) (fun h6_18 => ?_) (fun h6_18 => ?_)
      ·
       refine AOps.cons rfl rfl (q_pick) ?_
       refine AOps.nil ?_
       refine AWp.cond_t rfl ?_
       refine AWp.seq ?_
       refine AWp.region ?_
       refine AOps.cons rfl rfl (q_assign) ?_
       refine AOps.nil ?_
       refine AWp.ret ?_
       show Fin te Try.f24 _ _
       refine q_ret (0) [_] [_] ?_
       exact congrArg tf (srvT_no (j := i) (by omega) (svO_4 h6_18)).symm
      ·
       refine AOps.cons rfl rfl (q_pick) ?_
       refine AOps.nil ?_
       refine AWp.cond_f rfl ?_
       refine AWp.skip ?_
       refine AWp.region ?_
       refine AOps.cons rfl rfl (q_move) ?_
       refine AOps.cons rfl rfl (q_fa) ?_
       refine AOps.cons rfl rfl (q_load) ?_
       refine AOps.cons rfl rfl (q_mapUpdate MInt true) ?_
       refine AOps.nil ?_
       refine AWp.region ?_
       refine AOps.cons rfl rfl (q_add) ?_
       refine AOps.cons rfl rfl (q_move) ?_
       refine AOps.nil ?_
       refine ⟨(i + 1, mput m (t.ss.getD i default).ad true), ?_, Back.mk' (HasT.cons HasT.nil) (HasH.cons HasH.nil (h2 := by exact objIn_me (fun _ => rfl)) ), ?_⟩
       ·
        try dsimp only
        exact ⟨by omega, hm.step (by omega), lt_step hc (svO_yes hm h6_2 h6_6 h6_12 h6_18)⟩
       ·
        try dsimp only
        first | omega | (simp; omega)
  ·
   refine AOps.nil ?_
   refine AWp.seq ?_
   refine AWp.cond_f rfl ?_
   refine AWp.exit ?_
   refine AWp.seq ?_
   refine AWp.region ?_
   refine AOps.cons rfl rfl (q_fa) ?_
   refine AOps.cons rfl rfl (q_load) ?_
   refine AOps.cons rfl rfl (q_len) ?_
   refine AOps.cons rfl rfl (q_leq) ?_
   refine AOps.cons rfl rfl (q_assign) ?_
   refine AOps.nil ?_
   refine AWp.ret ?_
   show Fin te Try.f24 _ _
   refine q_ret (0) [_] [_] ?_
   obtain rfl : i = t.ss.length := by omega
   exact congrArg tf (by rw [srvT_yes hc]; exact decide_eq_decide.2 (by omega))
set_option maxRecDepth 20000 in
set_option maxHeartbeats 2000000 in
theorem c_zone_inZone (z : Zo) (r : Rr) (hz : ZoOk z) (hr : r.nm.length ≤ 140737488351232) (hd : r.da.length ≤ 140737488351232) : AC Try.prog 29 [.agg (zoC z), .agg (rrc r)] emp (Ret (tf (inZ z r))) := by
 have hol := hz.1
 have hrl : z.rs.length * 64 ≤ 140737488351232 := hz.2.1.1
 have hcl := cutZ_len hz r.nm
 refine AC.intro te_ok (fn := Try.f29) ⟨Try.func29, rfl, rfl⟩ (Nat.le_of_ble_eq_true rfl) ?_
 refine AWp.seq ?_
 refine AWp.region ?_
 refine AOps.cons rfl rfl (q_box 100) ?_
 refine AOps.cons rfl rfl (q_box 101) ?_
 refine AOps.cons rfl rfl (q_assign) ?_
 refine AOps.nil ?_
 refine AWp.seq ?_
 refine AWp.seq ?_
 refine AWp.region ?_
 refine AOps.cons rfl rfl (q_fa) ?_
 refine AOps.cons rfl rfl (q_load) ?_
 refine AOps.cons rfl rfl (q_fa) ?_
 refine AOps.cons rfl rfl (q_load) ?_
 refine AOps.bool rfl rfl (q_call (0) (hc := (c_name_Within r.nm z.o (by omega) (by omega)))) (fun h1_4 => ?_) (fun h1_4 => ?_)
 ·
  refine AOps.cons rfl rfl (q_not) ?_
  refine AOps.cons rfl rfl (q_move) ?_
  refine AOps.gcons rfl rfl rfl rfl rfl (q_fa) ?_
  refine AOps.gcons rfl rfl rfl rfl rfl (q_load) ?_
  refine AOps.gdec rfl rfl rfl rfl rfl (q_neq) (fun h1_9 => ?_) (fun h1_9 => ?_)
  ·
   refine AOps.cons rfl rfl (q_pick) ?_
   refine AOps.cons rfl rfl (q_move) ?_
   refine AOps.gskip rfl rfl rfl rfl rfl rfl rfl rfl ?_
   refine AOps.gskip rfl rfl rfl rfl rfl rfl rfl rfl ?_
   refine AOps.gskip rfl rfl rfl rfl rfl rfl rfl rfl ?_
   refine AOps.cons rfl rfl (q_pick) ?_
   refine AOps.cons rfl rfl (q_move) ?_
   refine AOps.gskip rfl rfl rfl rfl rfl rfl rfl rfl ?_
   refine AOps.gskip rfl rfl rfl rfl rfl rfl rfl rfl ?_
   refine AOps.gskip rfl rfl rfl rfl rfl rfl rfl rfl ?_
   refine AOps.cons rfl rfl (q_pick) ?_
   refine AOps.cons rfl rfl (q_move) ?_
   refine AOps.gskip rfl rfl rfl rfl rfl rfl rfl rfl ?_
   refine AOps.gskip rfl rfl rfl rfl rfl rfl rfl rfl ?_
   refine AOps.gskip rfl rfl rfl rfl rfl rfl rfl rfl ?_
   refine AOps.cons rfl rfl (q_pick) ?_
   refine AOps.cons rfl rfl (q_move) ?_
   refine AOps.gskip rfl rfl rfl rfl rfl rfl rfl rfl ?_
   refine AOps.gskip rfl rfl rfl rfl rfl rfl rfl rfl ?_
   refine AOps.gskip rfl rfl rfl rfl rfl rfl rfl rfl ?_
   refine AOps.cons rfl rfl (q_pick) ?_
   refine AOps.cons rfl rfl (q_move) ?_
   refine AOps.gskip rfl rfl rfl rfl rfl rfl rfl rfl ?_
   refine AOps.gskip rfl rfl rfl rfl rfl rfl rfl rfl ?_
   refine AOps.gskip rfl rfl rfl rfl rfl rfl rfl rfl ?_
   refine AOps.gskip rfl rfl rfl rfl rfl rfl rfl rfl ?_
   refine AOps.gskip rfl rfl rfl rfl rfl rfl rfl rfl ?_
   refine AOps.gskip rfl rfl rfl rfl rfl rfl rfl rfl ?_
   refine AOps.cons rfl rfl (q_pick) ?_
   refine AOps.nil ?_
   refine AWp.cond_t rfl ?_
   refine AWp.seq ?_
   refine AWp.region ?_
   refine AOps.cons rfl rfl (q_assign) ?_
   refine AOps.nil ?_
   refine AWp.ret ?_
   show Fin te Try.f29 _ _
   refine q_ret (0) [_] [_] ?_
   exact congrArg tf (by simp [inZ, recO, baseO, restO, cntS, *]; try omega)
  ·
   refine AOps.cons rfl rfl (q_pick) ?_
   refine AOps.cons rfl rfl (q_move) ?_
   refine AOps.gcons rfl rfl rfl rfl rfl (q_fa) ?_
   refine AOps.gcons rfl rfl rfl rfl rfl (q_load) ?_
   refine AOps.gdec rfl rfl rfl rfl rfl (q_lss) (fun h1_14 => ?_) (fun h1_14 => ?_)
   ·
    refine AOps.cons rfl rfl (q_pick) ?_
    refine AOps.cons rfl rfl (q_move) ?_
    refine AOps.gskip rfl rfl rfl rfl rfl rfl rfl rfl ?_
    refine AOps.gskip rfl rfl rfl rfl rfl rfl rfl rfl ?_
    refine AOps.gskip rfl rfl rfl rfl rfl rfl rfl rfl ?_
    refine AOps.cons rfl rfl (q_pick) ?_
    refine AOps.cons rfl rfl (q_move) ?_
    refine AOps.gskip rfl rfl rfl rfl rfl rfl rfl rfl ?_
    refine AOps.gskip rfl rfl rfl rfl rfl rfl rfl rfl ?_
    refine AOps.gskip rfl rfl rfl rfl rfl rfl rfl rfl ?_
    refine AOps.cons rfl rfl (q_pick) ?_
    refine AOps.cons rfl rfl (q_move) ?_
    refine AOps.gskip rfl rfl rfl rfl rfl rfl rfl rfl ?_
    refine AOps.gskip rfl rfl rfl rfl rfl rfl rfl rfl ?_
    refine AOps.gskip rfl rfl rfl rfl rfl rfl rfl rfl ?_
    refine AOps.cons rfl rfl (q_pick) ?_
    refine AOps.cons rfl rfl (q_move) ?_
    refine AOps.gskip rfl rfl rfl rfl rfl rfl rfl rfl ?_
    refine AOps.gskip rfl rfl rfl rfl rfl rfl rfl rfl ?_
    refine AOps.gskip rfl rfl rfl rfl rfl rfl rfl rfl ?_
    refine AOps.gskip rfl rfl rfl rfl rfl rfl rfl rfl ?_
    refine AOps.gskip rfl rfl rfl rfl rfl rfl rfl rfl ?_
    refine AOps.gskip rfl rfl rfl rfl rfl rfl rfl rfl ?_
    refine AOps.cons rfl rfl (q_pick) ?_
    refine AOps.nil ?_
    refine AWp.cond_t rfl ?_
    refine AWp.seq ?_
    refine AWp.region ?_
    refine AOps.cons rfl rfl (q_assign) ?_
    refine AOps.nil ?_
    refine AWp.ret ?_
    show Fin te Try.f29 _ _
    refine q_ret (0) [_] [_] ?_
    exact congrArg tf (by simp [inZ, recO, baseO, restO, cntS, *]; try omega)
   ·
    refine AOps.cons rfl rfl (q_pick) ?_
    refine AOps.cons rfl rfl (q_move) ?_
    refine AOps.gcons rfl rfl rfl rfl rfl (q_fa) ?_
    refine AOps.gcons rfl rfl rfl rfl rfl (q_load) ?_
    refine AOps.gdec rfl rfl rfl rfl rfl (q_gtr) (fun h1_19 => ?_) (fun h1_19 => ?_)
    ·
     refine AOps.cons rfl rfl (q_pick) ?_
     refine AOps.cons rfl rfl (q_move) ?_
     refine AOps.gskip rfl rfl rfl rfl rfl rfl rfl rfl ?_
     refine AOps.gskip rfl rfl rfl rfl rfl rfl rfl rfl ?_
     refine AOps.gskip rfl rfl rfl rfl rfl rfl rfl rfl ?_
     refine AOps.cons rfl rfl (q_pick) ?_
     refine AOps.cons rfl rfl (q_move) ?_
     refine AOps.gskip rfl rfl rfl rfl rfl rfl rfl rfl ?_
     refine AOps.gskip rfl rfl rfl rfl rfl rfl rfl rfl ?_
     refine AOps.gskip rfl rfl rfl rfl rfl rfl rfl rfl ?_
     refine AOps.cons rfl rfl (q_pick) ?_
     refine AOps.cons rfl rfl (q_move) ?_
     refine AOps.gskip rfl rfl rfl rfl rfl rfl rfl rfl ?_
     refine AOps.gskip rfl rfl rfl rfl rfl rfl rfl rfl ?_
     refine AOps.gskip rfl rfl rfl rfl rfl rfl rfl rfl ?_
     refine AOps.gskip rfl rfl rfl rfl rfl rfl rfl rfl ?_
     refine AOps.gskip rfl rfl rfl rfl rfl rfl rfl rfl ?_
     refine AOps.gskip rfl rfl rfl rfl rfl rfl rfl rfl ?_
     refine AOps.cons rfl rfl (q_pick) ?_
     refine AOps.nil ?_
     refine AWp.cond_t rfl ?_
     refine AWp.seq ?_
     refine AWp.region ?_
     refine AOps.cons rfl rfl (q_assign) ?_
     refine AOps.nil ?_
     refine AWp.ret ?_
     show Fin te Try.f29 _ _
     refine q_ret (0) [_] [_] ?_
     exact congrArg tf (by simp [inZ, recO, baseO, restO, cntS, *]; try omega)
    ·
     refine AOps.cons rfl rfl (q_pick) ?_
     refine AOps.cons rfl rfl (q_move) ?_
     refine AOps.gcons rfl rfl rfl rfl rfl (q_fa) ?_
     refine AOps.gcons rfl rfl rfl rfl rfl (q_load) ?_
     refine AOps.gdec rfl rfl rfl rfl rfl (q_lss) (fun h1_24 => ?_) (fun h1_24 => ?_)
     ·
      refine AOps.cons rfl rfl (q_pick) ?_
      refine AOps.cons rfl rfl (q_move) ?_
      refine AOps.gskip rfl rfl rfl rfl rfl rfl rfl rfl ?_
      refine AOps.gskip rfl rfl rfl rfl rfl rfl rfl rfl ?_
      refine AOps.gskip rfl rfl rfl rfl rfl rfl rfl rfl ?_
      refine AOps.cons rfl rfl (q_pick) ?_
      refine AOps.cons rfl rfl (q_move) ?_
      refine AOps.gskip rfl rfl rfl rfl rfl rfl rfl rfl ?_
      refine AOps.gskip rfl rfl rfl rfl rfl rfl rfl rfl ?_
      refine AOps.gskip rfl rfl rfl rfl rfl rfl rfl rfl ?_
      refine AOps.gskip rfl rfl rfl rfl rfl rfl rfl rfl ?_
      refine AOps.gskip rfl rfl rfl rfl rfl rfl rfl rfl ?_
      refine AOps.gskip rfl rfl rfl rfl rfl rfl rfl rfl ?_
      refine AOps.cons rfl rfl (q_pick) ?_
      refine AOps.nil ?_
      refine AWp.cond_t rfl ?_
      refine AWp.seq ?_
      refine AWp.region ?_
      refine AOps.cons rfl rfl (q_assign) ?_
      refine AOps.nil ?_
      refine AWp.ret ?_
      show Fin te Try.f29 _ _
      refine q_ret (0) [_] [_] ?_
      exact congrArg tf (by simp [inZ, recO, baseO, restO, cntS, *]; try omega)
     ·
      refine AOps.cons rfl rfl (q_pick) ?_
      refine AOps.cons rfl rfl (q_move) ?_
      refine AOps.gcons rfl rfl rfl rfl rfl (q_fa) ?_
      refine AOps.gcons rfl rfl rfl rfl rfl (q_load) ?_
      refine AOps.gdec rfl rfl rfl rfl rfl (q_gtr) (fun h1_29 => ?_) (fun h1_29 => ?_)
      ·
       refine AOps.cons rfl rfl (q_pick) ?_
       refine AOps.cons rfl rfl (q_move) ?_
       refine AOps.gskip rfl rfl rfl rfl rfl rfl rfl rfl ?_
       refine AOps.gskip rfl rfl rfl rfl rfl rfl rfl rfl ?_
       refine AOps.gskip rfl rfl rfl rfl rfl rfl rfl rfl ?_
       refine AOps.gskip rfl rfl rfl rfl rfl rfl rfl rfl ?_
       refine AOps.gskip rfl rfl rfl rfl rfl rfl rfl rfl ?_
       refine AOps.gskip rfl rfl rfl rfl rfl rfl rfl rfl ?_
       refine AOps.cons rfl rfl (q_pick) ?_
       refine AOps.nil ?_
       refine AWp.cond_t rfl ?_
       refine AWp.seq ?_
       refine AWp.region ?_
       refine AOps.cons rfl rfl (q_assign) ?_
       refine AOps.nil ?_
       refine AWp.ret ?_
       show Fin te Try.f29 _ _
       refine q_ret (0) [_] [_] ?_
       exact congrArg tf (by simp [inZ, recO, baseO, restO, cntS, *]; try omega)
      ·
       refine AOps.cons rfl rfl (q_pick) ?_
       refine AOps.cons rfl rfl (q_move) ?_
       refine AOps.gcons rfl rfl rfl rfl rfl (q_fa) ?_
       refine AOps.gcons rfl rfl rfl rfl rfl (q_load) ?_
       refine AOps.gcons rfl rfl rfl rfl rfl (q_fa) ?_
       refine AOps.gcons rfl rfl rfl rfl rfl (q_load) ?_
       refine AOps.gbool rfl rfl rfl rfl rfl (q_call (0) (hc := (c_CanA r.ty r.da 0 hd))) (fun h1_36 => ?_) (fun h1_36 => ?_)
       ·
        refine AOps.gcons rfl rfl rfl rfl rfl (q_not) ?_
        refine AOps.cons rfl rfl (q_pick) ?_
        refine AOps.nil ?_
        refine AWp.cond_f rfl ?_
        refine AWp.skip ?_
        refine AWp.seq ?_
        refine AWp.region ?_
        have hbase := baseO_yes h1_4 h1_9 h1_14 h1_19 h1_24 h1_29 h1_36
        refine AOps.cons rfl rfl (q_load) ?_
        refine AOps.cons rfl rfl (q_fa) ?_
        refine AOps.cons rfl rfl (q_load) ?_
        refine AOps.cons rfl rfl (q_call (0) (hc := (c_zone_cut z r.nm hz hr))) ?_
        refine AOps.cons rfl rfl (q_move) ?_
        refine AOps.cons rfl rfl (q_extract) ?_
        refine AOps.bool rfl rfl (q_extract) (fun h3_6 => ?_) (fun h3_6 => ?_)
        ·
         refine AOps.cons rfl rfl (q_assign) ?_
         refine AOps.cons rfl rfl (q_assign) ?_
         refine AOps.nil ?_
         refine AWp.seq ?_
         refine AWp.seq ?_
         refine AWp.region ?_
         refine AOps.cons rfl rfl (q_fa) ?_
         refine AOps.cons rfl rfl (q_load) ?_
         refine AOps.nil ?_
         refine AWp.block ?_
         refine AWp.seq ?_
         refine AWp.region ?_
         refine AOps.dec rfl rfl (q_eql) (fun h5_0 => ?_) (fun h5_0 => ?_)
         ·
          refine AOps.cons rfl rfl (q_assign) ?_
          refine AOps.nil ?_
          refine AWp.cond_t rfl ?_
          refine AWp.seq ?_
          refine AWp.region ?_
          refine AOps.cons rfl rfl (q_fa) ?_
          refine AOps.cons rfl rfl (q_load) ?_
          refine AOps.cons rfl rfl (q_fa) ?_
          refine AOps.cons rfl rfl (q_load) ?_
          refine AOps.bool rfl rfl (q_call (0) (hc := (c_name_Same r.nm z.o (by omega) (by omega)))) (fun h6_4 => ?_) (fun h6_4 => ?_)
          ·
           refine AOps.cons rfl rfl (q_move) ?_
           refine AOps.gcons rfl rfl rfl rfl rfl (q_move) ?_
           refine AOps.gcons rfl rfl rfl rfl rfl (q_not) ?_
           refine AOps.cons rfl rfl (q_pick) ?_
           refine AOps.cons rfl rfl (q_assign) ?_
           refine AOps.nil ?_
           refine AWp.ret ?_
           show Fin te Try.f29 _ _
           have hc6 : cutZ z r.nm ≠ [] := of_decide_eq_true h3_6
           clear h3_6
           refine q_ret (0) [_] [_] ?_
           exact congrArg tf (by rw [inZ_base hbase, restO]; simp [cntS, *]; first | done | omega | exact decide_eq_true (by omega) | exact decide_eq_false (by omega))
          ·
           refine AOps.cons rfl rfl (q_move) ?_
           refine AOps.gskip rfl rfl rfl rfl rfl rfl rfl rfl ?_
           refine AOps.gskip rfl rfl rfl rfl rfl rfl rfl rfl ?_
           refine AOps.cons rfl rfl (q_pick) ?_
           refine AOps.cons rfl rfl (q_assign) ?_
           refine AOps.nil ?_
           refine AWp.ret ?_
           show Fin te Try.f29 _ _
           have hc6 : cutZ z r.nm ≠ [] := of_decide_eq_true h3_6
           clear h3_6
           refine q_ret (0) [_] [_] ?_
           exact congrArg tf (by rw [inZ_base hbase, restO]; simp [cntS, *]; first | done | omega | exact decide_eq_true (by omega) | exact decide_eq_false (by omega))
         ·
          refine AOps.cons rfl rfl (q_assign) ?_
          refine AOps.nil ?_
          refine AWp.cond_f rfl ?_
          refine AWp.seq ?_
          refine AWp.region ?_
          refine AOps.dec rfl rfl (q_eql) (fun h7_0 => ?_) (fun h7_0 => ?_)
          ·
           refine AOps.cons rfl rfl (q_assign) ?_
           refine AOps.nil ?_
           refine AWp.cond_t rfl ?_
           refine AWp.seq ?_
           refine AWp.region ?_
           refine AOps.cons rfl rfl (q_move) ?_
           refine AOps.cons rfl rfl (q_not) ?_
           refine AOps.cons rfl rfl (q_move) ?_
           refine AOps.gcons rfl rfl rfl rfl rfl (q_move) ?_
           refine AOps.gcons rfl rfl rfl rfl rfl (q_fa) ?_
           refine AOps.gcons rfl rfl rfl rfl rfl (q_load) ?_
           refine AOps.gcons rfl rfl rfl rfl rfl (q_call (0) (hc := (c_name_Same (cutZ z r.nm) r.nm (by omega) (by omega)))) ?_
           refine AOps.cons rfl rfl (q_pick) ?_
           refine AOps.cons rfl rfl (q_assign) ?_
           refine AOps.nil ?_
           refine AWp.ret ?_
           show Fin te Try.f29 _ _
           have hc6 : cutZ z r.nm ≠ [] := of_decide_eq_true h3_6
           clear h3_6
           refine q_ret (0) [_] [_] ?_
           exact congrArg tf (by rw [inZ_base hbase, restO]; simp [cntS, *]; first | done | omega | exact decide_eq_true (by omega) | exact decide_eq_false (by omega))
          ·
           refine AOps.cons rfl rfl (q_assign) ?_
           refine AOps.nil ?_
           refine AWp.cond_f rfl ?_
           refine AWp.seq ?_
           refine AWp.region ?_
           refine AOps.dec rfl rfl (q_eql) (fun h9_0 => ?_) (fun h9_0 => ?_)
           ·
            refine AOps.cons rfl rfl (q_assign) ?_
            refine AOps.nil ?_
            refine AWp.cond_t rfl ?_
            refine AWp.seq ?_
            refine AWp.region ?_
            refine AOps.cons rfl rfl (q_assign) ?_
            refine AOps.nil ?_
            refine AWp.ret ?_
            show Fin te Try.f29 _ _
            have hc6 : cutZ z r.nm ≠ [] := of_decide_eq_true h3_6
            clear h3_6
            refine q_ret (0) [_] [_] ?_
            exact congrArg tf (by rw [inZ_base hbase, restO]; simp [cntS, *]; first | done | omega | exact decide_eq_true (by omega) | exact decide_eq_false (by omega))
           ·
            refine AOps.cons rfl rfl (q_assign) ?_
            refine AOps.nil ?_
            refine AWp.cond_f rfl ?_
            refine AWp.seq ?_
            refine AWp.region ?_
            refine AOps.dec rfl rfl (q_eql) (fun h11_0 => ?_) (fun h11_0 => ?_)
            ·
             refine AOps.cons rfl rfl (q_assign) ?_
             refine AOps.nil ?_
             refine AWp.cond_t rfl ?_
             refine AWp.seq ?_
             refine AWp.region ?_
             refine AOps.cons rfl rfl (q_assign) ?_
             refine AOps.nil ?_
             refine AWp.seq ?_
             refine AWp.seq ?_
             refine AWp.region ?_
             refine AOps.cons rfl rfl (q_fa) ?_
             refine AOps.cons rfl rfl (q_load) ?_
             refine AOps.cons rfl rfl (q_len) ?_
             refine AOps.cons rfl rfl (q_move) ?_
             refine AOps.nil ?_
             refine AWp.block ?_
             refine AWp.loopR (α := Nat) [7, 9, 86, 87, 88, 89, 90, 91, 92, 93, 94, 95, 96, 97] (fun i => [(86, i64 i), (7, i64 ((z.rs.take i).filter fun o => sameN o.nm r.nm).length)]) (fun i => []) (fun i => i ≤ z.rs.length) (fun i => z.rs.length - i) 0 ?_ (Back.mk' (HasT.cons (HasT.cons HasT.nil)) HasH.nil) ?_
             ·
              exact Nat.zero_le _
             ·
              rintro i hi
              have hfl := filter_len_le (fun o : Rr => sameN o.nm r.nm) z.rs i
              refine AWp.seq ?_
              refine AWp.region ?_
              refine AOps.dec rfl rfl (q_lss) (fun h14_0 => ?_) (fun h14_0 => ?_)
              ·
               refine AOps.nil ?_
               refine AWp.seq ?_
               refine AWp.cond_t rfl ?_
               refine AWp.skip ?_
               refine AWp.seq ?_
               refine AWp.block ?_
               refine AWp.seq ?_
               refine AWp.region ?_
               have hri := hz.2.2 _ (getD_mem' (l := z.rs) (i := i) (by omega))
               refine AOps.cons rfl rfl (q_ix) ?_
               refine AOps.cons rfl rfl (q_load) ?_
               refine AOps.cons rfl rfl (q_alloc 1602) ?_
               refine AOps.cons rfl rfl (q_store) ?_
               refine AOps.nil ?_
               refine AWp.seq ?_
               refine AWp.region ?_
               refine AOps.cons rfl rfl (q_fa) ?_
               refine AOps.cons rfl rfl (q_load) ?_
               refine AOps.cons rfl rfl (q_fa) ?_
               refine AOps.cons rfl rfl (q_load) ?_
               refine AOps.bool rfl rfl (q_call (0) (hc := (c_name_Same (z.rs.getD i default).nm r.nm (by omega) (by omega)))) (fun h16_4 => ?_) (fun h16_4 => ?_)
               ·
                refine AOps.nil ?_
                refine AWp.cond_t rfl ?_
                refine AWp.region ?_
                refine AOps.cons rfl rfl (q_move) ?_
                refine AOps.cons rfl rfl (q_add) ?_
                refine AOps.cons rfl rfl (q_assign) ?_
                refine AOps.nil ?_
                refine AWp.region ?_
                refine AOps.cons rfl rfl (q_add) ?_
                refine AOps.cons rfl rfl (q_move) ?_
                refine AOps.nil ?_
                refine ⟨i + 1, ?_, Back.mk' (HasT.cons (HasT.cons HasT.nil (h1 := by exact i64_eq (by rw [cnt_step (by omega), if_pos h16_4]; omega)) )) HasH.nil, ?_⟩
                ·
                 first | assumption | omega | decide | (simp; omega) | (simp [*]; done)
                ·
                 first | omega | (simp; omega)
               ·
                refine AOps.nil ?_
                refine AWp.cond_f rfl ?_
                refine AWp.skip ?_
                refine AWp.region ?_
                refine AOps.cons rfl rfl (q_add) ?_
                refine AOps.cons rfl rfl (q_move) ?_
                refine AOps.nil ?_
                refine ⟨i + 1, ?_, Back.mk' (HasT.cons (HasT.cons HasT.nil (h1 := by exact i64_eq (by rw [cnt_step (by omega), if_neg (by rw [h16_4]; decide)]; omega)) )) HasH.nil, ?_⟩
                ·
                 first | assumption | omega | decide | (simp; omega) | (simp [*]; done)
                ·
                 first | omega | (simp; omega)
              ·
               refine AOps.nil ?_
               refine AWp.seq ?_
               refine AWp.cond_f rfl ?_
               refine AWp.exit ?_
               refine AWp.seq ?_
               refine AWp.region ?_
               obtain rfl : i = z.rs.length := by omega
               rw [List.take_length]
               refine AOps.cons rfl rfl (q_move) ?_
               refine AOps.dec rfl rfl (q_eql) (fun h19_1 => ?_) (fun h19_1 => ?_)
               ·
                refine AOps.cons rfl rfl (q_move) ?_
                refine AOps.gcons rfl rfl rfl rfl rfl (q_move) ?_
                refine AOps.gcons rfl rfl rfl rfl rfl (q_not) ?_
                refine AOps.cons rfl rfl (q_pick) ?_
                refine AOps.cons rfl rfl (q_assign) ?_
                refine AOps.nil ?_
                refine AWp.ret ?_
                show Fin te Try.f29 _ _
                have hc6 : cutZ z r.nm ≠ [] := of_decide_eq_true h3_6
                clear h3_6
                refine q_ret (0) [_] [_] ?_
                exact congrArg tf (by rw [inZ_base hbase, restO]; simp [cntS, *]; first | done | omega | exact decide_eq_true (by omega) | exact decide_eq_false (by omega))
               ·
                refine AOps.cons rfl rfl (q_move) ?_
                refine AOps.gskip rfl rfl rfl rfl rfl rfl rfl rfl ?_
                refine AOps.gskip rfl rfl rfl rfl rfl rfl rfl rfl ?_
                refine AOps.cons rfl rfl (q_pick) ?_
                refine AOps.cons rfl rfl (q_assign) ?_
                refine AOps.nil ?_
                refine AWp.ret ?_
                show Fin te Try.f29 _ _
                have hc6 : cutZ z r.nm ≠ [] := of_decide_eq_true h3_6
                clear h3_6
                refine q_ret (0) [_] [_] ?_
                exact congrArg tf (by rw [inZ_base hbase, restO]; simp [cntS, *]; first | done | omega | exact decide_eq_true (by omega) | exact decide_eq_false (by omega))
            ·
             refine AOps.cons rfl rfl (q_assign) ?_
             refine AOps.nil ?_
             refine AWp.cond_f rfl ?_
             refine AWp.skip ?_
             refine AWp.seq ?_
             refine AWp.region ?_
             refine AOps.cons rfl rfl (q_move) ?_
             refine AOps.cons rfl rfl (q_not) ?_
             refine AOps.cons rfl rfl (q_assign) ?_
             refine AOps.nil ?_
             refine AWp.ret ?_
             show Fin te Try.f29 _ _
             have hc6 : cutZ z r.nm ≠ [] := of_decide_eq_true h3_6
             clear h3_6
             refine q_ret (0) [_] [_] ?_
             exact congrArg tf (by rw [inZ_base hbase, restO]; simp [cntS, *]; first | done | omega | exact decide_eq_true (by omega) | exact decide_eq_false (by omega))
        ·
         refine AOps.cons rfl rfl (q_assign) ?_
         refine AOps.cons rfl rfl (q_assign) ?_
         refine AOps.nil ?_
         refine AWp.seq ?_
         refine AWp.seq ?_
         refine AWp.region ?_
         refine AOps.cons rfl rfl (q_fa) ?_
         refine AOps.cons rfl rfl (q_load) ?_
         refine AOps.nil ?_
         refine AWp.block ?_
         refine AWp.seq ?_
         refine AWp.region ?_
         refine AOps.dec rfl rfl (q_eql) (fun h5_0 => ?_) (fun h5_0 => ?_)
         ·
          refine AOps.cons rfl rfl (q_assign) ?_
          refine AOps.nil ?_
          refine AWp.cond_t rfl ?_
          refine AWp.seq ?_
          refine AWp.region ?_
          refine AOps.cons rfl rfl (q_fa) ?_
          refine AOps.cons rfl rfl (q_load) ?_
          refine AOps.cons rfl rfl (q_fa) ?_
          refine AOps.cons rfl rfl (q_load) ?_
          refine AOps.bool rfl rfl (q_call (0) (hc := (c_name_Same r.nm z.o (by omega) (by omega)))) (fun h6_4 => ?_) (fun h6_4 => ?_)
          ·
           refine AOps.cons rfl rfl (q_move) ?_
           refine AOps.gcons rfl rfl rfl rfl rfl (q_move) ?_
           refine AOps.gcons rfl rfl rfl rfl rfl (q_not) ?_
           refine AOps.cons rfl rfl (q_pick) ?_
           refine AOps.cons rfl rfl (q_assign) ?_
           refine AOps.nil ?_
           refine AWp.ret ?_
           show Fin te Try.f29 _ _
           have hc6 : cutZ z r.nm = [] := Decidable.not_not.1 (of_decide_eq_false h3_6)
           clear h3_6
           refine q_ret (0) [_] [_] ?_
           exact congrArg tf (by rw [inZ_base hbase, restO]; simp [cntS, sameN_nil, *]; first | done | omega | exact decide_eq_true (by omega) | exact decide_eq_false (by omega))
          ·
           refine AOps.cons rfl rfl (q_move) ?_
           refine AOps.gskip rfl rfl rfl rfl rfl rfl rfl rfl ?_
           refine AOps.gskip rfl rfl rfl rfl rfl rfl rfl rfl ?_
           refine AOps.cons rfl rfl (q_pick) ?_
           refine AOps.cons rfl rfl (q_assign) ?_
           refine AOps.nil ?_
           refine AWp.ret ?_
           show Fin te Try.f29 _ _
           have hc6 : cutZ z r.nm = [] := Decidable.not_not.1 (of_decide_eq_false h3_6)
           clear h3_6
           refine q_ret (0) [_] [_] ?_
           exact congrArg tf (by rw [inZ_base hbase, restO]; simp [cntS, sameN_nil, *]; first | done | omega | exact decide_eq_true (by omega) | exact decide_eq_false (by omega))
         ·
          refine AOps.cons rfl rfl (q_assign) ?_
          refine AOps.nil ?_
          refine AWp.cond_f rfl ?_
          refine AWp.seq ?_
          refine AWp.region ?_
          refine AOps.dec rfl rfl (q_eql) (fun h7_0 => ?_) (fun h7_0 => ?_)
          ·
           refine AOps.cons rfl rfl (q_assign) ?_
           refine AOps.nil ?_
           refine AWp.cond_t rfl ?_
           refine AWp.seq ?_
           refine AWp.region ?_
           refine AOps.cons rfl rfl (q_move) ?_
           refine AOps.cons rfl rfl (q_not) ?_
           refine AOps.cons rfl rfl (q_move) ?_
           refine AOps.gskip rfl rfl rfl rfl rfl rfl rfl rfl ?_
           refine AOps.gskip rfl rfl rfl rfl rfl rfl rfl rfl ?_
           refine AOps.gskip rfl rfl rfl rfl rfl rfl rfl rfl ?_
           refine AOps.gskip rfl rfl rfl rfl rfl rfl rfl rfl ?_
           refine AOps.cons rfl rfl (q_pick) ?_
           refine AOps.cons rfl rfl (q_assign) ?_
           refine AOps.nil ?_
           refine AWp.ret ?_
           show Fin te Try.f29 _ _
           have hc6 : cutZ z r.nm = [] := Decidable.not_not.1 (of_decide_eq_false h3_6)
           clear h3_6
           refine q_ret (0) [_] [_] ?_
           exact congrArg tf (by rw [inZ_base hbase, restO]; simp [cntS, sameN_nil, *]; first | done | omega | exact decide_eq_true (by omega) | exact decide_eq_false (by omega))
          ·
           refine AOps.cons rfl rfl (q_assign) ?_
           refine AOps.nil ?_
           refine AWp.cond_f rfl ?_
           refine AWp.seq ?_
           refine AWp.region ?_
           refine AOps.dec rfl rfl (q_eql) (fun h9_0 => ?_) (fun h9_0 => ?_)
           ·
            refine AOps.cons rfl rfl (q_assign) ?_
            refine AOps.nil ?_
            refine AWp.cond_t rfl ?_
            refine AWp.seq ?_
            refine AWp.region ?_
            refine AOps.cons rfl rfl (q_assign) ?_
            refine AOps.nil ?_
            refine AWp.ret ?_
            show Fin te Try.f29 _ _
            have hc6 : cutZ z r.nm = [] := Decidable.not_not.1 (of_decide_eq_false h3_6)
            clear h3_6
            refine q_ret (0) [_] [_] ?_
            exact congrArg tf (by rw [inZ_base hbase, restO]; simp [cntS, sameN_nil, *]; first | done | omega | exact decide_eq_true (by omega) | exact decide_eq_false (by omega))
           ·
            refine AOps.cons rfl rfl (q_assign) ?_
            refine AOps.nil ?_
            refine AWp.cond_f rfl ?_
            refine AWp.seq ?_
            refine AWp.region ?_
            refine AOps.dec rfl rfl (q_eql) (fun h11_0 => ?_) (fun h11_0 => ?_)
            ·
             refine AOps.cons rfl rfl (q_assign) ?_
             refine AOps.nil ?_
             refine AWp.cond_t rfl ?_
             refine AWp.seq ?_
             refine AWp.region ?_
             refine AOps.cons rfl rfl (q_assign) ?_
             refine AOps.nil ?_
             refine AWp.seq ?_
             refine AWp.seq ?_
             refine AWp.region ?_
             refine AOps.cons rfl rfl (q_fa) ?_
             refine AOps.cons rfl rfl (q_load) ?_
             refine AOps.cons rfl rfl (q_len) ?_
             refine AOps.cons rfl rfl (q_move) ?_
             refine AOps.nil ?_
             refine AWp.block ?_
             refine AWp.loopR (α := Nat) [7, 9, 86, 87, 88, 89, 90, 91, 92, 93, 94, 95, 96, 97] (fun i => [(86, i64 i), (7, i64 ((z.rs.take i).filter fun o => sameN o.nm r.nm).length)]) (fun i => []) (fun i => i ≤ z.rs.length) (fun i => z.rs.length - i) 0 ?_ (Back.mk' (HasT.cons (HasT.cons HasT.nil)) HasH.nil) ?_
             ·
              exact Nat.zero_le _
             ·
              rintro i hi
              have hfl := filter_len_le (fun o : Rr => sameN o.nm r.nm) z.rs i
              refine AWp.seq ?_
              refine AWp.region ?_
              refine AOps.dec rfl rfl (q_lss) (fun h14_0 => ?_) (fun h14_0 => ?_)
              ·
               refine AOps.nil ?_
               refine AWp.seq ?_
               refine AWp.cond_t rfl ?_
               refine AWp.skip ?_
               refine AWp.seq ?_
               refine AWp.block ?_
               refine AWp.seq ?_
               refine AWp.region ?_
               have hri := hz.2.2 _ (getD_mem' (l := z.rs) (i := i) (by omega))
               refine AOps.cons rfl rfl (q_ix) ?_
               refine AOps.cons rfl rfl (q_load) ?_
               refine AOps.cons rfl rfl (q_alloc 1602) ?_
               refine AOps.cons rfl rfl (q_store) ?_
               refine AOps.nil ?_
               refine AWp.seq ?_
               refine AWp.region ?_
               refine AOps.cons rfl rfl (q_fa) ?_
               refine AOps.cons rfl rfl (q_load) ?_
               refine AOps.cons rfl rfl (q_fa) ?_
               refine AOps.cons rfl rfl (q_load) ?_
               refine AOps.bool rfl rfl (q_call (0) (hc := (c_name_Same (z.rs.getD i default).nm r.nm (by omega) (by omega)))) (fun h16_4 => ?_) (fun h16_4 => ?_)
               ·
                refine AOps.nil ?_
                refine AWp.cond_t rfl ?_
                refine AWp.region ?_
                refine AOps.cons rfl rfl (q_move) ?_
                refine AOps.cons rfl rfl (q_add) ?_
                refine AOps.cons rfl rfl (q_assign) ?_
                refine AOps.nil ?_
                refine AWp.region ?_
                refine AOps.cons rfl rfl (q_add) ?_
                refine AOps.cons rfl rfl (q_move) ?_
                refine AOps.nil ?_
                refine ⟨i + 1, ?_, Back.mk' (HasT.cons (HasT.cons HasT.nil (h1 := by exact i64_eq (by rw [cnt_step (by omega), if_pos h16_4]; omega)) )) HasH.nil, ?_⟩
                ·
                 first | assumption | omega | decide | (simp; omega) | (simp [*]; done)
                ·
                 first | omega | (simp; omega)
               ·
                refine AOps.nil ?_
                refine AWp.cond_f rfl ?_
                refine AWp.skip ?_
                refine AWp.region ?_
                refine AOps.cons rfl rfl (q_add) ?_
                refine AOps.cons rfl rfl (q_move) ?_
                refine AOps.nil ?_
                refine ⟨i + 1, ?_, Back.mk' (HasT.cons (HasT.cons HasT.nil (h1 := by exact i64_eq (by rw [cnt_step (by omega), if_neg (by rw [h16_4]; decide)]; omega)) )) HasH.nil, ?_⟩
                ·
                 first | assumption | omega | decide | (simp; omega) | (simp [*]; done)
                ·
                 first | omega | (simp; omega)
              ·
               refine AOps.nil ?_
               refine AWp.seq ?_
               refine AWp.cond_f rfl ?_
               refine AWp.exit ?_
               refine AWp.seq ?_
               refine AWp.region ?_
               obtain rfl : i = z.rs.length := by omega
               rw [List.take_length]
               refine AOps.cons rfl rfl (q_move) ?_
               refine AOps.dec rfl rfl (q_eql) (fun h19_1 => ?_) (fun h19_1 => ?_)
               ·
                refine AOps.cons rfl rfl (q_move) ?_
                refine AOps.gcons rfl rfl rfl rfl rfl (q_move) ?_
                refine AOps.gcons rfl rfl rfl rfl rfl (q_not) ?_
                refine AOps.cons rfl rfl (q_pick) ?_
                refine AOps.cons rfl rfl (q_assign) ?_
                refine AOps.nil ?_
                refine AWp.ret ?_
                show Fin te Try.f29 _ _
                have hc6 : cutZ z r.nm = [] := Decidable.not_not.1 (of_decide_eq_false h3_6)
                clear h3_6
                refine q_ret (0) [_] [_] ?_
                exact congrArg tf (by rw [inZ_base hbase, restO]; simp [cntS, sameN_nil, *]; first | done | omega | exact decide_eq_true (by omega) | exact decide_eq_false (by omega))
               ·
                refine AOps.cons rfl rfl (q_move) ?_
                refine AOps.gskip rfl rfl rfl rfl rfl rfl rfl rfl ?_
                refine AOps.gskip rfl rfl rfl rfl rfl rfl rfl rfl ?_
                refine AOps.cons rfl rfl (q_pick) ?_
                refine AOps.cons rfl rfl (q_assign) ?_
                refine AOps.nil ?_
                refine AWp.ret ?_
                show Fin te Try.f29 _ _
                have hc6 : cutZ z r.nm = [] := Decidable.not_not.1 (of_decide_eq_false h3_6)
                clear h3_6
                refine q_ret (0) [_] [_] ?_
                exact congrArg tf (by rw [inZ_base hbase, restO]; simp [cntS, sameN_nil, *]; first | done | omega | exact decide_eq_true (by omega) | exact decide_eq_false (by omega))
            ·
             refine AOps.cons rfl rfl (q_assign) ?_
             refine AOps.nil ?_
             refine AWp.cond_f rfl ?_
             refine AWp.skip ?_
             refine AWp.seq ?_
             refine AWp.region ?_
             refine AOps.cons rfl rfl (q_move) ?_
             refine AOps.cons rfl rfl (q_not) ?_
             refine AOps.cons rfl rfl (q_assign) ?_
             refine AOps.nil ?_
             refine AWp.ret ?_
             show Fin te Try.f29 _ _
             have hc6 : cutZ z r.nm = [] := Decidable.not_not.1 (of_decide_eq_false h3_6)
             clear h3_6
             refine q_ret (0) [_] [_] ?_
             exact congrArg tf (by rw [inZ_base hbase, restO]; simp [cntS, sameN_nil, *]; first | done | omega | exact decide_eq_true (by omega) | exact decide_eq_false (by omega))
       ·
        refine AOps.gcons rfl rfl rfl rfl rfl (q_not) ?_
        refine AOps.cons rfl rfl (q_pick) ?_
        refine AOps.nil ?_
        refine AWp.cond_t rfl ?_
        refine AWp.seq ?_
        refine AWp.region ?_
        refine AOps.cons rfl rfl (q_assign) ?_
        refine AOps.nil ?_
        refine AWp.ret ?_
        show Fin te Try.f29 _ _
        refine q_ret (0) [_] [_] ?_
        exact congrArg tf (by simp [inZ, recO, baseO, restO, cntS, *]; try omega)
 ·
  refine AOps.cons rfl rfl (q_not) ?_
  refine AOps.cons rfl rfl (q_move) ?_
  refine AOps.gskip rfl rfl rfl rfl rfl rfl rfl rfl ?_
  refine AOps.gskip rfl rfl rfl rfl rfl rfl rfl rfl ?_
  refine AOps.gskip rfl rfl rfl rfl rfl rfl rfl rfl ?_
  refine AOps.cons rfl rfl (q_pick) ?_
  refine AOps.cons rfl rfl (q_move) ?_
  refine AOps.gskip rfl rfl rfl rfl rfl rfl rfl rfl ?_
  refine AOps.gskip rfl rfl rfl rfl rfl rfl rfl rfl ?_
  refine AOps.gskip rfl rfl rfl rfl rfl rfl rfl rfl ?_
  refine AOps.cons rfl rfl (q_pick) ?_
  refine AOps.cons rfl rfl (q_move) ?_
  refine AOps.gskip rfl rfl rfl rfl rfl rfl rfl rfl ?_
  refine AOps.gskip rfl rfl rfl rfl rfl rfl rfl rfl ?_
  refine AOps.gskip rfl rfl rfl rfl rfl rfl rfl rfl ?_
  refine AOps.cons rfl rfl (q_pick) ?_
  refine AOps.cons rfl rfl (q_move) ?_
  refine AOps.gskip rfl rfl rfl rfl rfl rfl rfl rfl ?_
  refine AOps.gskip rfl rfl rfl rfl rfl rfl rfl rfl ?_
  refine AOps.gskip rfl rfl rfl rfl rfl rfl rfl rfl ?_
  refine AOps.cons rfl rfl (q_pick) ?_
  refine AOps.cons rfl rfl (q_move) ?_
  refine AOps.gskip rfl rfl rfl rfl rfl rfl rfl rfl ?_
  refine AOps.gskip rfl rfl rfl rfl rfl rfl rfl rfl ?_
  refine AOps.gskip rfl rfl rfl rfl rfl rfl rfl rfl ?_
  refine AOps.cons rfl rfl (q_pick) ?_
  refine AOps.cons rfl rfl (q_move) ?_
  refine AOps.gskip rfl rfl rfl rfl rfl rfl rfl rfl ?_
  refine AOps.gskip rfl rfl rfl rfl rfl rfl rfl rfl ?_
  refine AOps.gskip rfl rfl rfl rfl rfl rfl rfl rfl ?_
  refine AOps.gskip rfl rfl rfl rfl rfl rfl rfl rfl ?_
  refine AOps.gskip rfl rfl rfl rfl rfl rfl rfl rfl ?_
  refine AOps.gskip rfl rfl rfl rfl rfl rfl rfl rfl ?_
  refine AOps.cons rfl rfl (q_pick) ?_
  refine AOps.nil ?_
  refine AWp.cond_t rfl ?_
  refine AWp.seq ?_
  refine AWp.region ?_
  refine AOps.cons rfl rfl (q_assign) ?_
  refine AOps.nil ?_
  refine AWp.ret ?_
  show Fin te Try.f29 _ _
  refine q_ret (0) [_] [_] ?_
  exact congrArg tf (by simp [inZ, recO, baseO, restO, cntS, *]; try omega)
end Go.Proofs.Ytiojkmccnabmfaa.Fw


set_option linter.unusedVariables false
set_option linter.unusedSimpArgs false
namespace Go.Proofs.Ytiojkmccnabmfaa.Fw
open Go.RowKit
theorem lowN_nil {n : List UInt8} : lowN n = [] ↔ canN n = false := by
  unfold lowN
  cases h : canN n with
  | false => simp
  | true => simp [canN_ne h]
def MetL (t : Tr) (i : Nat) (m : List (List UInt8 × Bool)) : Prop := ∀ a, (mget m a).getD false = decide (a ∈ (t.zs.take i).map fun z => lowN z.o)
theorem MetL.start (t : Tr) : MetL t 0 [] := fun a => by simp [mget]
theorem MetL.step {t : Tr} {i : Nat} {m : List (List UInt8 × Bool)} (h : MetL t i m) (hi : i < t.zs.length) : MetL t (i + 1) (mput m (lowN (t.zs.getD i default).o) true) := fun a => by
  rw [mget_put, map_step hi]
  obtain ⟨x, hx⟩ : ∃ x, x = lowN (t.zs.getD i default).o := ⟨_, rfl⟩
  rw [← hx]
  by_cases e : x = a
  · rw [if_pos e]; simp [e]
  · rw [if_neg e, h a]
    have e2 : ¬ a = x := fun k => e k.symm
    simp [e2]
theorem MetL.any {t : Tr} {i : Nat} {m : List (List UInt8 × Bool)} (h : MetL t i m) {n : List UInt8} (hn : canN n = true) : (mget m (lowN n)).getD false = (t.zs.take i).any fun o => sameN o.o n := by
  rw [h, Bool.eq_iff_iff, decide_eq_true_iff, List.any_eq_true, List.mem_map]
  constructor
  · rintro ⟨z, h1, h2⟩
    have hc : canN z.o = true := by
      cases hc : canN z.o with
      | true => rfl
      | false => rw [lowN_nil.2 hc] at h2; rw [lowN_nil.1 h2.symm] at hn; cases hn
    exact ⟨z, h1, by simp [sameN, hc, hn, h2]⟩
  · rintro ⟨z, h1, h2⟩
    unfold sameN at h2
    simp only [Bool.and_eq_true, decide_eq_true_eq] at h2
    exact ⟨z, h1, h2.2⟩
theorem sum_le {l : List Zo} (h : ∀ z ∈ l, ZoOk z) : sumT l ≤ l.length * 2199023255552 := by
  induction l with
  | nil => simp [sumT]
  | cons z l ih =>
    have h1 := (h z (by simp)).2.1.1
    have h2 := ih fun y hy => h y (by simp [hy])
    have h3 : sumT (z :: l) = z.rs.length + sumT l := by simp [sumT]
    rw [h3, List.length_cons, Nat.succ_mul]; omega
theorem sum_take {t : Tr} (ht : TrOk t) (i : Nat) : sumT (t.zs.take i) ≤ i * 2199023255552 := by
  have h1 := sum_le (l := t.zs.take i) fun z hz => ht.2.1 z (List.mem_of_mem_take hz)
  have h2 := List.length_take_le i t.zs
  exact Nat.le_trans h1 (Nat.mul_le_mul_right _ h2)
section
variable {t : Tr}
theorem canT_1 (h : (t.zs.length : Int) < 1) : canT t = false := by rw [canT, decide_eq_false (by omega)]; rfl
theorem canT_2 (h : 20 < (t.zs.length : Int)) : canT t = false := by rw [canT, decide_eq_false (p := t.zs.length ≤ 20) (by omega), Bool.and_false]; rfl
theorem canT_3 (h : ¬ (t.zs.getD 0 default).o = [0]) : canT t = false := by rw [canT, decide_eq_false (p := (t.zs.getD 0 default).o = [0]) h, Bool.and_false]; rfl
theorem canT_4 (h : srvT t = false) : canT t = false := by rw [canT, h, Bool.and_false]; rfl
theorem canT_5 {j : Nat} (hj : j < t.zs.length) (h : orgO t j = false) : canT t = false := by rw [canT, range_all_no hj h, Bool.and_false]; rfl
theorem canT_6 (h : 400 < (sumT t.zs : Int)) : canT t = false := by rw [canT, decide_eq_false (p := sumT t.zs ≤ 400) (by omega), Bool.and_false]; rfl
theorem canT_7 {j : Nat} (hj : j < t.zs.length) (h : zonO t j = false) : canT t = false := by rw [canT, range_all_no hj h, Bool.and_false]
theorem canT_yes (h1 : ¬ (t.zs.length : Int) < 1) (h2 : ¬ 20 < (t.zs.length : Int)) (h3 : ¬ ¬ (t.zs.getD 0 default).o = [0]) (h4 : srvT t = true) (h5 : ∀ j, j < t.zs.length → orgO t j = true) (h6 : ¬ 400 < (sumT t.zs : Int)) (h7 : ∀ j, j < t.zs.length → zonO t j = true) : canT t = true := by
  rw [Decidable.not_not] at h3
  rw [canT, decide_eq_true (p := 1 ≤ t.zs.length) (by omega), decide_eq_true (p := t.zs.length ≤ 20) (by omega), decide_eq_true h3, h4, range_all_iff.2 h5, decide_eq_true (p := sumT t.zs ≤ 400) (by omega), range_all_iff.2 h7]; rfl
theorem any_not {α : Type} {p : α → Bool} {l : List α} : (l.any fun x => !p x) = !l.all p := by
  induction l with
  | nil => rfl
  | cons a l ih => rw [List.any_cons, List.all_cons, ih, Bool.not_and]
end
set_option maxRecDepth 20000 in
set_option maxHeartbeats 2000000 in
theorem c_zone_Can_1 (r : Rr) (z : Zo) (lv : Nat) (hz : ZoOk z) (hr : r.nm.length ≤ 140737488351232) (hd : r.da.length ≤ 140737488351232) : AC Try.prog 28 [.agg (rrc r), .fp lv (zoC z)] emp (Ret (tf (!inZ z r))) := by
 refine AC.intro te_ok (fn := Try.f28) ⟨Try.func28, rfl, rfl⟩ (Nat.le_of_ble_eq_true rfl) ?_
 refine AWp.seq ?_
 refine AWp.region ?_
 refine AOps.cons rfl rfl (q_box 100) ?_
 refine AOps.cons rfl rfl (q_assign) ?_
 refine AOps.nil ?_
 refine AWp.seq ?_
 refine AWp.region ?_
 refine AOps.cons rfl rfl (q_load) ?_
 refine AOps.cons rfl rfl (q_load) ?_
 refine AOps.cons rfl rfl (q_call (lv) (hc := (c_zone_inZone z r hz hr hd))) ?_
 refine AOps.cons rfl rfl (q_not) ?_
 refine AOps.cons rfl rfl (q_assign) ?_
 refine AOps.nil ?_
 refine AWp.ret ?_
 show Fin te Try.f28 _ _
 refine q_ret (0) [_] [_] ?_
 rfl
set_option maxRecDepth 20000 in
set_option maxHeartbeats 2000000 in
theorem c_zone_Can (t : Tr) (ht : TrOk t) : AC Try.prog 12 [.agg (trC t)] emp (Ret (tf (canT t))) := by
 have hb1 := ht.1
 have hsum := sum_take ht
 refine AC.intro te_ok (fn := Try.f12) ⟨Try.func12, rfl, rfl⟩ (Nat.le_of_ble_eq_true rfl) ?_
 refine AWp.seq ?_
 refine AWp.region ?_
 refine AOps.cons rfl rfl (q_box 100) ?_
 refine AOps.cons rfl rfl (q_assign) ?_
 refine AOps.nil ?_
 refine AWp.seq ?_
 refine AWp.seq ?_
 refine AWp.region ?_
 refine AOps.cons rfl rfl (q_fa) ?_
 refine AOps.cons rfl rfl (q_load) ?_
 refine AOps.cons rfl rfl (q_len) ?_
 refine AOps.dec rfl rfl (q_lss) (fun h1_3 => ?_) (fun h1_3 => ?_)
 ·
  refine AOps.cons rfl rfl (q_move) ?_
  refine AOps.gskip rfl rfl rfl rfl rfl rfl rfl rfl ?_
  refine AOps.gskip rfl rfl rfl rfl rfl rfl rfl rfl ?_
  refine AOps.gskip rfl rfl rfl rfl rfl rfl rfl rfl ?_
  refine AOps.gskip rfl rfl rfl rfl rfl rfl rfl rfl ?_
  refine AOps.cons rfl rfl (q_pick) ?_
  refine AOps.cons rfl rfl (q_move) ?_
  refine AOps.gskip rfl rfl rfl rfl rfl rfl rfl rfl ?_
  refine AOps.gskip rfl rfl rfl rfl rfl rfl rfl rfl ?_
  refine AOps.gskip rfl rfl rfl rfl rfl rfl rfl rfl ?_
  refine AOps.gskip rfl rfl rfl rfl rfl rfl rfl rfl ?_
  refine AOps.gskip rfl rfl rfl rfl rfl rfl rfl rfl ?_
  refine AOps.gskip rfl rfl rfl rfl rfl rfl rfl rfl ?_
  refine AOps.cons rfl rfl (q_pick) ?_
  refine AOps.cons rfl rfl (q_move) ?_
  refine AOps.gskip rfl rfl rfl rfl rfl rfl rfl rfl ?_
  refine AOps.gskip rfl rfl rfl rfl rfl rfl rfl rfl ?_
  refine AOps.gskip rfl rfl rfl rfl rfl rfl rfl rfl ?_
  refine AOps.cons rfl rfl (q_pick) ?_
  refine AOps.nil ?_
  refine AWp.cond_t rfl ?_
  refine AWp.seq ?_
  refine AWp.region ?_
  refine AOps.cons rfl rfl (q_assign) ?_
  refine AOps.nil ?_
  refine AWp.ret ?_
  show Fin te Try.f12 _ _
  refine q_ret (0) [_] [_] ?_
  exact congrArg tf (canT_1 h1_3).symm
 ·
  refine AOps.cons rfl rfl (q_move) ?_
  refine AOps.gcons rfl rfl rfl rfl rfl (q_fa) ?_
  refine AOps.gcons rfl rfl rfl rfl rfl (q_load) ?_
  refine AOps.gcons rfl rfl rfl rfl rfl (q_len) ?_
  refine AOps.gdec rfl rfl rfl rfl rfl (q_gtr) (fun h1_8 => ?_) (fun h1_8 => ?_)
  ·
   refine AOps.cons rfl rfl (q_pick) ?_
   refine AOps.cons rfl rfl (q_move) ?_
   refine AOps.gskip rfl rfl rfl rfl rfl rfl rfl rfl ?_
   refine AOps.gskip rfl rfl rfl rfl rfl rfl rfl rfl ?_
   refine AOps.gskip rfl rfl rfl rfl rfl rfl rfl rfl ?_
   refine AOps.gskip rfl rfl rfl rfl rfl rfl rfl rfl ?_
   refine AOps.gskip rfl rfl rfl rfl rfl rfl rfl rfl ?_
   refine AOps.gskip rfl rfl rfl rfl rfl rfl rfl rfl ?_
   refine AOps.cons rfl rfl (q_pick) ?_
   refine AOps.cons rfl rfl (q_move) ?_
   refine AOps.gskip rfl rfl rfl rfl rfl rfl rfl rfl ?_
   refine AOps.gskip rfl rfl rfl rfl rfl rfl rfl rfl ?_
   refine AOps.gskip rfl rfl rfl rfl rfl rfl rfl rfl ?_
   refine AOps.cons rfl rfl (q_pick) ?_
   refine AOps.nil ?_
   refine AWp.cond_t rfl ?_
   refine AWp.seq ?_
   refine AWp.region ?_
   refine AOps.cons rfl rfl (q_assign) ?_
   refine AOps.nil ?_
   refine AWp.ret ?_
   show Fin te Try.f12 _ _
   refine q_ret (0) [_] [_] ?_
   exact congrArg tf (canT_2 h1_8).symm
  ·
   refine AOps.cons rfl rfl (q_pick) ?_
   refine AOps.cons rfl rfl (q_move) ?_
   refine AOps.gcons rfl rfl rfl rfl rfl (q_fa) ?_
   refine AOps.gcons rfl rfl rfl rfl rfl (q_load) ?_
   refine AOps.gcons rfl rfl rfl rfl rfl (q_ix) ?_
   refine AOps.gcons rfl rfl rfl rfl rfl (q_fa) ?_
   refine AOps.gcons rfl rfl rfl rfl rfl (q_load) ?_
   refine AOps.gdec rfl rfl rfl rfl rfl (q_sneq) (fun h1_16 => ?_) (fun h1_16 => ?_)
   ·
    refine AOps.cons rfl rfl (q_pick) ?_
    refine AOps.cons rfl rfl (q_move) ?_
    refine AOps.gskip rfl rfl rfl rfl rfl rfl rfl rfl ?_
    refine AOps.gskip rfl rfl rfl rfl rfl rfl rfl rfl ?_
    refine AOps.gskip rfl rfl rfl rfl rfl rfl rfl rfl ?_
    refine AOps.cons rfl rfl (q_pick) ?_
    refine AOps.nil ?_
    refine AWp.cond_t rfl ?_
    refine AWp.seq ?_
    refine AWp.region ?_
    refine AOps.cons rfl rfl (q_assign) ?_
    refine AOps.nil ?_
    refine AWp.ret ?_
    show Fin te Try.f12 _ _
    refine q_ret (0) [_] [_] ?_
    exact congrArg tf (canT_3 h1_16).symm
   ·
    refine AOps.cons rfl rfl (q_pick) ?_
    refine AOps.cons rfl rfl (q_move) ?_
    refine AOps.gcons rfl rfl rfl rfl rfl (q_load) ?_
    refine AOps.gbool rfl rfl rfl rfl rfl (q_call (0) (hc := (c_zone_served t ht))) (fun h1_20 => ?_) (fun h1_20 => ?_)
    ·
     refine AOps.gcons rfl rfl rfl rfl rfl (q_not) ?_
     refine AOps.cons rfl rfl (q_pick) ?_
     refine AOps.nil ?_
     refine AWp.cond_f rfl ?_
     refine AWp.skip ?_
     refine AWp.seq ?_
     refine AWp.region ?_
     refine AOps.cons rfl rfl (q_makeMap 400 MStr (fun b : Bool => tf b)) ?_
     refine AOps.cons rfl rfl (q_assign) ?_
     refine AOps.nil ?_
     refine AWp.seq ?_
     refine AWp.region ?_
     refine AOps.cons rfl rfl (q_assign) ?_
     refine AOps.nil ?_
     refine AWp.seq ?_
     refine AWp.seq ?_
     refine AWp.region ?_
     refine AOps.cons rfl rfl (q_fa) ?_
     refine AOps.cons rfl rfl (q_load) ?_
     refine AOps.cons rfl rfl (q_len) ?_
     refine AOps.cons rfl rfl (q_move) ?_
     refine AOps.nil ?_
     refine AWp.block ?_
     refine AWp.loopR (α := Nat × List (List UInt8 × Bool)) [2, 4, 6, 7, 38, 39, 40, 41, 42, 43, 44, 45, 46, 47, 48, 49, 50, 51, 52, 53, 54, 55, 56, 57, 58, 59] (fun x_ => [(38, i64 (x_.1)), (4, i64 (sumT (t.zs.take (x_.1))))]) (fun x_ => [(400, .map (me MStr (fun b : Bool => tf b) (x_.2)))]) (fun x_ => (x_.1) ≤ t.zs.length ∧ MetL t (x_.1) (x_.2) ∧ ∀ j, j < (x_.1) → orgO t j = true) (fun x_ => t.zs.length - (x_.1)) (0, []) ?_ (Back.mk' (HasT.cons (HasT.cons HasT.nil)) (HasH.cons HasH.nil (h2 := by exact objIn_me (fun _ => rfl)) )) ?_
     ·
      exact ⟨Nat.zero_le _, MetL.start t, fun j hj => absurd hj (Nat.not_lt_zero j)⟩
     ·
      rintro ⟨i, m⟩ hI6
      change i ≤ t.zs.length ∧ MetL t i m ∧ ∀ j, j < i → orgO t j = true at hI6
      obtain ⟨hi, hm, hc⟩ := hI6
      refine AWp.as (s' := AS.over _ [2, 4, 6, 7, 38, 39, 40, 41, 42, 43, 44, 45, 46, 47, 48, 49, 50, 51, 52, 53, 54, 55, 56, 57, 58, 59] [(38, i64 i), (4, i64 (sumT (t.zs.take i)))] [(400, .map (me MStr (fun b : Bool => tf b) m))]) rfl ?_
      have hsi := hsum i
      refine AWp.seq ?_
      refine AWp.region ?_
      refine AOps.dec rfl rfl (q_lss) (fun h6_0 => ?_) (fun h6_0 => ?_)
      ·
       refine AOps.nil ?_
       refine AWp.seq ?_
       refine AWp.cond_t rfl ?_
       refine AWp.skip ?_
       refine AWp.seq ?_
       refine AWp.block ?_
       refine AWp.seq ?_
       refine AWp.region ?_
       refine AOps.cons rfl rfl (q_ix) ?_
       refine AOps.cons rfl rfl (q_load) ?_
       refine AOps.cons rfl rfl (q_alloc 802) ?_
       refine AOps.cons rfl rfl (q_store) ?_
       refine AOps.nil ?_
       refine AWp.seq ?_
       refine AWp.region ?_
       have hzi := ht.2.1 _ (getD_mem' (l := t.zs) (i := i) (by omega))
       have hzl := hzi.1
       refine AOps.cons rfl rfl (q_fa) ?_
       refine AOps.cons rfl rfl (q_load) ?_
       refine AOps.cons rfl rfl (q_call (0) (hc := (c_name_Lower (t.zs.getD i default).o (by omega)))) ?_
       refine AOps.cons rfl rfl (q_assign) ?_
       refine AOps.nil ?_
       refine AWp.seq ?_
       refine AWp.seq ?_
       refine AWp.region ?_
       refine AOps.cons rfl rfl (q_move) ?_
       refine AOps.dec rfl rfl (q_seql) (fun h9_1 => ?_) (fun h9_1 => ?_)
       ·
        refine AOps.cons rfl rfl (q_move) ?_
        refine AOps.gskip rfl rfl rfl rfl rfl rfl rfl rfl ?_
        refine AOps.gskip rfl rfl rfl rfl rfl rfl rfl rfl ?_
        refine AOps.gskip rfl rfl rfl rfl rfl rfl rfl rfl ?_
        refine AOps.cons rfl rfl (q_pick) ?_
        refine AOps.nil ?_
        refine AWp.cond_t rfl ?_
        refine AWp.seq ?_
        refine AWp.region ?_
        refine AOps.cons rfl rfl (q_assign) ?_
        refine AOps.nil ?_
        refine AWp.ret ?_
        show Fin te Try.f12 _ _
        refine q_ret (0) [_] [_] ?_
        exact congrArg tf (canT_5 (j := i) (by omega) (by rw [orgO, lowN_nil.1 h9_1]; rfl)).symm
       ·
        refine AOps.cons rfl rfl (q_move) ?_
        refine AOps.gcons rfl rfl rfl rfl rfl (q_move) ?_
        refine AOps.gcons rfl rfl rfl rfl rfl (q_move) ?_
        refine AOps.gbool rfl rfl rfl rfl rfl (q_lookup MStr) (fun h9_5 => ?_) (fun h9_5 => ?_)
        ·
         refine AOps.cons rfl rfl (q_pick) ?_
         refine AOps.nil ?_
         refine AWp.cond_t rfl ?_
         refine AWp.seq ?_
         refine AWp.region ?_
         refine AOps.cons rfl rfl (q_assign) ?_
         refine AOps.nil ?_
         refine AWp.ret ?_
         show Fin te Try.f12 _ _
         refine q_ret (0) [_] [_] ?_
         have hcn : canN (t.zs.getD i default).o = true := by
           cases hcn : canN (t.zs.getD i default).o with
           | true => rfl
           | false => exact absurd (lowN_nil.2 hcn) h9_1
         exact congrArg tf (canT_5 (j := i) (by omega) (by rw [orgO, ← hm.any hcn, h9_5, Bool.not_true, Bool.and_false])).symm
        ·
         refine AOps.cons rfl rfl (q_pick) ?_
         refine AOps.nil ?_
         refine AWp.cond_f rfl ?_
         refine AWp.skip ?_
         refine AWp.seq ?_
         refine AWp.region ?_
         have hcn : canN (t.zs.getD i default).o = true := by
           cases hcn : canN (t.zs.getD i default).o with
           | true => rfl
           | false => exact absurd (lowN_nil.2 hcn) h9_1
         refine AOps.cons rfl rfl (q_move) ?_
         refine AOps.cons rfl rfl (q_move) ?_
         refine AOps.cons rfl rfl (q_mapUpdate MStr true) ?_
         refine AOps.nil ?_
         refine AWp.region ?_
         have hrl : (t.zs.getD i default).rs.length * 64 ≤ 140737488351232 := hzi.2.1.1
         have hrl2 : (t.zs[i]?.getD default).rs.length * 64 ≤ 140737488351232 := by rw [← List.getD_eq_getElem?_getD]; exact hrl
         have hrl3 : (t.zs.getD (i : Int).toNat default).rs.length = (t.zs.getD i default).rs.length := rfl
         refine AOps.cons rfl rfl (q_move) ?_
         refine AOps.cons rfl rfl (q_fa) ?_
         refine AOps.cons rfl rfl (q_load) ?_
         refine AOps.cons rfl rfl (q_len) ?_
         refine AOps.cons rfl rfl (q_add) ?_
         refine AOps.cons rfl rfl (q_assign) ?_
         refine AOps.nil ?_
         refine AWp.region ?_
         refine AOps.cons rfl rfl (q_add) ?_
         refine AOps.cons rfl rfl (q_move) ?_
         refine AOps.nil ?_
         refine ⟨(i + 1, mput m (lowN (t.zs.getD i default).o) true), ?_, Back.mk' (HasT.cons (HasT.cons HasT.nil (h1 := by exact i64_eq (by rw [sum_step (by omega)]; omega)) )) (HasH.cons HasH.nil (h2 := by exact objIn_me (fun _ => rfl)) ), ?_⟩
         ·
          try dsimp only
          exact ⟨by omega, hm.step (by omega), lt_step hc (by rw [orgO, hcn, ← hm.any hcn, h9_5]; rfl)⟩
         ·
          try dsimp only
          first | omega | (simp; omega)
      ·
       refine AOps.nil ?_
       refine AWp.seq ?_
       refine AWp.cond_f rfl ?_
       refine AWp.exit ?_
       refine AWp.seq ?_
       refine AWp.seq ?_
       refine AWp.region ?_
       obtain rfl : i = t.zs.length := by omega
       rw [List.take_length]
       refine AOps.cons rfl rfl (q_move) ?_
       refine AOps.dec rfl rfl (q_gtr) (fun h14_1 => ?_) (fun h14_1 => ?_)
       ·
        refine AOps.nil ?_
        refine AWp.cond_t rfl ?_
        refine AWp.seq ?_
        refine AWp.region ?_
        refine AOps.cons rfl rfl (q_assign) ?_
        refine AOps.nil ?_
        refine AWp.ret ?_
        show Fin te Try.f12 _ _
        refine q_ret (0) [_] [_] ?_
        exact congrArg tf (canT_6 h14_1).symm
       ·
        refine AOps.nil ?_
        refine AWp.cond_f rfl ?_
        refine AWp.skip ?_
        refine AWp.seq ?_
        refine AWp.region ?_
        refine AOps.cons rfl rfl (q_load) ?_
        refine AOps.cons rfl rfl (q_call (0) (hc := (c_zone_parents t ht))) ?_
        refine AOps.cons rfl rfl (q_assign) ?_
        refine AOps.nil ?_
        refine AWp.seq ?_
        refine AWp.seq ?_
        refine AWp.region ?_
        refine AOps.cons rfl rfl (q_fa) ?_
        refine AOps.cons rfl rfl (q_load) ?_
        refine AOps.cons rfl rfl (q_len) ?_
        refine AOps.cons rfl rfl (q_move) ?_
        refine AOps.nil ?_
        refine AWp.block ?_
        refine AWp.loopR (α := Nat) [2, 9, 10, 67, 68, 69, 70, 71, 72, 73, 74, 75, 76, 77, 78, 79, 80, 81, 82, 83, 84, 85, 86, 87, 88, 89, 90, 91, 92, 93, 94, 95, 96, 97] (fun i => [(67, i64 i)]) (fun i => []) (fun i => i ≤ t.zs.length ∧ ∀ j, j < i → zonO t j = true) (fun i => t.zs.length - i) 0 ?_ (Back.mk' (HasT.cons HasT.nil) HasH.nil) ?_
        ·
         exact ⟨Nat.zero_le _, fun j hj => absurd hj (Nat.not_lt_zero j)⟩
        ·
         rintro i ⟨hi, hz⟩
         refine AWp.seq ?_
         refine AWp.region ?_
         refine AOps.dec rfl rfl (q_lss) (fun h18_0 => ?_) (fun h18_0 => ?_)
         ·
          refine AOps.nil ?_
          refine AWp.seq ?_
          refine AWp.cond_t rfl ?_
          refine AWp.skip ?_
          refine AWp.seq ?_
          refine AWp.block ?_
          refine AWp.seq ?_
          refine AWp.region ?_
          have hzi := ht.2.1 _ (getD_mem' (l := t.zs) (i := i) (by omega))
          have hzl := hzi.1
          have hrl : (t.zs.getD i default).rs.length * 64 ≤ 140737488351232 := hzi.2.1.1
          refine AOps.cons rfl rfl (q_move) ?_
          refine AOps.cons rfl rfl (q_ix) ?_
          refine AOps.cons rfl rfl (q_load) ?_
          refine AOps.cons rfl rfl (q_alloc 2003) ?_
          refine AOps.cons rfl rfl (q_assign) ?_
          refine AOps.cons rfl rfl (q_store) ?_
          refine AOps.nil ?_
          refine AWp.seq ?_
          refine AWp.seq ?_
          refine AWp.region ?_
          refine AOps.cons rfl rfl (q_fa) ?_
          refine AOps.cons rfl rfl (q_load) ?_
          refine AOps.cons rfl rfl (q_makeFunc [] [_]) ?_
          refine AOps.bool rfl rfl (q_call (0) (hc := (c_ContainsFunc_rr (t.zs.getD i default).rs 0 0 1 [.fp 1 (zoC (t.zs.getD i default))] (fun r => !inZ (t.zs.getD i default) r) (by omega) rfl (fun r hr => c_zone_Can_1 r (t.zs.getD i default) 1 hzi (hzi.2.2 r hr) (hzi.2.1.2 r hr))))) (fun h20_3 => ?_) (fun h20_3 => ?_)
          ·
           refine AOps.nil ?_
           refine AWp.cond_t rfl ?_
           refine AWp.seq ?_
           refine AWp.region ?_
           refine AOps.cons rfl rfl (q_assign) ?_
           refine AOps.nil ?_
           refine AWp.ret ?_
           show Fin te Try.f12 _ _
           refine q_ret (0) [_] [_] ?_
           have hall : (t.zs.getD i default).rs.all (inZ (t.zs.getD i default)) = false := by rw [any_not] at h20_3; simpa using h20_3
           exact congrArg tf (canT_7 (j := i) (by omega) (by rw [zonO, hall]; rfl)).symm
          ·
           refine AOps.nil ?_
           refine AWp.cond_f rfl ?_
           refine AWp.skip ?_
           refine AWp.seq ?_
           refine AWp.region ?_
           have hall : (t.zs.getD i default).rs.all (inZ (t.zs.getD i default)) = true := by rw [any_not] at h20_3; simpa using h20_3
           refine AOps.cons rfl rfl (q_load) ?_
           refine AOps.cons rfl rfl (q_fa) ?_
           refine AOps.cons rfl rfl (q_load) ?_
           refine AOps.cons rfl rfl (q_call (0) (hc := (c_zone_at (t.zs.getD i default) (t.zs.getD i default).o 6 hzi hzl))) ?_
           refine AOps.cons rfl rfl (q_len) ?_
           refine AOps.dec rfl rfl (q_neq) (fun h22_5 => ?_) (fun h22_5 => ?_)
           ·
            refine AOps.cons rfl rfl (q_move) ?_
            refine AOps.gskip rfl rfl rfl rfl rfl rfl rfl rfl ?_
            refine AOps.gskip rfl rfl rfl rfl rfl rfl rfl rfl ?_
            refine AOps.gskip rfl rfl rfl rfl rfl rfl rfl rfl ?_
            refine AOps.gskip rfl rfl rfl rfl rfl rfl rfl rfl ?_
            refine AOps.gskip rfl rfl rfl rfl rfl rfl rfl rfl ?_
            refine AOps.gskip rfl rfl rfl rfl rfl rfl rfl rfl ?_
            refine AOps.cons rfl rfl (q_pick) ?_
            refine AOps.cons rfl rfl (q_move) ?_
            refine AOps.gskip rfl rfl rfl rfl rfl rfl rfl rfl ?_
            refine AOps.gskip rfl rfl rfl rfl rfl rfl rfl rfl ?_
            refine AOps.gskip rfl rfl rfl rfl rfl rfl rfl rfl ?_
            refine AOps.gskip rfl rfl rfl rfl rfl rfl rfl rfl ?_
            refine AOps.gskip rfl rfl rfl rfl rfl rfl rfl rfl ?_
            refine AOps.cons rfl rfl (q_pick) ?_
            refine AOps.nil ?_
            refine AWp.cond_t rfl ?_
            refine AWp.seq ?_
            refine AWp.region ?_
            refine AOps.cons rfl rfl (q_assign) ?_
            refine AOps.nil ?_
            refine AWp.ret ?_
            show Fin te Try.f12 _ _
            refine q_ret (0) [_] [_] ?_
            exact congrArg tf (canT_7 (j := i) (by omega) (by rw [zonO, decide_eq_false (p := (atZ (t.zs.getD i default) (t.zs.getD i default).o 6).length = 1) (by omega), Bool.and_false]; rfl)).symm
           ·
            refine AOps.cons rfl rfl (q_move) ?_
            refine AOps.gcons rfl rfl rfl rfl rfl (q_load) ?_
            refine AOps.gcons rfl rfl rfl rfl rfl (q_fa) ?_
            refine AOps.gcons rfl rfl rfl rfl rfl (q_load) ?_
            refine AOps.gcons rfl rfl rfl rfl rfl (q_call (0) (hc := (c_zone_at (t.zs.getD i default) (t.zs.getD i default).o 2 hzi hzl))) ?_
            refine AOps.gcons rfl rfl rfl rfl rfl (q_len) ?_
            refine AOps.gdec rfl rfl rfl rfl rfl (q_lss) (fun h22_12 => ?_) (fun h22_12 => ?_)
            ·
             refine AOps.cons rfl rfl (q_pick) ?_
             refine AOps.cons rfl rfl (q_move) ?_
             refine AOps.gskip rfl rfl rfl rfl rfl rfl rfl rfl ?_
             refine AOps.gskip rfl rfl rfl rfl rfl rfl rfl rfl ?_
             refine AOps.gskip rfl rfl rfl rfl rfl rfl rfl rfl ?_
             refine AOps.gskip rfl rfl rfl rfl rfl rfl rfl rfl ?_
             refine AOps.gskip rfl rfl rfl rfl rfl rfl rfl rfl ?_
             refine AOps.cons rfl rfl (q_pick) ?_
             refine AOps.nil ?_
             refine AWp.cond_t rfl ?_
             refine AWp.seq ?_
             refine AWp.region ?_
             refine AOps.cons rfl rfl (q_assign) ?_
             refine AOps.nil ?_
             refine AWp.ret ?_
             show Fin te Try.f12 _ _
             refine q_ret (0) [_] [_] ?_
             exact congrArg tf (canT_7 (j := i) (by omega) (by rw [zonO, decide_eq_false (p := 1 ≤ (atZ (t.zs.getD i default) (t.zs.getD i default).o 2).length) (by omega), Bool.and_false]; rfl)).symm
            ·
             refine AOps.cons rfl rfl (q_pick) ?_
             refine AOps.cons rfl rfl (q_move) ?_
             refine AOps.gcons rfl rfl rfl rfl rfl (q_load) ?_
             refine AOps.gcons rfl rfl rfl rfl rfl (q_move) ?_
             refine AOps.gcons rfl rfl rfl rfl rfl (q_move) ?_
             refine AOps.gbool rfl rfl rfl rfl rfl (q_call (0) (hc := (c_zone_joined t (parT t) i 0 ht (parT_len t) ⟨by omega, by omega⟩))) (fun h22_18 => ?_) (fun h22_18 => ?_)
             ·
              refine AOps.gcons rfl rfl rfl rfl rfl (q_not) ?_
              refine AOps.cons rfl rfl (q_pick) ?_
              refine AOps.nil ?_
              refine AWp.cond_f rfl ?_
              refine AWp.skip ?_
              refine AWp.region ?_
              refine AOps.cons rfl rfl (q_add) ?_
              refine AOps.cons rfl rfl (q_move) ?_
              refine AOps.nil ?_
              refine ⟨i + 1, ?_, Back.mk' (HasT.cons HasT.nil) HasH.nil, ?_⟩
              ·
               exact ⟨by omega, lt_step hz (by rw [zonO, hall, decide_eq_true (by omega), decide_eq_true (by omega), h22_18]; rfl)⟩
              ·
               first | omega | (simp; omega)
             ·
              refine AOps.gcons rfl rfl rfl rfl rfl (q_not) ?_
              refine AOps.cons rfl rfl (q_pick) ?_
              refine AOps.nil ?_
              refine AWp.cond_t rfl ?_
              refine AWp.seq ?_
              refine AWp.region ?_
              refine AOps.cons rfl rfl (q_assign) ?_
              refine AOps.nil ?_
              refine AWp.ret ?_
              show Fin te Try.f12 _ _
              refine q_ret (0) [_] [_] ?_
              exact congrArg tf (canT_7 (j := i) (by omega) (by rw [zonO, h22_18, Bool.and_false])).symm
         ·
          refine AOps.nil ?_
          refine AWp.seq ?_
          refine AWp.cond_f rfl ?_
          refine AWp.exit ?_
          refine AWp.seq ?_
          refine AWp.region ?_
          refine AOps.cons rfl rfl (q_assign) ?_
          refine AOps.nil ?_
          refine AWp.ret ?_
          show Fin te Try.f12 _ _
          refine q_ret (0) [_] [_] ?_
          obtain rfl : i = t.zs.length := by omega
          exact congrArg tf (canT_yes h1_3 h1_8 h1_16 h1_20 hc h14_1 hz).symm
    ·
     refine AOps.gcons rfl rfl rfl rfl rfl (q_not) ?_
     refine AOps.cons rfl rfl (q_pick) ?_
     refine AOps.nil ?_
     refine AWp.cond_t rfl ?_
     refine AWp.seq ?_
     refine AWp.region ?_
     refine AOps.cons rfl rfl (q_assign) ?_
     refine AOps.nil ?_
     refine AWp.ret ?_
     show Fin te Try.f12 _ _
     refine q_ret (0) [_] [_] ?_
     exact congrArg tf (canT_4 h1_20).symm
end Go.Proofs.Ytiojkmccnabmfaa.Fw


set_option linter.unusedVariables false
set_option linter.unusedSimpArgs false
namespace Go.Proofs.Ytiojkmccnabmfaa.Fw
open Go.RowKit
def Msg.rrs (m : Msg) : List Rr := m.an ++ m.au ++ m.ad
def NmOk (m : Msg) : Prop := (∀ x ∈ m.qs, x.nm.length ≤ 140737488351232) ∧ ∀ x ∈ m.rrs, x.nm.length ≤ 140737488351232
section
variable {d : Nat} {s n b u : TypeId} {is in' ib iu : TI}
theorem has_rrN {t y : TypeId} {it iy : TI} {cs : List AV} (h : Has te (d + 2) t cs) (ht : te.get t = some it) (kt : it.k = .struct [(0, s), (1, n), (2, n), (3, n), (4, y)]) (hs : te.get s = some is) (ks : is.k = .str) (hn : te.get n = some in') (kn : in'.k = .int .i64)
    (hy : te.get y = some iy) (ky : iy.k = .slice u) (hu : te.get u = some iu) (ku : iu.k = .int .u8) (bu : iu.bytes = 1) : ∃ x : Rr, cs = rrc x ∧ (x.da.length ≤ 140737488351232 ∧ x.nm.length ≤ 140737488351232) := by
  obtain ⟨_, w, rfl, q, hh⟩ := has_struct h ht kt
  obtain ⟨a1, rfl, bn⟩ := has_str q hs ks
  obtain ⟨_, w, rfl, q, hh⟩ := hh
  obtain ⟨a2, rfl, _⟩ := has_int q hn kn
  obtain ⟨_, w, rfl, q, hh⟩ := hh
  obtain ⟨a3, rfl, _⟩ := has_int q hn kn
  obtain ⟨_, w, rfl, q, hh⟩ := hh
  obtain ⟨a4, rfl, _⟩ := has_int q hn kn
  obtain ⟨_, w, rfl, q, hh⟩ := hh
  obtain ⟨a5, rfl, h5⟩ := has_bytes q hy ky hu ku bu
  cases hh
  exact ⟨⟨a1, a2, a3, a4, a5⟩, rfl, h5, bn⟩
theorem has_quN {t : TypeId} {it : TI} {cs : List AV} (h : Has te (d + 1) t cs) (ht : te.get t = some it) (kt : it.k = .struct [(0, s), (1, n), (2, n)]) (hs : te.get s = some is) (ks : is.k = .str) (hn : te.get n = some in') (kn : in'.k = .int .i64) : ∃ x : Qu, cs = quc x ∧ x.nm.length ≤ 140737488351232 := by
  obtain ⟨_, w, rfl, q, hh⟩ := has_struct h ht kt
  obtain ⟨a1, rfl, bn⟩ := has_str q hs ks
  obtain ⟨_, w, rfl, q, hh⟩ := hh
  obtain ⟨a2, rfl, _⟩ := has_int q hn kn
  obtain ⟨_, w, rfl, q, hh⟩ := hh
  obtain ⟨a3, rfl, _⟩ := has_int q hn kn
  cases hh
  exact ⟨⟨a1, a2, a3⟩, rfl, bn⟩
theorem has_rrsN {t r y : TypeId} {it ir iy : TI} {cs : List AV} (h : Has te (d + 3) t cs) (ht : te.get t = some it) (kt : it.k = .slice r) (hr : te.get r = some ir) (kr : ir.k = .struct [(0, s), (1, n), (2, n), (3, n), (4, y)]) (br : ir.bytes = 64)
    (hs : te.get s = some is) (ks : is.k = .str) (hn : te.get n = some in') (kn : in'.k = .int .i64) (hy : te.get y = some iy) (ky : iy.k = .slice u) (hu : te.get u = some iu) (ku : iu.k = .int .u8) (bu : iu.bytes = 1) : ∃ l : List Rr, cs = [.fz 0 l.length (cl rrc l)] ∧ (RrsOk l ∧ ∀ x ∈ l, x.nm.length ≤ 140737488351232) := by
  obtain ⟨l, h1, h2, h3⟩ := has_sl (f := rrc) (q := fun x => x.da.length ≤ 140737488351232 ∧ x.nm.length ≤ 140737488351232) h ht kt hr fun c hc => has_rrN hc hr kr hs ks hn kn hy ky hu ku bu
  exact ⟨l, h1, ⟨by rw [br] at h2; exact h2, fun x hx => (h3 x hx).1⟩, fun x hx => (h3 x hx).2⟩
theorem has_qusN {t r : TypeId} {it ir : TI} {cs : List AV} (h : Has te (d + 2) t cs) (ht : te.get t = some it) (kt : it.k = .slice r) (hr : te.get r = some ir) (kr : ir.k = .struct [(0, s), (1, n), (2, n)]) (br : ir.bytes = 32)
    (hs : te.get s = some is) (ks : is.k = .str) (hn : te.get n = some in') (kn : in'.k = .int .i64) : ∃ l : List Qu, cs = [.fz 0 l.length (cl quc l)] ∧ (l.length * 32 ≤ 140737488351232 ∧ ∀ x ∈ l, x.nm.length ≤ 140737488351232) := by
  obtain ⟨l, h1, h2, h3⟩ := has_sl (f := quc) (q := fun x => x.nm.length ≤ 140737488351232) h ht kt hr fun c hc => has_quN hc hr kr hs ks hn kn
  exact ⟨l, h1, by rw [br] at h2; exact h2, h3⟩
theorem has_msgN {t th tq tr r q y : TypeId} {it ith itq itr ir iq iy : TI} {cs : List AV} (h : Has te (d + 4) t cs) (ht : te.get t = some it) (kt : it.k = .struct [(0, th), (8, tq), (9, tr), (10, tr), (11, tr)])
    (hth : te.get th = some ith) (kth : ith.k = .struct [(0, n), (1, b), (2, n), (3, b), (4, b), (5, b), (6, b), (7, n)]) (htq : te.get tq = some itq) (ktq : itq.k = .slice q) (hq : te.get q = some iq) (kq : iq.k = .struct [(0, s), (1, n), (2, n)]) (bq : iq.bytes = 32)
    (htr : te.get tr = some itr) (ktr : itr.k = .slice r) (hr : te.get r = some ir) (kr : ir.k = .struct [(0, s), (1, n), (2, n), (3, n), (4, y)]) (br : ir.bytes = 64)
    (hs : te.get s = some is) (ks : is.k = .str) (hn : te.get n = some in') (kn : in'.k = .int .i64) (hb : te.get b = some ib) (kb : ib.k = .bool) (hy : te.get y = some iy) (ky : iy.k = .slice u) (hu : te.get u = some iu) (ku : iu.k = .int .u8) (bu : iu.bytes = 1) :
    ∃ m : Msg, cs = msgC m ∧ MsgOk m ∧ NmOk m := by
  obtain ⟨_, w, rfl, q1, hh⟩ := has_struct h ht kt
  obtain ⟨a1, rfl, _⟩ := has_hdr q1 hth kth hn kn hb kb
  obtain ⟨_, w, rfl, q1, hh⟩ := hh
  obtain ⟨a2, rfl, b2⟩ := has_qusN q1 htq ktq hq kq bq hs ks hn kn
  obtain ⟨_, w, rfl, q1, hh⟩ := hh
  obtain ⟨a3, rfl, b3⟩ := has_rrsN q1 htr ktr hr kr br hs ks hn kn hy ky hu ku bu
  obtain ⟨_, w, rfl, q1, hh⟩ := hh
  obtain ⟨a4, rfl, b4⟩ := has_rrsN q1 htr ktr hr kr br hs ks hn kn hy ky hu ku bu
  obtain ⟨_, w, rfl, q1, hh⟩ := hh
  obtain ⟨a5, rfl, b5⟩ := has_rrsN q1 htr ktr hr kr br hs ks hn kn hy ky hu ku bu
  cases hh
  refine ⟨⟨a1, a2, a3, a4, a5⟩, rfl, ⟨b2.1, b3.1, b4.1, b5.1⟩, b2.2, fun x hx => ?_⟩
  simp only [Msg.rrs, List.mem_append] at hx
  rcases hx with (hx | hx) | hx
  · exact b3.2 x hx
  · exact b4.2 x hx
  · exact b5.2 x hx
end
section
variable {d : Nat} {s n u : TypeId} {is in' iu : TI}
end
end Go.Proofs.Ytiojkmccnabmfaa.Fw


set_option linter.unusedVariables false
set_option linter.unusedSimpArgs false
set_option linter.unusedSectionVars false
namespace Go.Proofs.Ytiojkmccnabmfaa.Fw
open Go.RowKit
theorem run_equal_mnil {P : Program} {t k e : TypeId} {a : Option Nat} (ht : P.underlying t = some (.map k e)) (w : World) : (Op.equal t (.map a) (.map none)).run P w = .ok a.isNone w := by
  have h : ∀ q, (Op.equalIn (q + 1) t (.map a) (.map none)).run P w = .ok a.isNone w := fun q => by cases a <;> simp [Op.equalIn, run_underlying ht]
  exact h 9999
def mnil? : AV → Option Bool
  | .mp .. => some false
  | .v (.map a) => some a.isNone
  | _ => none
theorem rep_mnil {w : World} {φ : PMap} {Λ : Lent} {x : AV} {v : Value} {b : Bool} (h : Rep w φ Λ x v) (hb : mnil? x = some b) : ∃ a, v = .map a ∧ a.isNone = b := by
  cases h with
  | v =>
    cases v <;> simp [mnil?] at hb
    exact ⟨_, rfl, hb⟩
  | mp => exact ⟨_, rfl, by simpa [mnil?] using hb⟩
  | mpx => exact ⟨_, rfl, by simpa [mnil?] using hb⟩
  | _ => simp [mnil?] at hb
section
variable {n : Nat} {s : AS} {o : Oper} {d : Option Tmp} {Q : APost}
theorem q_mnil {op : BinOp} {t u k e : TypeId} {x y : Operand} {a : AV} {b r : Bool} {ti : TI} (ho : o.op = .binOp op t x y u := by exact rfl) (hx : s.ev x = a := by conv => lhs; whnf) (ha : mnil? a = some b := by exact rfl) (hy : s.ev y = .v (.map none) := by exact rfl)
    (ht : te.get t = some ti := by exact rfl) (hk : ti.k = .map k e := by exact rfl) (hop : (op = .eql ∧ r = b) ∨ (op = .neq ∧ r = !b) := by first | exact .inl ⟨rfl, rfl⟩ | exact .inr ⟨rfl, rfl⟩)
    (hdd : o.dst = d := by conv => lhs; whnf) (hd : d.all (Nat.blt · n) = true := by exact rfl) : OpOk Try.prog n o s (s.put d (tf r)) :=
  .val hdd hd fun Λ w φ ac hs => by
    have hr := hs.ev x
    rw [hx] at hr
    obtain ⟨ad, e1, e2⟩ := rep_mnil hr ha
    have e3 := run_equal_mnil (a := ad) ((te_ok.tells ht).map hk) w
    refine ⟨.bool r, ?_, .v⟩
    rcases hop with ⟨rfl, rfl⟩ | ⟨rfl, rfl⟩ <;> simp [execOp, ho, e1, ev_v hs hy, eqGuard, binOp, e3, e2]
end
end Go.Proofs.Ytiojkmccnabmfaa.Fw


set_option linter.unusedVariables false
set_option linter.unusedSimpArgs false
namespace Go.Proofs.Ytiojkmccnabmfaa.Fw
open Go.RowKit
theorem noTr_ok : TrOk ⟨[], []⟩ := ⟨by simp, fun z hz => (List.not_mem_nil hz).elim, by simp, fun s hs => (List.not_mem_nil hs).elim⟩
theorem noTr_can : canT ⟨[], []⟩ = false := by rw [canT]; simp
def doC (c a : Int) (b : List UInt8) (m : Msg) (k : Int) (f : Bool) : List AV := [i64 c, i64 a, .fz 0 b.length (cl bc b)] ++ (msgC m ++ [i64 k, tf f])
set_option maxRecDepth 20000 in
set_option maxHeartbeats 2000000 in
theorem c_UFeed_nil (b : List UInt8) (c a : Int) : AC Try.prog 4 [.v (.pointer none), i64 c, i64 a, .fz 0 b.length (cl bc b)] emp (Ret (.tup [.fz 0 ([] : List UInt8).length (cl bc []), i64 2])) := by
 refine AC.intro te_ok (fn := Try.f4) ⟨Try.func4, rfl, rfl⟩ (Nat.le_of_ble_eq_true rfl) ?_
 refine AWp.seq ?_
 refine AWp.region ?_
 refine AOps.cons rfl rfl (q_box 100) ?_
 refine AOps.cons rfl rfl (q_nilz (0) bc) ?_
 refine AOps.cons rfl rfl (q_assign) ?_
 refine AOps.nil ?_
 refine AWp.seq ?_
 refine AWp.seq ?_
 refine AWp.region ?_
 refine AOps.cons rfl rfl (q_move) ?_
 refine AOps.cons rfl rfl (q_pnil) ?_
 refine AOps.cons rfl rfl (q_move) ?_
 refine AOps.gskip rfl rfl rfl rfl rfl rfl rfl rfl ?_
 refine AOps.gskip rfl rfl rfl rfl rfl rfl rfl rfl ?_
 refine AOps.gskip rfl rfl rfl rfl rfl rfl rfl rfl ?_
 refine AOps.gskip rfl rfl rfl rfl rfl rfl rfl rfl ?_
 refine AOps.gskip rfl rfl rfl rfl rfl rfl rfl rfl ?_
 refine AOps.cons rfl rfl (q_pick) ?_
 refine AOps.nil ?_
 refine AWp.cond_t rfl ?_
 refine AWp.seq ?_
 refine AWp.region ?_
 refine AOps.cons rfl rfl (q_nilz (0) bc) ?_
 refine AOps.cons rfl rfl (q_assign) ?_
 refine AOps.nil ?_
 refine AWp.ret ?_
 show Fin te Try.f4 _ _
 refine q_ret (0) [_, _] [_, _] ?_
 rfl
set_option maxRecDepth 20000 in
set_option maxHeartbeats 2000000 in
theorem c_UFeed_no (b : List UInt8) (c a : Int) : AC Try.prog 4 [.ptr 0 0 0, i64 c, i64 a, .fz 0 b.length (cl bc b)] (hlook [(0, .box [.v (.slice none 0 0), .v (.slice none 0 0), .v (.map none)])]) (RetH (.tup [.fz 0 ([] : List UInt8).length (cl bc []), i64 2]) [(0, .box [.v (.slice none 0 0), .v (.slice none 0 0), .v (.map none)])]) := by
 refine AC.intro te_ok (fn := Try.f4) ⟨Try.func4, rfl, rfl⟩ (Nat.le_of_ble_eq_true rfl) ?_
 refine AWp.seq ?_
 refine AWp.region ?_
 refine AOps.cons rfl rfl (q_box 100) ?_
 refine AOps.cons rfl rfl (q_nilz (0) bc) ?_
 refine AOps.cons rfl rfl (q_assign) ?_
 refine AOps.nil ?_
 refine AWp.seq ?_
 refine AWp.seq ?_
 refine AWp.region ?_
 refine AOps.cons rfl rfl (q_move) ?_
 refine AOps.cons rfl rfl (q_pnil) ?_
 refine AOps.cons rfl rfl (q_move) ?_
 refine AOps.gcons rfl rfl rfl rfl rfl (q_move) ?_
 refine AOps.gcons rfl rfl rfl rfl rfl (q_nil) ?_
 refine AOps.gcons rfl rfl rfl rfl rfl (q_fa) ?_
 refine AOps.gcons rfl rfl rfl rfl rfl (q_load) ?_
 refine AOps.gcons rfl rfl rfl rfl rfl ((OpOk.bool_is (c := true) (q_mnil) (rfl))) ?_
 refine AOps.cons rfl rfl (q_pick) ?_
 refine AOps.nil ?_
 refine AWp.cond_t rfl ?_
 refine AWp.seq ?_
 refine AWp.region ?_
 refine AOps.cons rfl rfl (q_nilz (0) bc) ?_
 refine AOps.cons rfl rfl (q_assign) ?_
 refine AOps.nil ?_
 refine AWp.ret ?_
 show Fin te Try.f4 _ _
 refine q_retH (0) [] [_, _] [_, _] [(0, .box [.v (.slice none 0 0), .v (.slice none 0 0), .v (.map none)])] ?_
 rfl
set_option maxRecDepth 20000 in
set_option maxHeartbeats 2000000 in
theorem c_UForget_nil (c : Int) : AC Try.prog 5 [.v (.pointer none), i64 c] emp (Ret (i64 2)) := by
 refine AC.intro te_ok (fn := Try.f5) ⟨Try.func5, rfl, rfl⟩ (Nat.le_of_ble_eq_true rfl) ?_
 refine AWp.seq ?_
 refine AWp.region ?_
 refine AOps.cons rfl rfl (q_assign) ?_
 refine AOps.nil ?_
 refine AWp.seq ?_
 refine AWp.block ?_
 refine AWp.seq ?_
 refine AWp.region ?_
 refine AOps.cons rfl rfl (q_move) ?_
 refine AOps.cons rfl rfl (q_pnil) ?_
 refine AOps.cons rfl rfl (q_move) ?_
 refine AOps.gskip rfl rfl rfl rfl rfl rfl rfl rfl ?_
 refine AOps.gskip rfl rfl rfl rfl rfl rfl rfl rfl ?_
 refine AOps.gskip rfl rfl rfl rfl rfl rfl rfl rfl ?_
 refine AOps.gskip rfl rfl rfl rfl rfl rfl rfl rfl ?_
 refine AOps.gskip rfl rfl rfl rfl rfl rfl rfl rfl ?_
 refine AOps.cons rfl rfl (q_pick) ?_
 refine AOps.cons rfl rfl (q_assign) ?_
 refine AOps.nil ?_
 refine AWp.cond_t rfl ?_
 refine AWp.seq ?_
 refine AWp.region ?_
 refine AOps.cons rfl rfl (q_assign) ?_
 refine AOps.nil ?_
 refine AWp.ret ?_
 show Fin te Try.f5 _ _
 refine q_ret (0) [_] [_] ?_
 rfl
set_option maxRecDepth 20000 in
set_option maxHeartbeats 2000000 in
theorem c_UForget_no (c : Int) : AC Try.prog 5 [.ptr 0 0 0, i64 c] (hlook [(0, .box [.v (.slice none 0 0), .v (.slice none 0 0), .v (.map none)])]) (RetH (i64 2) [(0, .box [.v (.slice none 0 0), .v (.slice none 0 0), .v (.map none)])]) := by
 refine AC.intro te_ok (fn := Try.f5) ⟨Try.func5, rfl, rfl⟩ (Nat.le_of_ble_eq_true rfl) ?_
 refine AWp.seq ?_
 refine AWp.region ?_
 refine AOps.cons rfl rfl (q_assign) ?_
 refine AOps.nil ?_
 refine AWp.seq ?_
 refine AWp.block ?_
 refine AWp.seq ?_
 refine AWp.region ?_
 refine AOps.cons rfl rfl (q_move) ?_
 refine AOps.cons rfl rfl (q_pnil) ?_
 refine AOps.cons rfl rfl (q_move) ?_
 refine AOps.gcons rfl rfl rfl rfl rfl (q_move) ?_
 refine AOps.gcons rfl rfl rfl rfl rfl (q_nil) ?_
 refine AOps.gcons rfl rfl rfl rfl rfl (q_fa) ?_
 refine AOps.gcons rfl rfl rfl rfl rfl (q_load) ?_
 refine AOps.gcons rfl rfl rfl rfl rfl ((OpOk.bool_is (c := true) (q_mnil) (rfl))) ?_
 refine AOps.cons rfl rfl (q_pick) ?_
 refine AOps.cons rfl rfl (q_assign) ?_
 refine AOps.nil ?_
 refine AWp.cond_t rfl ?_
 refine AWp.seq ?_
 refine AWp.region ?_
 refine AOps.cons rfl rfl (q_assign) ?_
 refine AOps.nil ?_
 refine AWp.ret ?_
 show Fin te Try.f5 _ _
 refine q_retH (0) [] [_] [_] [(0, .box [.v (.slice none 0 0), .v (.slice none 0 0), .v (.map none)])] ?_
 rfl
set_option maxRecDepth 20000 in
set_option maxHeartbeats 2000000 in
theorem c_UNew_no  : AC Try.prog 6 [.agg (trC (⟨[], []⟩ : Tr))] emp (Ret (.tup [.v (.pointer none), i64 1])) := by
 refine AC.intro te_ok (fn := Try.f6) ⟨Try.func6, rfl, rfl⟩ (Nat.le_of_ble_eq_true rfl) ?_
 refine AWp.seq ?_
 refine AWp.region ?_
 refine AOps.cons rfl rfl (q_box 100) ?_
 refine AOps.cons rfl rfl (q_assign) ?_
 refine AOps.cons rfl rfl (q_assign) ?_
 refine AOps.nil ?_
 refine AWp.seq ?_
 refine AWp.seq ?_
 refine AWp.region ?_
 refine AOps.cons rfl rfl (q_load) ?_
 refine AOps.cons rfl rfl ((OpOk.bool_is (c := false) (q_call (0) (hc := (c_zone_Can (⟨[], []⟩ : Tr) noTr_ok))) (noTr_can))) ?_
 refine AOps.cons rfl rfl (q_not) ?_
 refine AOps.nil ?_
 refine AWp.cond_t rfl ?_
 refine AWp.seq ?_
 refine AWp.region ?_
 refine AOps.cons rfl rfl (q_assign) ?_
 refine AOps.cons rfl rfl (q_assign) ?_
 refine AOps.nil ?_
 refine AWp.ret ?_
 show Fin te Try.f6 _ _
 refine q_ret (0) [_, _] [_, _] ?_
 rfl
set_option maxRecDepth 20000 in
set_option maxHeartbeats 2000000 in
theorem c_ciceronelaw22_UpstreamNobody (c a : Int) (b : List UInt8) (m : Msg) (k : Int) (f : Bool) : AC Try.prog 3 [.agg (doC c a b m k f)] emp (Ret (tf true)) := by
 refine AC.intro te_ok (fn := Try.f3) ⟨Try.func3, rfl, rfl⟩ (Nat.le_of_ble_eq_true rfl) ?_
 refine AWp.seq ?_
 refine AWp.region ?_
 refine AOps.cons rfl rfl (q_box 100) ?_
 refine AOps.cons rfl rfl (q_assign) ?_
 refine AOps.nil ?_
 refine AWp.seq ?_
 refine AWp.seq ?_
 refine AWp.region ?_
 refine AOps.cons rfl rfl (q_build []) ?_
 refine AOps.cons rfl rfl (q_box 201) ?_
 refine AOps.cons rfl rfl (q_bsr 202 [(_, _), (_, _)]) ?_
 refine AOps.cons rfl rfl (q_len) ?_
 refine AOps.cons rfl rfl (q_move) ?_
 refine AOps.nil ?_
 refine AWp.block ?_
 refine AWp.loopR (α := Nat) [2, 4, 5, 6, 13, 14, 15, 16, 17, 18, 19, 20, 21, 22, 23, 24, 25, 26, 27, 28, 29, 30, 31, 32, 33, 34, 35, 36, 37, 38, 39, 40, 41, 42] (fun i => [(13, i64 i)]) (fun i => [(201, .box [.v (.slice none 0 0), .v (.slice none 0 0), .v (.map none)])]) (fun i => i ≤ 2) (fun i => 2 - i) 0 ?_ (Back.mk' (HasT.cons HasT.nil) (HasH.cons HasH.nil)) ?_
 ·
  decide
 ·
  rintro i hi
  refine AWp.seq ?_
  refine AWp.region ?_
  refine AOps.dec rfl rfl (q_lss) (fun h2_0 => ?_) (fun h2_0 => ?_)
  ·
   refine AOps.nil ?_
   refine AWp.seq ?_
   refine AWp.cond_t rfl ?_
   refine AWp.skip ?_
   refine AWp.seq ?_
   refine AWp.block ?_
   refine AWp.seq ?_
   refine AWp.region ?_
   obtain rfl | rfl : i = 0 ∨ i = 1 := by omega
   ·
    refine AOps.cons rfl rfl (q_ix) ?_
    refine AOps.cons rfl rfl (q_load) ?_
    refine AOps.cons rfl rfl (q_assign) ?_
    refine AOps.nil ?_
    refine AWp.seq ?_
    refine AWp.region ?_
    refine AOps.cons rfl rfl (q_move) ?_
    refine AOps.cons rfl rfl (q_fa) ?_
    refine AOps.cons rfl rfl (q_load) ?_
    refine AOps.cons rfl rfl (q_fa) ?_
    refine AOps.cons rfl rfl (q_load) ?_
    refine AOps.cons rfl rfl (q_fa) ?_
    refine AOps.cons rfl rfl (q_load) ?_
    refine AOps.cons rfl rfl (q_call (0) (hc := c_UFeed_nil _ _ _)) ?_
    refine AOps.cons rfl rfl (q_move) ?_
    refine AOps.cons rfl rfl (q_extract) ?_
    refine AOps.cons rfl rfl (q_extract) ?_
    refine AOps.cons rfl rfl (q_assign) ?_
    refine AOps.cons rfl rfl (q_assign) ?_
    refine AOps.nil ?_
    refine AWp.seq ?_
    refine AWp.region ?_
    refine AOps.cons rfl rfl (q_move) ?_
    refine AOps.cons rfl rfl (q_len) ?_
    refine AOps.cons rfl rfl ((OpOk.dec_f (q_gtr) (by simp))) ?_
    refine AOps.cons rfl rfl (q_move) ?_
    refine AOps.gcons rfl rfl rfl rfl rfl (q_move) ?_
    refine AOps.gcons rfl rfl rfl rfl rfl ((OpOk.dec_f (q_neq) (fun k => k rfl))) ?_
    refine AOps.cons rfl rfl (q_pick) ?_
    refine AOps.cons rfl rfl (q_move) ?_
    refine AOps.gcons rfl rfl rfl rfl rfl (q_move) ?_
    refine AOps.gcons rfl rfl rfl rfl rfl (q_fa) ?_
    refine AOps.gcons rfl rfl rfl rfl rfl (q_load) ?_
    refine AOps.gcons rfl rfl rfl rfl rfl (q_call (0) (hc := c_UForget_nil _)) ?_
    refine AOps.gcons rfl rfl rfl rfl rfl ((OpOk.dec_f (q_neq) (fun k => k rfl))) ?_
    refine AOps.cons rfl rfl (q_pick) ?_
    refine AOps.nil ?_
    refine AWp.cond_f rfl ?_
    refine AWp.skip ?_
    refine AWp.region ?_
    refine AOps.cons rfl rfl (q_add) ?_
    refine AOps.cons rfl rfl (q_move) ?_
    refine AOps.nil ?_
    refine ⟨1, ?_, Back.mk' (HasT.cons HasT.nil) (HasH.cons HasH.nil), ?_⟩
    ·
     decide
    ·
     decide
   ·
    refine AOps.cons rfl rfl (q_ix) ?_
    refine AOps.cons rfl rfl (q_load) ?_
    refine AOps.cons rfl rfl (q_assign) ?_
    refine AOps.nil ?_
    refine AWp.seq ?_
    refine AWp.region ?_
    refine AOps.cons rfl rfl (q_move) ?_
    refine AOps.cons rfl rfl (q_fa) ?_
    refine AOps.cons rfl rfl (q_load) ?_
    refine AOps.cons rfl rfl (q_fa) ?_
    refine AOps.cons rfl rfl (q_load) ?_
    refine AOps.cons rfl rfl (q_fa) ?_
    refine AOps.cons rfl rfl (q_load) ?_
    refine AOps.cons rfl rfl (q_callB (0) [(0, 201)] [] [(_, _)] (hc := c_UFeed_no _ _ _)) ?_
    refine AOps.cons rfl rfl (q_move) ?_
    refine AOps.cons rfl rfl (q_extract) ?_
    refine AOps.cons rfl rfl (q_extract) ?_
    refine AOps.cons rfl rfl (q_assign) ?_
    refine AOps.cons rfl rfl (q_assign) ?_
    refine AOps.nil ?_
    refine AWp.seq ?_
    refine AWp.region ?_
    refine AOps.cons rfl rfl (q_move) ?_
    refine AOps.cons rfl rfl (q_len) ?_
    refine AOps.cons rfl rfl ((OpOk.dec_f (q_gtr) (by simp))) ?_
    refine AOps.cons rfl rfl (q_move) ?_
    refine AOps.gcons rfl rfl rfl rfl rfl (q_move) ?_
    refine AOps.gcons rfl rfl rfl rfl rfl ((OpOk.dec_f (q_neq) (fun k => k rfl))) ?_
    refine AOps.cons rfl rfl (q_pick) ?_
    refine AOps.cons rfl rfl (q_move) ?_
    refine AOps.gcons rfl rfl rfl rfl rfl (q_move) ?_
    refine AOps.gcons rfl rfl rfl rfl rfl (q_fa) ?_
    refine AOps.gcons rfl rfl rfl rfl rfl (q_load) ?_
    refine AOps.gcons rfl rfl rfl rfl rfl (q_callB (0) [(0, 201)] [] [(_, _)] (hc := c_UForget_no _)) ?_
    refine AOps.gcons rfl rfl rfl rfl rfl ((OpOk.dec_f (q_neq) (fun k => k rfl))) ?_
    refine AOps.cons rfl rfl (q_pick) ?_
    refine AOps.nil ?_
    refine AWp.cond_f rfl ?_
    refine AWp.skip ?_
    refine AWp.region ?_
    refine AOps.cons rfl rfl (q_add) ?_
    refine AOps.cons rfl rfl (q_move) ?_
    refine AOps.nil ?_
    refine ⟨2, ?_, Back.mk' (HasT.cons HasT.nil) (HasH.cons HasH.nil), ?_⟩
    ·
     decide
    ·
     decide
  ·
   refine AOps.nil ?_
   refine AWp.seq ?_
   refine AWp.cond_f rfl ?_
   refine AWp.exit ?_
   refine AWp.seq ?_
   refine AWp.region ?_
   refine AOps.cons rfl rfl (q_build []) ?_
   refine AOps.cons rfl rfl (q_call (0) (hA := by exact ⟨fv_agg ⟨fv_nilz, fv_nilz, trivial⟩, trivial⟩) (hc := c_UNew_no)) ?_
   refine AOps.cons rfl rfl (q_move) ?_
   refine AOps.cons rfl rfl (q_extract) ?_
   refine AOps.cons rfl rfl (q_extract) ?_
   refine AOps.cons rfl rfl (q_assign) ?_
   refine AOps.cons rfl rfl (q_assign) ?_
   refine AOps.nil ?_
   refine AWp.seq ?_
   refine AWp.region ?_
   refine AOps.cons rfl rfl (q_move) ?_
   refine AOps.cons rfl rfl (q_pnil) ?_
   refine AOps.cons rfl rfl (q_move) ?_
   refine AOps.gcons rfl rfl rfl rfl rfl (q_move) ?_
   refine AOps.gcons rfl rfl rfl rfl rfl ((OpOk.dec_t (q_eql) (rfl))) ?_
   refine AOps.cons rfl rfl (q_pick) ?_
   refine AOps.cons rfl rfl (q_assign) ?_
   refine AOps.nil ?_
   refine AWp.ret ?_
   show Fin te Try.f3 _ _
   refine q_ret (0) [_] [_] ?_
   rfl
end Go.Proofs.Ytiojkmccnabmfaa.Fw


set_option linter.unusedVariables false
set_option linter.unusedSimpArgs false
namespace Go.Proofs.Ytiojkmccnabmfaa.Fw
open Go.RowKit
section
variable {d : Nat} {s n b u : TypeId} {is in' ib iu : TI}
theorem has_do {tt t th tq tr r q y : TypeId} {itt it ith itq itr ir iq iy : TI} {cs : List AV} (h : Has te (d + 5) tt cs) (htt : te.get tt = some itt) (ktt : itt.k = .struct [(0, n), (1, n), (2, y), (3, t), (15, n), (16, b)]) (ht : te.get t = some it) (kt : it.k = .struct [(0, th), (8, tq), (9, tr), (10, tr), (11, tr)])
    (hth : te.get th = some ith) (kth : ith.k = .struct [(0, n), (1, b), (2, n), (3, b), (4, b), (5, b), (6, b), (7, n)]) (htq : te.get tq = some itq) (ktq : itq.k = .slice q) (hq : te.get q = some iq) (kq : iq.k = .struct [(0, s), (1, n), (2, n)]) (bq : iq.bytes = 32)
    (htr : te.get tr = some itr) (ktr : itr.k = .slice r) (hr : te.get r = some ir) (kr : ir.k = .struct [(0, s), (1, n), (2, n), (3, n), (4, y)]) (br : ir.bytes = 64)
    (hs : te.get s = some is) (ks : is.k = .str) (hn : te.get n = some in') (kn : in'.k = .int .i64) (hb : te.get b = some ib) (kb : ib.k = .bool) (hy : te.get y = some iy) (ky : iy.k = .slice u) (hu : te.get u = some iu) (ku : iu.k = .int .u8) (bu : iu.bytes = 1) :
    ∃ c a b m k f, cs = doC c a b m k f := by
  obtain ⟨_, w, rfl, q1, hh⟩ := has_struct h htt ktt
  obtain ⟨a1, rfl, _⟩ := has_int q1 hn kn
  obtain ⟨_, w, rfl, q1, hh⟩ := hh
  obtain ⟨a2, rfl, _⟩ := has_int q1 hn kn
  obtain ⟨_, w, rfl, q1, hh⟩ := hh
  obtain ⟨a3, rfl, _⟩ := has_bytes q1 hy ky hu ku bu
  obtain ⟨_, w, rfl, q1, hh⟩ := hh
  obtain ⟨a4, rfl, _⟩ := has_msgN q1 ht kt hth kth htq ktq hq kq bq htr ktr hr kr br hs ks hn kn hb kb hy ky hu ku bu
  obtain ⟨_, w, rfl, q1, hh⟩ := hh
  obtain ⟨a5, rfl, _⟩ := has_int q1 hn kn
  obtain ⟨_, w, rfl, q1, hh⟩ := hh
  obtain ⟨a6, rfl⟩ := has_bool q1 hb kb
  cases hh
  exact ⟨a1, a2, a3, a4, a5, a6, by simp [doC]⟩
end
end Go.Proofs.Ytiojkmccnabmfaa.Fw


