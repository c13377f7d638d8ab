/- The texts A24c, W18i, Z18, M18, W18j, Z18b, R18h, L18a, A24d, A24e, A24f, W24, L24t, L24u, one behind the other: what the walks and plain laws need; conditions stand with each theorem. -/
import Derived.Test.YtokccoloholgaaaCat5
set_option linter.unusedVariables false
set_option linter.unusedSimpArgs false
namespace Go.Proofs.Ytokccoloholgaaa.Fw
open Go.RowKit
inductive RunE where
  | f (l : List Rr)
  | o (id v n : Nat)
  deriving Inhabited
def rfa : RunE → AV
  | .f l => .fz 0 l.length (cl rrc l)
  | .o id v n => .sl id v 0 n 5
def rf (x : RunE) : List AV := [rfa x]
theorem rf_one : ∀ x, (rf x).all AV.one = true
  | .f _ => rfl
  | .o .. => rfl
def keyE (a b : Rr) : Bool := decide (a.ty = b.ty) && sameN a.nm b.nm
def rnA (p : List (List Rr) × List Rr) (r : Rr) : List (List Rr) × List Rr := match p.2 with
  | [] => (p.1, [r])
  | h :: t => if keyE h r then (p.1, h :: t ++ [r]) else (p.1 ++ [h :: t], [r])
theorem keyE_ne {a b : Rr} (h : ¬ a.ty = b.ty) : keyE a b = false := by rw [keyE, decide_eq_false h]; rfl
theorem keyE_no {a b : Rr} (h : sameN a.nm b.nm = false) : keyE a b = false := by rw [keyE, h, Bool.and_false]
theorem keyE_yes {a b : Rr} (h1 : a.ty = b.ty) (h : sameN a.nm b.nm = true) : keyE a b = true := by rw [keyE, h, decide_eq_true h1]; rfl
def rnF (l : List Rr) : List (List Rr) × List Rr := l.foldl rnA ([], [])
def rnD (p : List (List Rr) × List Rr) : List (List Rr) := match p.2 with
  | [] => p.1
  | h :: t => p.1 ++ [h :: t]
def rnO (l : List Rr) : Bool := l.all fun r => canN r.nm
def rnV (l : List Rr) : List (List Rr) := if rnO l then rnD (rnF l) else []
def rnX (D : List (List Rr)) (run : List Rr) (k v : Nat) : List RunE := match run with
  | [] => D.map .f
  | h :: t => D.map .f ++ [.o k v (h :: t).length]
theorem rnF_step {l : List Rr} {i : Nat} (h : i < l.length) : rnF (l.take (i + 1)) = rnA (rnF (l.take i)) (l.getD i default) := by rw [take_step' h, rnF, List.foldl_append]; rfl
theorem rnA_yes {D : List (List Rr)} {h r : Rr} {t : List Rr} (k : keyE h r = true) : rnA (D, h :: t) r = (D, h :: t ++ [r]) := by simp [rnA, k]
theorem rnA_no {D : List (List Rr)} {h r : Rr} {t : List Rr} (k : keyE h r = false) : rnA (D, h :: t) r = (D ++ [h :: t], [r]) := by simp [rnA, k]
theorem rnA_one (p : List (List Rr) × List Rr) (r : Rr) : (rnA p r).1.length + (rnA p r).2.length ≤ p.1.length + p.2.length + 1 ∧ (rnA p r).2 ≠ [] ∧ (∀ x ∈ (rnA p r).2, x ∈ p.2 ∨ x = r) := by
  obtain ⟨D, run⟩ := p
  cases run with
  | nil => simp [rnA]
  | cons a t =>
    cases hk : keyE a r with
    | true => rw [rnA_yes hk]; refine ⟨by simp; omega, by simp, fun x hx => ?_⟩; rcases List.mem_append.1 hx with hx | hx; exact .inl hx; exact .inr (List.mem_singleton.1 hx)
    | false => rw [rnA_no hk]; refine ⟨by simp only [List.length_append, List.length_cons, List.length_nil]; omega, by simp, fun x hx => .inr (List.mem_singleton.1 hx)⟩
theorem rnF_from : ∀ (l : List Rr) (p : List (List Rr) × List Rr), (l.foldl rnA p).1.length + (l.foldl rnA p).2.length ≤ p.1.length + p.2.length + l.length ∧ ((l.foldl rnA p).2 = [] → l = [] ∧ p.2 = []) ∧ (∀ x ∈ (l.foldl rnA p).2, x ∈ p.2 ∨ x ∈ l)
  | [], p => ⟨by simp, fun h => ⟨rfl, h⟩, fun x hx => .inl hx⟩
  | r :: l, p => by
    obtain ⟨h1, h2, h3⟩ := rnF_from l (rnA p r)
    obtain ⟨k1, k2, k3⟩ := rnA_one p r
    refine ⟨by simp only [List.foldl_cons, List.length_cons]; omega, fun h => absurd (h2 h).2 k2, fun x hx => ?_⟩
    rcases h3 x hx with hx | hx
    · rcases k3 x hx with hx | rfl
      · exact .inl hx
      · exact .inr List.mem_cons_self
    · exact .inr (List.mem_cons_of_mem _ hx)
theorem rnF_inv (l : List Rr) : (rnF l).1.length + (rnF l).2.length ≤ l.length ∧ ((rnF l).2 = [] → l = []) ∧ (∀ x ∈ (rnF l).2, x ∈ l) ∧ (l = [] → (rnF l).1 = []) := by
  obtain ⟨h1, h2, h3⟩ := rnF_from l ([], [])
  refine ⟨by simpa [rnF] using h1, fun h => (h2 h).1, fun x hx => ?_, fun h => by rw [h]; rfl⟩
  rcases h3 x hx with hx | hx
  · cases hx
  · exact hx
theorem rn_split {k : Nat} {run : List Rr} (h : k = 100 ∨ k = 802 ∧ run ≠ []) : (run = [] ∧ k = 100) ∨ (∃ r0 rs, run = r0 :: rs ∧ k = 100) ∨ (∃ r0 rs, run = r0 :: rs ∧ k = 802) := by
  cases run with
  | nil => rcases h with h | h; exact .inl ⟨rfl, h⟩; exact absurd rfl h.2
  | cons a t => rcases h with h | h; exact .inr (.inl ⟨a, t, rfl, h⟩); exact .inr (.inr ⟨a, t, rfl, h.1⟩)
theorem key3 (p : Prop) [Decidable p] (b : Bool) : ¬ p ∨ (p ∧ b = false) ∨ (p ∧ b = true) := by
  by_cases h : p
  · cases b <;> simp [h]
  · exact .inl h
theorem rnX_len {D : List (List Rr)} {r0 : Rr} {rs : List Rr} {k v : Nat} : (rnX D (r0 :: rs) k v).length = D.length + 1 := by simp [rnX]
theorem rnX_get {D : List (List Rr)} {r0 : Rr} {rs : List Rr} {k v : Nat} : (rnX D (r0 :: rs) k v).getD D.length default = .o k v (r0 :: rs).length := by
  rw [rnX, List.getD_eq_getElem?_getD, List.getElem?_append_right (by simp)]; simp
theorem rnX_set {D : List (List Rr)} {r0 : Rr} {rs : List Rr} {k v v2 m : Nat} : (rnX D (r0 :: rs) k v).set D.length (.o k v2 m) = D.map .f ++ [.o k v2 m] := by
  rw [rnX, List.set_append_right _ _ (by simp)]; simp
section
variable {ρ : Nat → Bool} {σ : IdMap} {h : Heap}
theorem lvs_app : ∀ {l1 m1 l2 m2 : List AV}, LVals ρ σ h 0 0 l1 m1 → LVals ρ σ h 0 0 l2 m2 → LVals ρ σ h 0 0 (l1 ++ l2) (m1 ++ m2)
  | [], [], _, _, _, h2 => h2
  | _ :: _, _ :: _, _, _, h1, h2 => ⟨h1.1, lvs_app h1.2 h2⟩
  | [], _ :: _, _, _, h1, _ => h1.elim
  | _ :: _, [], _, _, h1, _ => h1.elim
theorem lvs_f : ∀ {D : List (List Rr)}, LVals ρ σ h 0 0 (cl rf (D.map .f)) (cl rf (D.map .f))
  | [] => trivial
  | a :: D => ⟨lv_ok rfl, lvs_f⟩
theorem lvs_f2 : ∀ {D : List (List Rr)}, LVals ρ σ h 0 0 (cl rf (D.map .f)) (cl (lc 0 rrc) D)
  | [] => trivial
  | a :: D => ⟨lv_ok rfl, lvs_f2⟩
theorem run_keep {D : List (List Rr)} {k v n : Nat} (e : σ.get k = some k) (hρ : ρ k = false) : LVals ρ σ h 0 0 (cl rf (D.map .f ++ [.o k v n])) (cl rf (D.map .f ++ [.o k v n])) := by
  rw [cl_append]
  exact lvs_app lvs_f ⟨lv_sl e hρ, trivial⟩
theorem run_last {k v : Nat} {run : List Rr} (hk : h k = some (.row (cl rrc run) 5 v)) (e : σ.inv k = none) : LVal ρ σ h 0 0 (.sl k v 0 run.length 5) (.fz 0 run.length (cl rrc run)) :=
  lv_row0 e hk .row (fun _ => rfl) (by decide) (fun _ => rfl)
theorem run_new {D : List (List Rr)} {k v k2 m n : Nat} {run : List Rr} (hk : h k = some (.row (cl rrc run) 5 v)) (e : σ.inv k = none) (e2 : σ.get k2 = some k2) (hρ : ρ k2 = false) :
    LVals ρ σ h 0 0 (cl rf ((D.map .f ++ [.o k v run.length]) ++ [.o k2 m n])) (cl rf ((D ++ [run]).map .f ++ [.o k2 m n])) := by
  rw [List.map_append, cl_append, cl_append, cl_append, cl_append]
  exact lvs_app (lvs_app lvs_f ⟨run_last hk e, trivial⟩) ⟨lv_sl e2 hρ, trivial⟩
theorem run_end {D : List (List Rr)} {k v : Nat} {run : List Rr} (hk : h k = some (.row (cl rrc run) 5 v)) (e : σ.inv k = none) : LVals ρ σ h 0 0 (cl rf (D.map .f ++ [.o k v run.length])) (cl (lc 0 rrc) (D ++ [run])) := by
  rw [cl_append, cl_append]
  exact lvs_app lvs_f2 ⟨run_last hk e, trivial⟩
end
theorem rnO_step {l : List Rr} {i : Nat} (h : i < l.length) (h1 : rnO (l.take i) = true) (h2 : canN (l.getD i default).nm = true) : rnO (l.take (i + 1)) = true := all_step h h1 h2
theorem rnO_no {l : List Rr} {i : Nat} (h : i < l.length) (h2 : canN (l.getD i default).nm = false) : rnO l = false := all_no h h2
theorem rnV_no {l : List Rr} (h : rnO l = false) : rnV l = [] := by rw [rnV, h]; rfl
theorem rnV_yes {l : List Rr} (h : rnO l = true) : rnV l = rnD (rnF l) := by rw [rnV, h]; rfl
set_option maxRecDepth 20000 in
set_option maxHeartbeats 2000000 in
theorem c_audit_runs (l : List Rr) (hl : RrsOk l) (hn : ∀ x ∈ l, x.nm.length ≤ 140737488351232) : AC Try.prog 67 [.fz 0 l.length (cl rrc l)] emp (Ret (.tup [.fz 0 (rnV l).length (cl (lc 0 rrc) (rnV l)), tf (rnO l)])) := by
 have hb1 := hl.1
 refine AC.intro te_ok (fn := Try.f67) ⟨Try.func67, rfl, rfl⟩ (Nat.le_of_ble_eq_true rfl) ?_
 refine AWp.seq ?_
 refine AWp.region ?_
 refine AOps.cons rfl rfl (q_nilrow 100 5 rrc) ?_
 refine AOps.cons rfl rfl (q_assign) ?_
 refine AOps.nil ?_
 refine AWp.seq ?_
 refine AWp.region ?_
 refine AOps.cons rfl rfl (q_nilrow 200 1 rf) ?_
 refine AOps.nil ?_
 refine AWp.seq ?_
 refine AWp.seq ?_
 refine AWp.region ?_
 refine AOps.cons rfl rfl (q_move) ?_
 refine AOps.cons rfl rfl (q_len) ?_
 refine AOps.cons rfl rfl (q_move) ?_
 refine AOps.nil ?_
 refine AWp.block ?_
 refine AWp.loopI (α := Nat × List RunE × Nat × List (List Rr) × List Rr × Nat × Nat × Nat) (fun x_ => mkS [(8, .fz 0 l.length (cl rrc l)), (9, i64 l.length), (10, i64 (x_.1)), (4, .sl 200 (x_.2.2.2.2.2.2.1) 0 (x_.2.2.1) 1)] [(200, .row (cl rf (x_.2.1)) 1 (x_.2.2.2.2.2.2.1)), ((x_.2.2.2.2.2.1), .row (cl rrc (x_.2.2.2.2.1)) 5 (x_.2.2.2.2.2.2.2))]) (fun x_ => (x_.1) ≤ l.length ∧ ((x_.2.2.2.2.2.1) = 100 ∨ (x_.2.2.2.2.2.1) = 802 ∧ (x_.2.2.2.2.1) ≠ []) ∧ (x_.2.2.1) = (x_.2.1).length ∧ rnF (l.take (x_.1)) = ((x_.2.2.2.1), (x_.2.2.2.2.1)) ∧ (x_.2.1) = rnX (x_.2.2.2.1) (x_.2.2.2.2.1) (x_.2.2.2.2.2.1) (x_.2.2.2.2.2.2.2) ∧ rnO (l.take (x_.1)) = true) (fun x_ => l.length - (x_.1)) (0, [], 0, [], [], 100, 0, 0) ?_ (Weak.full (0) [] (hobj := ⟨rfl, ⟨_, rfl, rfl, rfl, trivial⟩, rfl, ⟨_, rfl, rfl, rfl, trivial⟩, trivial⟩)) ?_
 ·
  exact ⟨Nat.zero_le _, .inl rfl, rfl, rfl, rfl, rfl⟩
 ·
  rintro ⟨i, xs, n, D, run, k, v, vr⟩ hI3
  change i ≤ l.length ∧ (k = 100 ∨ k = 802 ∧ run ≠ []) ∧ n = xs.length ∧ rnF (l.take i) = (D, run) ∧ xs = rnX D run k vr ∧ rnO (l.take i) = true at hI3
  obtain ⟨hi, hk, hnx, hf, hxs, hO⟩ := hI3
  refine AWp.as (s' := mkS [(8, .fz 0 l.length (cl rrc l)), (9, i64 l.length), (10, i64 i), (4, .sl 200 v 0 n 1)] [(200, .row (cl rf xs) 1 v), (k, .row (cl rrc run) 5 vr)]) rfl ?_
  have hv := rnF_inv (l.take i)
  rw [hf] at hv
  obtain ⟨hsz, hnil, hmem, hD⟩ := hv
  dsimp only at hsz hnil hmem hD
  rw [List.length_take] at hsz
  refine AWp.seq ?_
  refine AWp.region ?_
  rcases rn_split hk with ⟨rfl, rfl⟩ | ⟨r0, rs, rfl, rfl⟩ | ⟨r0, rs, rfl, rfl⟩
  ·
   have hl0 := hnil rfl
   obtain rfl : D = [] := hD hl0
   obtain rfl : xs = [] := hxs
   obtain rfl : n = 0 := hnx
   refine AOps.dec rfl rfl (q_lss) (fun h3_0 => ?_) (fun h3_0 => ?_)
   ·
    refine AOps.nil ?_
    refine AWp.seq ?_
    refine AWp.cond_t rfl ?_
    refine AWp.skip ?_
    refine AWp.seq ?_
    refine AWp.block ?_
    refine AWp.seq ?_
    refine AWp.region ?_
    have hri := hn _ (getD_mem' (l := l) (i := i) (by omega))
    refine AOps.cons rfl rfl (q_ix) ?_
    refine AOps.cons rfl rfl (q_load) ?_
    refine AOps.cons rfl rfl (q_alloc 502) ?_
    refine AOps.cons rfl rfl (q_store) ?_
    refine AOps.nil ?_
    refine AWp.seq ?_
    refine AWp.region ?_
    refine AOps.cons rfl rfl (q_move) ?_
    refine AOps.cons rfl rfl (q_len) ?_
    refine AOps.cons rfl rfl (q_sub) ?_
    refine AOps.cons rfl rfl (q_assign) ?_
    refine AOps.nil ?_
    refine AWp.block ?_
    refine AWp.seq ?_
    refine AWp.region ?_
    refine AOps.cons rfl rfl (q_fa) ?_
    refine AOps.cons rfl rfl (q_load) ?_
    refine AOps.bool rfl rfl (q_call (0) (hc := (c_name_Can (l.getD i default).nm (by omega)))) (fun h7_2 => ?_) (fun h7_2 => ?_)
    ·
     refine AOps.cons rfl rfl (q_not) ?_
     refine AOps.cons rfl rfl (q_assign) ?_
     refine AOps.nil ?_
     refine AWp.cond_f rfl ?_
     refine AWp.seq ?_
     refine AWp.draws [⟨0, [7], [], some 28, _, none⟩,
         ⟨1, [28], [], some 29, _, none⟩,
         ⟨2, [29], [], some 30, _, none⟩,
         ⟨3, [30], [], some 31, .v undef, none⟩,
         ⟨4, [30], [], some 32, .v undef, none⟩,
         ⟨5, [30], [], some 33, .v undef, none⟩,
         ⟨6, [30], [], some 34, .v undef, none⟩,
         ⟨7, [30], [], some 35, .v undef, none⟩,
         ⟨8, [30], [], some 36, .v undef, none⟩,
         ⟨9, [30], [], some 37, .v undef, none⟩,
         ⟨10, [30], [], some 38, .v undef, none⟩,
         ⟨11, [30], [], some 39, .v undef, none⟩,
         ⟨12, [30], [], some 40, .v undef, none⟩,
         ⟨13, [30, 40], [], some 41, _, none⟩,
         ⟨14, [41], [], some 42, _, none⟩,
         ⟨15, [42], [], some 43, .v undef, none⟩,
         ⟨16, [42], [], some 44, .v undef, none⟩,
         ⟨17, [42], [], some 45, .v undef, none⟩,
         ⟨18, [42], [], some 46, .v undef, none⟩,
         ⟨19, [42], [], some 47, .v undef, none⟩,
         ⟨20, [42], [], some 48, .v undef, none⟩,
         ⟨21, [42], [], some 49, .v undef, none⟩,
         ⟨22, [42], [], some 50, .v undef, none⟩,
         ⟨23, [42], [], some 51, .v undef, none⟩,
         ⟨24, [42], [], some 52, .v undef, none⟩,
         ⟨25, [42, 52], [], some 53, _, none⟩,
         ⟨26, [53], [], some 27, _, none⟩]
      [⟨0, [7], [], some 28, .any, none⟩,
          ⟨1, [28], [], some 29, .any, none⟩,
          ⟨2, [29], [], some 30, .any, none⟩,
          ⟨3, [30], [], some 31, .any, none⟩,
          ⟨4, [30], [], some 32, .any, none⟩,
          ⟨5, [30], [], some 33, .any, none⟩,
          ⟨6, [30], [], some 34, .any, none⟩,
          ⟨7, [30], [], some 35, .any, none⟩,
          ⟨8, [30], [], some 36, .any, none⟩,
          ⟨9, [30], [], some 37, .any, none⟩,
          ⟨10, [30], [], some 38, .any, none⟩,
          ⟨11, [30], [], some 39, .any, none⟩,
          ⟨12, [30], [], some 40, .any, none⟩,
          ⟨13, [30, 40], [], some 41, .any, none⟩,
          ⟨14, [41], [], some 42, .any, none⟩,
          ⟨15, [42], [], some 43, .any, none⟩,
          ⟨16, [42], [], some 44, .any, none⟩,
          ⟨17, [42], [], some 45, .any, none⟩,
          ⟨18, [42], [], some 46, .any, none⟩,
          ⟨19, [42], [], some 47, .any, none⟩,
          ⟨20, [42], [], some 48, .any, none⟩,
          ⟨21, [42], [], some 49, .any, none⟩,
          ⟨22, [42], [], some 50, .any, none⟩,
          ⟨23, [42], [], some 51, .any, none⟩,
          ⟨24, [42], [], some 52, .any, none⟩,
          ⟨25, [42, 52], [], some 53, .any, none⟩,
          ⟨26, [53], [], some 27, .any, none⟩]
      mixed_ok rfl (by kernel_rfl) ⟨DS.ok_over fun s0 => OpAt.go rfl rfl (q_move),
          DS.ok_over fun s0 => OpAt.go rfl rfl ((OpOk.dec_f (q_geq) (by simp))),
          DS.ok_over fun s0 => OpAt.go rfl rfl (q_move),
          DS.ok_over fun s0 => OpAt.gskip rfl rfl rfl rfl rfl rfl rfl rfl,
          DS.ok_over fun s0 => OpAt.gskip rfl rfl rfl rfl rfl rfl rfl rfl,
          DS.ok_over fun s0 => OpAt.gskip rfl rfl rfl rfl rfl rfl rfl rfl,
          DS.ok_over fun s0 => OpAt.gskip rfl rfl rfl rfl rfl rfl rfl rfl,
          DS.ok_over fun s0 => OpAt.gskip rfl rfl rfl rfl rfl rfl rfl rfl,
          DS.ok_over fun s0 => OpAt.gskip rfl rfl rfl rfl rfl rfl rfl rfl,
          DS.ok_over fun s0 => OpAt.gskip rfl rfl rfl rfl rfl rfl rfl rfl,
          DS.ok_over fun s0 => OpAt.gskip rfl rfl rfl rfl rfl rfl rfl rfl,
          DS.ok_over fun s0 => OpAt.gskip rfl rfl rfl rfl rfl rfl rfl rfl,
          DS.ok_over fun s0 => OpAt.gskip rfl rfl rfl rfl rfl rfl rfl rfl,
          DS.ok_over fun s0 => OpAt.go rfl rfl (q_pick),
          DS.ok_over fun s0 => OpAt.go rfl rfl (q_move),
          DS.ok_over fun s0 => OpAt.gskip rfl rfl rfl rfl rfl rfl rfl rfl,
          DS.ok_over fun s0 => OpAt.gskip rfl rfl rfl rfl rfl rfl rfl rfl,
          DS.ok_over fun s0 => OpAt.gskip rfl rfl rfl rfl rfl rfl rfl rfl,
          DS.ok_over fun s0 => OpAt.gskip rfl rfl rfl rfl rfl rfl rfl rfl,
          DS.ok_over fun s0 => OpAt.gskip rfl rfl rfl rfl rfl rfl rfl rfl,
          DS.ok_over fun s0 => OpAt.gskip rfl rfl rfl rfl rfl rfl rfl rfl,
          DS.ok_over fun s0 => OpAt.gskip rfl rfl rfl rfl rfl rfl rfl rfl,
          DS.ok_over fun s0 => OpAt.gskip rfl rfl rfl rfl rfl rfl rfl rfl,
          DS.ok_over fun s0 => OpAt.gskip rfl rfl rfl rfl rfl rfl rfl rfl,
          DS.ok_over fun s0 => OpAt.gskip rfl rfl rfl rfl rfl rfl rfl rfl,
          DS.ok_over fun s0 => OpAt.go rfl rfl (q_pick),
          DS.ok_over fun s0 => OpAt.go rfl rfl (q_assign), trivial⟩ ?_
     dsimp only [final, DS.upd, AS.seto]
     refine AWp.cond_f rfl ?_
     refine AWp.region ?_
     refine AOps.cons rfl rfl (q_move) ?_
     refine AOps.cons rfl rfl (q_load) ?_
     refine AOps.cons rfl rfl (q_bs 802 rrc [(l.getD i default)] [(_, _)]) ?_
     refine AOps.cons rfl rfl (q_bs 803 rf [.o 802 0 1] [(_, _)]) ?_
     refine AOps.cons rfl rfl (q_appo 0 (l := ([] : List RunE)) (f := rf) (m := [.o 802 0 1]) (h1 := rf_one) (hb := by decide)) ?_
     refine AOps.cons rfl rfl (q_assign) ?_
     refine AOps.nil ?_
     refine AWp.region ?_
     refine AOps.cons rfl rfl (q_add) ?_
     refine AOps.cons rfl rfl (q_move) ?_
     refine AOps.nil ?_
     refine ⟨(i + 1, [.o 802 0 1], 1, [], [(l.getD i default)], 802, v + 1, 0), ?_, Weak.full (0) [] (hobj := ⟨rfl, ⟨_, rfl, rfl, rfl, run_keep (D := []) rfl rfl⟩, rfl, ⟨_, rfl, lobj_row (fun _ => rfl)⟩, trivial⟩), ?_⟩
     ·
      try dsimp only
      exact ⟨by omega, .inr ⟨rfl, by simp⟩, rfl, by rw [rnF_step (by omega), hf]; rfl, rfl, rnO_step (by omega) hO h7_2⟩
     ·
      try dsimp only
      first | omega | (simp; omega)
    ·
     refine AOps.cons rfl rfl (q_not) ?_
     refine AOps.cons rfl rfl (q_assign) ?_
     refine AOps.nil ?_
     refine AWp.cond_t rfl ?_
     refine AWp.seq ?_
     refine AWp.region ?_
     refine AOps.cons rfl rfl (q_nilz (0) (lc 0 rrc)) ?_
     refine AOps.cons rfl rfl (q_assign) ?_
     refine AOps.nil ?_
     refine AWp.ret ?_
     show Fin te Try.f67 _ _
     refine q_ret (0) [_, _] [_, _] ?_
     have ho : rnO l = false := rnO_no (i := i) (by omega) h7_2
     rw [rnV_no ho, ho]; rfl
   ·
    refine AOps.nil ?_
    refine AWp.seq ?_
    refine AWp.cond_f rfl ?_
    refine AWp.exit ?_
    refine AWp.seq ?_
    refine AWp.region ?_
    obtain rfl : i = l.length := by omega
    rw [List.take_length] at hl0
    subst hl0
    refine AOps.weak (Weak.full 0 [] (t := [(4, .sl 200 v 0 ([] : List (List Rr)).length 1)]) (hl := [(200, .row (cl (lc 0 rrc) []) 1 v)]) (hobj := ⟨rfl, ⟨_, rfl, rfl, rfl, trivial⟩, trivial⟩)) ?_
    refine AOps.cons rfl rfl (q_move) ?_
    refine AOps.cons rfl rfl (q_assign) ?_
    refine AOps.cons rfl rfl (q_assign) ?_
    refine AOps.nil ?_
    refine AWp.ret ?_
    show Fin te Try.f67 _ _
    refine q_ret (0) [_, _] [_, _] ?_
    rfl
  ·
   have hxl : xs.length = D.length + 1 := by rw [hxs]; exact rnX_len
   have hld : mkAV false (rf (xs.getD ((n : Int) - 1).toNat default)) = .sl 100 vr 0 (r0 :: rs).length 5 := by rw [show ((n : Int) - 1).toNat = D.length by omega, hxs, rnX_get]; rfl
   have hr0 : r0.nm.length ≤ 140737488351232 := hn _ (List.mem_of_mem_take (hmem r0 (by simp)))
   refine AOps.dec rfl rfl (q_lss) (fun h3_0 => ?_) (fun h3_0 => ?_)
   ·
    refine AOps.nil ?_
    refine AWp.seq ?_
    refine AWp.cond_t rfl ?_
    refine AWp.skip ?_
    refine AWp.seq ?_
    refine AWp.block ?_
    refine AWp.seq ?_
    refine AWp.region ?_
    have hri := hn _ (getD_mem' (l := l) (i := i) (by omega))
    refine AOps.cons rfl rfl (q_ix) ?_
    refine AOps.cons rfl rfl (q_load) ?_
    refine AOps.cons rfl rfl (q_alloc 502) ?_
    refine AOps.cons rfl rfl (q_store) ?_
    refine AOps.nil ?_
    refine AWp.seq ?_
    refine AWp.region ?_
    refine AOps.cons rfl rfl (q_move) ?_
    refine AOps.cons rfl rfl (q_len) ?_
    refine AOps.cons rfl rfl (q_sub) ?_
    refine AOps.cons rfl rfl (q_assign) ?_
    refine AOps.nil ?_
    refine AWp.block ?_
    refine AWp.seq ?_
    refine AWp.region ?_
    refine AOps.cons rfl rfl (q_fa) ?_
    refine AOps.cons rfl rfl (q_load) ?_
    refine AOps.bool rfl rfl (q_call (0) (hc := (c_name_Can (l.getD i default).nm (by omega)))) (fun h7_2 => ?_) (fun h7_2 => ?_)
    ·
     refine AOps.cons rfl rfl (q_not) ?_
     refine AOps.cons rfl rfl (q_assign) ?_
     refine AOps.nil ?_
     refine AWp.cond_f rfl ?_
     refine AWp.seq ?_
     rcases key3 (r0.ty = (l.getD i default).ty) (sameN r0.nm (l.getD i default).nm) with h1 | ⟨h1, h2⟩ | ⟨h1, h2⟩
     ·
      refine AWp.draws [⟨0, [7], [], some 28, _, none⟩,
          ⟨1, [28], [], some 29, _, none⟩,
          ⟨2, [29], [], some 30, _, none⟩,
          ⟨3, [4, 30], [], some 31, _, none⟩,
          ⟨4, [7, 30], [], some 32, _, none⟩,
          ⟨5, [30, 31, 32], [200], some 33, _, none⟩,
          ⟨6, [30, 33], [200], some 34, _, none⟩,
          ⟨7, [30, 34], [100], some 35, _, none⟩,
          ⟨8, [30, 35], [100], some 36, _, none⟩,
          ⟨9, [30, 36], [100], some 37, _, none⟩,
          ⟨10, [6, 30], [502], some 38, _, none⟩,
          ⟨11, [30, 38], [502], some 39, _, none⟩,
          ⟨12, [30, 37, 39], [], some 40, _, none⟩,
          ⟨13, [30, 40], [], some 41, _, none⟩,
          ⟨14, [41], [], some 42, _, none⟩,
          ⟨15, [42], [], some 43, .v undef, none⟩,
          ⟨16, [42], [], some 44, .v undef, none⟩,
          ⟨17, [42], [], some 45, .v undef, none⟩,
          ⟨18, [42], [], some 46, .v undef, none⟩,
          ⟨19, [42], [], some 47, .v undef, none⟩,
          ⟨20, [42], [], some 48, .v undef, none⟩,
          ⟨21, [42], [], some 49, .v undef, none⟩,
          ⟨22, [42], [], some 50, .v undef, none⟩,
          ⟨23, [42], [], some 51, .v undef, none⟩,
          ⟨24, [42], [], some 52, .v undef, none⟩,
          ⟨25, [42, 52], [], some 53, _, none⟩,
          ⟨26, [53], [], some 27, _, none⟩]
       [⟨0, [7], [], some 28, .any, none⟩,
           ⟨1, [28], [], some 29, .any, none⟩,
           ⟨2, [29], [], some 30, .any, none⟩,
           ⟨3, [4, 30], [], some 31, .any, none⟩,
           ⟨4, [7, 30], [], some 32, .any, none⟩,
           ⟨5, [30, 31, 32], [200], some 33, .any, none⟩,
           ⟨6, [30, 33], [200], some 34, .any, none⟩,
           ⟨7, [30, 34], [100], some 35, .any, none⟩,
           ⟨8, [30, 35], [100], some 36, .any, none⟩,
           ⟨9, [30, 36], [100], some 37, .any, none⟩,
           ⟨10, [6, 30], [502], some 38, .any, none⟩,
           ⟨11, [30, 38], [502], some 39, .any, none⟩,
           ⟨12, [30, 37, 39], [], some 40, .any, none⟩,
           ⟨13, [30, 40], [], some 41, .any, none⟩,
           ⟨14, [41], [], some 42, .any, none⟩,
           ⟨15, [42], [], some 43, .any, none⟩,
           ⟨16, [42], [], some 44, .any, none⟩,
           ⟨17, [42], [], some 45, .any, none⟩,
           ⟨18, [42], [], some 46, .any, none⟩,
           ⟨19, [42], [], some 47, .any, none⟩,
           ⟨20, [42], [], some 48, .any, none⟩,
           ⟨21, [42], [], some 49, .any, none⟩,
           ⟨22, [42], [], some 50, .any, none⟩,
           ⟨23, [42], [], some 51, .any, none⟩,
           ⟨24, [42], [], some 52, .any, none⟩,
           ⟨25, [42, 52], [], some 53, .any, none⟩,
           ⟨26, [53], [], some 27, .any, none⟩]
       mixed_ok rfl (by kernel_rfl) ⟨DS.ok_over fun s0 => OpAt.go rfl rfl (q_move),
           DS.ok_over fun s0 => OpAt.go rfl rfl ((OpOk.dec_t (q_geq) (by omega))),
           DS.ok_over fun s0 => OpAt.go rfl rfl (q_move),
           DS.ok_over fun s0 => OpAt.ggo rfl rfl rfl rfl rfl (q_move),
           DS.ok_over fun s0 => OpAt.ggo rfl rfl rfl rfl rfl (q_move),
           DS.ok_over fun s0 => OpAt.ggo rfl rfl rfl rfl rfl (q_ix),
           DS.ok_over fun s0 => OpAt.ggo rfl rfl rfl rfl rfl (q_load (z := .sl 100 vr 0 (r0 :: rs).length 5) (hz := by exact .el (f := rf) (l := xs) rfl .row (fun _ => rfl) (by omega)) (hy := by exact hld)),
           DS.ok_over fun s0 => OpAt.ggo rfl rfl rfl rfl rfl (q_ix (h1 := by simp <;> omega)),
           DS.ok_over fun s0 => OpAt.ggo rfl rfl rfl rfl rfl (q_fa),
           DS.ok_over fun s0 => OpAt.ggo rfl rfl rfl rfl rfl (q_load),
           DS.ok_over fun s0 => OpAt.ggo rfl rfl rfl rfl rfl (q_fa),
           DS.ok_over fun s0 => OpAt.ggo rfl rfl rfl rfl rfl (q_load),
           DS.ok_over fun s0 => OpAt.ggo rfl rfl rfl rfl rfl ((OpOk.dec_f (q_eql) (h1))),
           DS.ok_over fun s0 => OpAt.go rfl rfl (q_pick),
           DS.ok_over fun s0 => OpAt.go rfl rfl (q_move),
           DS.ok_over fun s0 => OpAt.gskip rfl rfl rfl rfl rfl rfl rfl rfl,
           DS.ok_over fun s0 => OpAt.gskip rfl rfl rfl rfl rfl rfl rfl rfl,
           DS.ok_over fun s0 => OpAt.gskip rfl rfl rfl rfl rfl rfl rfl rfl,
           DS.ok_over fun s0 => OpAt.gskip rfl rfl rfl rfl rfl rfl rfl rfl,
           DS.ok_over fun s0 => OpAt.gskip rfl rfl rfl rfl rfl rfl rfl rfl,
           DS.ok_over fun s0 => OpAt.gskip rfl rfl rfl rfl rfl rfl rfl rfl,
           DS.ok_over fun s0 => OpAt.gskip rfl rfl rfl rfl rfl rfl rfl rfl,
           DS.ok_over fun s0 => OpAt.gskip rfl rfl rfl rfl rfl rfl rfl rfl,
           DS.ok_over fun s0 => OpAt.gskip rfl rfl rfl rfl rfl rfl rfl rfl,
           DS.ok_over fun s0 => OpAt.gskip rfl rfl rfl rfl rfl rfl rfl rfl,
           DS.ok_over fun s0 => OpAt.go rfl rfl (q_pick),
           DS.ok_over fun s0 => OpAt.go rfl rfl (q_assign), trivial⟩ ?_
      dsimp only [final, DS.upd, AS.seto]
      refine AWp.cond_f rfl ?_
      refine AWp.region ?_
      refine AOps.cons rfl rfl (q_move) ?_
      refine AOps.cons rfl rfl (q_load) ?_
      refine AOps.cons rfl rfl (q_bs 802 rrc [(l.getD i default)] [(_, _)]) ?_
      refine AOps.cons rfl rfl (q_bs 803 rf [.o 802 0 1] [(_, _)]) ?_
      refine AOps.cons rfl rfl (q_appo 0 (l := xs) (f := rf) (m := [.o 802 0 1]) (h1 := rf_one) (hb := by simp; omega)) ?_
      refine AOps.cons rfl rfl (q_assign) ?_
      refine AOps.nil ?_
      refine AWp.region ?_
      refine AOps.cons rfl rfl (q_add) ?_
      refine AOps.cons rfl rfl (q_move) ?_
      refine AOps.nil ?_
      refine ⟨(i + 1, (D ++ [r0 :: rs]).map .f ++ [.o 802 0 1], (xs.drop 0 ++ [RunE.o 802 0 1]).length, D ++ [r0 :: rs], [(l.getD i default)], 802, v + 1, 0), ?_, Weak.full (0) [] (hobj := ⟨rfl, ⟨_, rfl, rfl, rfl, by rw [show xs.drop 0 = D.map .f ++ [.o 100 vr (r0 :: rs).length] from hxs]; exact run_new rfl rfl rfl rfl⟩, rfl, ⟨_, rfl, lobj_row (fun _ => rfl)⟩, trivial⟩), ?_⟩
      ·
       try dsimp only
       exact ⟨by omega, .inr ⟨rfl, by simp⟩, by simp; omega, by rw [rnF_step (by omega), hf]; exact rnA_no (keyE_ne h1), rfl, rnO_step (by omega) hO h7_2⟩
      ·
       try dsimp only
       first | omega | (simp; omega)
     ·
      refine AWp.draws [⟨0, [7], [], some 28, _, none⟩,
          ⟨1, [28], [], some 29, _, none⟩,
          ⟨2, [29], [], some 30, _, none⟩,
          ⟨3, [4, 30], [], some 31, _, none⟩,
          ⟨4, [7, 30], [], some 32, _, none⟩,
          ⟨5, [30, 31, 32], [200], some 33, _, none⟩,
          ⟨6, [30, 33], [200], some 34, _, none⟩,
          ⟨7, [30, 34], [100], some 35, _, none⟩,
          ⟨8, [30, 35], [100], some 36, _, none⟩,
          ⟨9, [30, 36], [100], some 37, _, none⟩,
          ⟨10, [6, 30], [502], some 38, _, none⟩,
          ⟨11, [30, 38], [502], some 39, _, none⟩,
          ⟨12, [30, 37, 39], [], some 40, _, none⟩,
          ⟨13, [30, 40], [], some 41, _, none⟩,
          ⟨14, [41], [], some 42, _, none⟩,
          ⟨15, [4, 42], [], some 43, _, none⟩,
          ⟨16, [7, 42], [], some 44, _, none⟩,
          ⟨17, [42, 43, 44], [200], some 45, _, none⟩,
          ⟨18, [42, 45], [200], some 46, _, none⟩,
          ⟨19, [42, 46], [100], some 47, _, none⟩,
          ⟨20, [42, 47], [100], some 48, _, none⟩,
          ⟨21, [42, 48], [100], some 49, _, none⟩,
          ⟨22, [6, 42], [502], some 50, _, none⟩,
          ⟨23, [42, 50], [502], some 51, _, none⟩,
          ⟨24, [42, 49, 51], [], some 52, _, none⟩,
          ⟨25, [42, 52], [], some 53, _, none⟩,
          ⟨26, [53], [], some 27, _, none⟩]
       [⟨0, [7], [], some 28, .any, none⟩,
           ⟨1, [28], [], some 29, .any, none⟩,
           ⟨2, [29], [], some 30, .any, none⟩,
           ⟨3, [4, 30], [], some 31, .any, none⟩,
           ⟨4, [7, 30], [], some 32, .any, none⟩,
           ⟨5, [30, 31, 32], [200], some 33, .any, none⟩,
           ⟨6, [30, 33], [200], some 34, .any, none⟩,
           ⟨7, [30, 34], [100], some 35, .any, none⟩,
           ⟨8, [30, 35], [100], some 36, .any, none⟩,
           ⟨9, [30, 36], [100], some 37, .any, none⟩,
           ⟨10, [6, 30], [502], some 38, .any, none⟩,
           ⟨11, [30, 38], [502], some 39, .any, none⟩,
           ⟨12, [30, 37, 39], [], some 40, .any, none⟩,
           ⟨13, [30, 40], [], some 41, .any, none⟩,
           ⟨14, [41], [], some 42, .any, none⟩,
           ⟨15, [4, 42], [], some 43, .any, none⟩,
           ⟨16, [7, 42], [], some 44, .any, none⟩,
           ⟨17, [42, 43, 44], [200], some 45, .any, none⟩,
           ⟨18, [42, 45], [200], some 46, .any, none⟩,
           ⟨19, [42, 46], [100], some 47, .any, none⟩,
           ⟨20, [42, 47], [100], some 48, .any, none⟩,
           ⟨21, [42, 48], [100], some 49, .any, none⟩,
           ⟨22, [6, 42], [502], some 50, .any, none⟩,
           ⟨23, [42, 50], [502], some 51, .any, none⟩,
           ⟨24, [42, 49, 51], [], some 52, .any, none⟩,
           ⟨25, [42, 52], [], some 53, .any, none⟩,
           ⟨26, [53], [], some 27, .any, none⟩]
       mixed_ok rfl (by kernel_rfl) ⟨DS.ok_over fun s0 => OpAt.go rfl rfl (q_move),
           DS.ok_over fun s0 => OpAt.go rfl rfl ((OpOk.dec_t (q_geq) (by omega))),
           DS.ok_over fun s0 => OpAt.go rfl rfl (q_move),
           DS.ok_over fun s0 => OpAt.ggo rfl rfl rfl rfl rfl (q_move),
           DS.ok_over fun s0 => OpAt.ggo rfl rfl rfl rfl rfl (q_move),
           DS.ok_over fun s0 => OpAt.ggo rfl rfl rfl rfl rfl (q_ix),
           DS.ok_over fun s0 => OpAt.ggo rfl rfl rfl rfl rfl (q_load (z := .sl 100 vr 0 (r0 :: rs).length 5) (hz := by exact .el (f := rf) (l := xs) rfl .row (fun _ => rfl) (by omega)) (hy := by exact hld)),
           DS.ok_over fun s0 => OpAt.ggo rfl rfl rfl rfl rfl (q_ix (h1 := by simp <;> omega)),
           DS.ok_over fun s0 => OpAt.ggo rfl rfl rfl rfl rfl (q_fa),
           DS.ok_over fun s0 => OpAt.ggo rfl rfl rfl rfl rfl (q_load),
           DS.ok_over fun s0 => OpAt.ggo rfl rfl rfl rfl rfl (q_fa),
           DS.ok_over fun s0 => OpAt.ggo rfl rfl rfl rfl rfl (q_load),
           DS.ok_over fun s0 => OpAt.ggo rfl rfl rfl rfl rfl ((OpOk.dec_t (q_eql) (h1))),
           DS.ok_over fun s0 => OpAt.go rfl rfl (q_pick),
           DS.ok_over fun s0 => OpAt.go rfl rfl (q_move),
           DS.ok_over fun s0 => OpAt.ggo rfl rfl rfl rfl rfl (q_move),
           DS.ok_over fun s0 => OpAt.ggo rfl rfl rfl rfl rfl (q_move),
           DS.ok_over fun s0 => OpAt.ggo rfl rfl rfl rfl rfl (q_ix),
           DS.ok_over fun s0 => OpAt.ggo rfl rfl rfl rfl rfl (q_load (z := .sl 100 vr 0 (r0 :: rs).length 5) (hz := by exact .el (f := rf) (l := xs) rfl .row (fun _ => rfl) (by omega)) (hy := by exact hld)),
           DS.ok_over fun s0 => OpAt.ggo rfl rfl rfl rfl rfl (q_ix (h1 := by simp <;> omega)),
           DS.ok_over fun s0 => OpAt.ggo rfl rfl rfl rfl rfl (q_fa),
           DS.ok_over fun s0 => OpAt.ggo rfl rfl rfl rfl rfl (q_load),
           DS.ok_over fun s0 => OpAt.ggo rfl rfl rfl rfl rfl (q_fa),
           DS.ok_over fun s0 => OpAt.ggo rfl rfl rfl rfl rfl (q_load),
           DS.ok_over fun s0 => OpAt.ggo rfl rfl rfl rfl rfl ((OpOk.bool_is (c := false) (q_call (0) (hc := (c_name_Same r0.nm (l.getD i default).nm (by omega) (by omega)))) (h2))),
           DS.ok_over fun s0 => OpAt.go rfl rfl (q_pick),
           DS.ok_over fun s0 => OpAt.go rfl rfl (q_assign), trivial⟩ ?_
      dsimp only [final, DS.upd, AS.seto]
      refine AWp.cond_f rfl ?_
      refine AWp.region ?_
      refine AOps.cons rfl rfl (q_move) ?_
      refine AOps.cons rfl rfl (q_load) ?_
      refine AOps.cons rfl rfl (q_bs 802 rrc [(l.getD i default)] [(_, _)]) ?_
      refine AOps.cons rfl rfl (q_bs 803 rf [.o 802 0 1] [(_, _)]) ?_
      refine AOps.cons rfl rfl (q_appo 0 (l := xs) (f := rf) (m := [.o 802 0 1]) (h1 := rf_one) (hb := by simp; omega)) ?_
      refine AOps.cons rfl rfl (q_assign) ?_
      refine AOps.nil ?_
      refine AWp.region ?_
      refine AOps.cons rfl rfl (q_add) ?_
      refine AOps.cons rfl rfl (q_move) ?_
      refine AOps.nil ?_
      refine ⟨(i + 1, (D ++ [r0 :: rs]).map .f ++ [.o 802 0 1], (xs.drop 0 ++ [RunE.o 802 0 1]).length, D ++ [r0 :: rs], [(l.getD i default)], 802, v + 1, 0), ?_, Weak.full (0) [] (hobj := ⟨rfl, ⟨_, rfl, rfl, rfl, by rw [show xs.drop 0 = D.map .f ++ [.o 100 vr (r0 :: rs).length] from hxs]; exact run_new rfl rfl rfl rfl⟩, rfl, ⟨_, rfl, lobj_row (fun _ => rfl)⟩, trivial⟩), ?_⟩
      ·
       try dsimp only
       exact ⟨by omega, .inr ⟨rfl, by simp⟩, by simp; omega, by rw [rnF_step (by omega), hf]; exact rnA_no (keyE_no h2), rfl, rnO_step (by omega) hO h7_2⟩
      ·
       try dsimp only
       first | omega | (simp; omega)
     ·
      refine AWp.draws [⟨0, [7], [], some 28, _, none⟩,
          ⟨1, [28], [], some 29, _, none⟩,
          ⟨2, [29], [], some 30, _, none⟩,
          ⟨3, [4, 30], [], some 31, _, none⟩,
          ⟨4, [7, 30], [], some 32, _, none⟩,
          ⟨5, [30, 31, 32], [200], some 33, _, none⟩,
          ⟨6, [30, 33], [200], some 34, _, none⟩,
          ⟨7, [30, 34], [100], some 35, _, none⟩,
          ⟨8, [30, 35], [100], some 36, _, none⟩,
          ⟨9, [30, 36], [100], some 37, _, none⟩,
          ⟨10, [6, 30], [502], some 38, _, none⟩,
          ⟨11, [30, 38], [502], some 39, _, none⟩,
          ⟨12, [30, 37, 39], [], some 40, _, none⟩,
          ⟨13, [30, 40], [], some 41, _, none⟩,
          ⟨14, [41], [], some 42, _, none⟩,
          ⟨15, [4, 42], [], some 43, _, none⟩,
          ⟨16, [7, 42], [], some 44, _, none⟩,
          ⟨17, [42, 43, 44], [200], some 45, _, none⟩,
          ⟨18, [42, 45], [200], some 46, _, none⟩,
          ⟨19, [42, 46], [100], some 47, _, none⟩,
          ⟨20, [42, 47], [100], some 48, _, none⟩,
          ⟨21, [42, 48], [100], some 49, _, none⟩,
          ⟨22, [6, 42], [502], some 50, _, none⟩,
          ⟨23, [42, 50], [502], some 51, _, none⟩,
          ⟨24, [42, 49, 51], [], some 52, _, none⟩,
          ⟨25, [42, 52], [], some 53, _, none⟩,
          ⟨26, [53], [], some 27, _, none⟩]
       [⟨0, [7], [], some 28, .any, none⟩,
           ⟨1, [28], [], some 29, .any, none⟩,
           ⟨2, [29], [], some 30, .any, none⟩,
           ⟨3, [4, 30], [], some 31, .any, none⟩,
           ⟨4, [7, 30], [], some 32, .any, none⟩,
           ⟨5, [30, 31, 32], [200], some 33, .any, none⟩,
           ⟨6, [30, 33], [200], some 34, .any, none⟩,
           ⟨7, [30, 34], [100], some 35, .any, none⟩,
           ⟨8, [30, 35], [100], some 36, .any, none⟩,
           ⟨9, [30, 36], [100], some 37, .any, none⟩,
           ⟨10, [6, 30], [502], some 38, .any, none⟩,
           ⟨11, [30, 38], [502], some 39, .any, none⟩,
           ⟨12, [30, 37, 39], [], some 40, .any, none⟩,
           ⟨13, [30, 40], [], some 41, .any, none⟩,
           ⟨14, [41], [], some 42, .any, none⟩,
           ⟨15, [4, 42], [], some 43, .any, none⟩,
           ⟨16, [7, 42], [], some 44, .any, none⟩,
           ⟨17, [42, 43, 44], [200], some 45, .any, none⟩,
           ⟨18, [42, 45], [200], some 46, .any, none⟩,
           ⟨19, [42, 46], [100], some 47, .any, none⟩,
           ⟨20, [42, 47], [100], some 48, .any, none⟩,
           ⟨21, [42, 48], [100], some 49, .any, none⟩,
           ⟨22, [6, 42], [502], some 50, .any, none⟩,
           ⟨23, [42, 50], [502], some 51, .any, none⟩,
           ⟨24, [42, 49, 51], [], some 52, .any, none⟩,
           ⟨25, [42, 52], [], some 53, .any, none⟩,
           ⟨26, [53], [], some 27, .any, none⟩]
       mixed_ok rfl (by kernel_rfl) ⟨DS.ok_over fun s0 => OpAt.go rfl rfl (q_move),
           DS.ok_over fun s0 => OpAt.go rfl rfl ((OpOk.dec_t (q_geq) (by omega))),
           DS.ok_over fun s0 => OpAt.go rfl rfl (q_move),
           DS.ok_over fun s0 => OpAt.ggo rfl rfl rfl rfl rfl (q_move),
           DS.ok_over fun s0 => OpAt.ggo rfl rfl rfl rfl rfl (q_move),
           DS.ok_over fun s0 => OpAt.ggo rfl rfl rfl rfl rfl (q_ix),
           DS.ok_over fun s0 => OpAt.ggo rfl rfl rfl rfl rfl (q_load (z := .sl 100 vr 0 (r0 :: rs).length 5) (hz := by exact .el (f := rf) (l := xs) rfl .row (fun _ => rfl) (by omega)) (hy := by exact hld)),
           DS.ok_over fun s0 => OpAt.ggo rfl rfl rfl rfl rfl (q_ix (h1 := by simp <;> omega)),
           DS.ok_over fun s0 => OpAt.ggo rfl rfl rfl rfl rfl (q_fa),
           DS.ok_over fun s0 => OpAt.ggo rfl rfl rfl rfl rfl (q_load),
           DS.ok_over fun s0 => OpAt.ggo rfl rfl rfl rfl rfl (q_fa),
           DS.ok_over fun s0 => OpAt.ggo rfl rfl rfl rfl rfl (q_load),
           DS.ok_over fun s0 => OpAt.ggo rfl rfl rfl rfl rfl ((OpOk.dec_t (q_eql) (h1))),
           DS.ok_over fun s0 => OpAt.go rfl rfl (q_pick),
           DS.ok_over fun s0 => OpAt.go rfl rfl (q_move),
           DS.ok_over fun s0 => OpAt.ggo rfl rfl rfl rfl rfl (q_move),
           DS.ok_over fun s0 => OpAt.ggo rfl rfl rfl rfl rfl (q_move),
           DS.ok_over fun s0 => OpAt.ggo rfl rfl rfl rfl rfl (q_ix),
           DS.ok_over fun s0 => OpAt.ggo rfl rfl rfl rfl rfl (q_load (z := .sl 100 vr 0 (r0 :: rs).length 5) (hz := by exact .el (f := rf) (l := xs) rfl .row (fun _ => rfl) (by omega)) (hy := by exact hld)),
           DS.ok_over fun s0 => OpAt.ggo rfl rfl rfl rfl rfl (q_ix (h1 := by simp <;> omega)),
           DS.ok_over fun s0 => OpAt.ggo rfl rfl rfl rfl rfl (q_fa),
           DS.ok_over fun s0 => OpAt.ggo rfl rfl rfl rfl rfl (q_load),
           DS.ok_over fun s0 => OpAt.ggo rfl rfl rfl rfl rfl (q_fa),
           DS.ok_over fun s0 => OpAt.ggo rfl rfl rfl rfl rfl (q_load),
           DS.ok_over fun s0 => OpAt.ggo rfl rfl rfl rfl rfl ((OpOk.bool_is (c := true) (q_call (0) (hc := (c_name_Same r0.nm (l.getD i default).nm (by omega) (by omega)))) (h2))),
           DS.ok_over fun s0 => OpAt.go rfl rfl (q_pick),
           DS.ok_over fun s0 => OpAt.go rfl rfl (q_assign), trivial⟩ ?_
      dsimp only [final, DS.upd, AS.seto]
      refine AWp.cond_t rfl ?_
      refine AWp.draws [⟨0, [4], [], some 54, _, none⟩,
          ⟨1, [7], [], some 55, _, none⟩,
          ⟨2, [4], [], some 56, _, none⟩,
          ⟨3, [7], [], some 57, _, none⟩,
          ⟨4, [56, 57], [200], some 58, _, none⟩,
          ⟨5, [58], [200], some 59, _, none⟩,
          ⟨6, [6], [502], some 60, _, none⟩,
          ⟨7, [60], [1107], some 61, _, some (1107, _)⟩,
          ⟨8, [59, 61], [100, 1107], some 62, _, some (100, _)⟩,
          ⟨9, [54, 55], [200], some 63, _, none⟩,
          ⟨10, [62, 63], [100, 200], none, _, some (200, _)⟩]
       [⟨0, [4], [], some 54, .any, none⟩,
           ⟨1, [7], [], some 55, .any, none⟩,
           ⟨2, [4], [], some 56, .any, none⟩,
           ⟨3, [7], [], some 57, .any, none⟩,
           ⟨4, [56, 57], [200], some 58, .any, none⟩,
           ⟨5, [58], [200], some 59, .any, none⟩,
           ⟨6, [6], [502], some 60, .any, none⟩,
           ⟨7, [60], [1107], some 61, .any, some (1107, .box [])⟩,
           ⟨8, [59, 61], [100, 1107], some 62, .any, some (100, .box [])⟩,
           ⟨9, [54, 55], [200], some 63, .any, none⟩,
           ⟨10, [62, 63], [100, 200], none, .any, some (200, .box [])⟩]
       mixed_ok rfl (by kernel_rfl) ⟨DS.ok_over fun s0 => OpAt.go rfl rfl (q_move),
           DS.ok_over fun s0 => OpAt.go rfl rfl (q_move),
           DS.ok_over fun s0 => OpAt.go rfl rfl (q_move),
           DS.ok_over fun s0 => OpAt.go rfl rfl (q_move),
           DS.ok_over fun s0 => OpAt.go rfl rfl (q_ix),
           DS.ok_over fun s0 => OpAt.go rfl rfl (q_load (z := .sl 100 vr 0 (r0 :: rs).length 5) (hz := by exact .el (f := rf) (l := xs) rfl .row (fun _ => rfl) (by omega)) (hy := by exact hld)),
           DS.ok_over fun s0 => OpAt.go rfl rfl (q_load),
           DS.ok_over fun s0 => OpAt.go rfl rfl (q_bs 1107 rrc [(l.getD i default)] [(_, _)]),
           DS.ok_over fun s0 => OpAt.go rfl rfl (q_app (l := r0 :: rs) (m := [(l.getD i default)]) (f := rrc) (hb := by simp only [List.length_cons, List.length_nil] at hsz ⊢; omega)),
           DS.ok_over fun s0 => OpAt.go rfl rfl (q_ix),
           DS.ok_over fun s0 => OpAt.go rfl rfl (q_store (hs := by exact .el (f := rf) (l := xs) (a := .o 100 (vr + 1) ((r0 :: rs) ++ [(l.getD i default)]).length) rfl .row rfl (fun _ => rfl) (by decide) (by omega))), trivial⟩ ?_
      dsimp only [final, DS.upd, AS.seto]
      refine AWp.region ?_
      refine AOps.cons rfl rfl (q_add) ?_
      refine AOps.cons rfl rfl (q_move) ?_
      refine AOps.nil ?_
      have hset : xs.set ((n : Int) - 1).toNat (.o 100 (vr + 1) ((r0 :: rs) ++ [(l.getD i default)]).length) = D.map .f ++ [.o 100 (vr + 1) ((r0 :: rs) ++ [(l.getD i default)]).length] := by rw [show ((n : Int) - 1).toNat = D.length by omega, hxs, rnX_set]
      refine ⟨(i + 1, xs.set ((n : Int) - 1).toNat (.o 100 (vr + 1) ((r0 :: rs) ++ [(l.getD i default)]).length), n, D, (r0 :: rs) ++ [(l.getD i default)], 100, v, vr + 1), ?_, Weak.full (0) [] (hobj := ⟨rfl, ⟨_, rfl, rfl, rfl, by rw [hset]; exact run_keep rfl rfl⟩, rfl, ⟨_, rfl, lobj_row (fun _ => rfl)⟩, trivial⟩), ?_⟩
      ·
       try dsimp only
       exact ⟨by omega, .inl rfl, by rw [List.length_set]; exact hnx, by rw [rnF_step (by omega), hf]; exact rnA_yes (keyE_yes h1 h2), by rw [hset]; rfl, rnO_step (by omega) hO h7_2⟩
      ·
       try dsimp only
       first | omega | (simp; omega)
    ·
     refine AOps.cons rfl rfl (q_not) ?_
     refine AOps.cons rfl rfl (q_assign) ?_
     refine AOps.nil ?_
     refine AWp.cond_t rfl ?_
     refine AWp.seq ?_
     refine AWp.region ?_
     refine AOps.cons rfl rfl (q_nilz (0) (lc 0 rrc)) ?_
     refine AOps.cons rfl rfl (q_assign) ?_
     refine AOps.nil ?_
     refine AWp.ret ?_
     show Fin te Try.f67 _ _
     refine q_ret (0) [_, _] [_, _] ?_
     have ho : rnO l = false := rnO_no (i := i) (by omega) h7_2
     rw [rnV_no ho, ho]; rfl
   ·
    refine AOps.nil ?_
    refine AWp.seq ?_
    refine AWp.cond_f rfl ?_
    refine AWp.exit ?_
    refine AWp.seq ?_
    refine AWp.region ?_
    obtain rfl : i = l.length := by omega
    rw [List.take_length] at hf hO
    have hrv : rnV l = D ++ [r0 :: rs] := by rw [rnV_yes hO, hf]; rfl
    obtain rfl : n = (D ++ [r0 :: rs]).length := by rw [hnx, hxl]; simp
    refine AOps.weak (Weak.full 0 [] (t := [(4, .sl 200 v 0 (D ++ [r0 :: rs]).length 1)]) (hl := [(200, .row (cl (lc 0 rrc) (D ++ [r0 :: rs])) 1 v)]) (hobj := ⟨rfl, ⟨_, rfl, rfl, rfl, by rw [hxs]; exact run_end rfl rfl⟩, trivial⟩)) ?_
    refine AOps.cons rfl rfl (q_move) ?_
    refine AOps.cons rfl rfl (q_assign) ?_
    refine AOps.cons rfl rfl (q_assign) ?_
    refine AOps.nil ?_
    refine AWp.ret ?_
    show Fin te Try.f67 _ _
    refine q_ret (0) [_, _] [_, _] ?_
    rw [hrv, hO]; rfl
  ·
   have hxl : xs.length = D.length + 1 := by rw [hxs]; exact rnX_len
   have hld : mkAV false (rf (xs.getD ((n : Int) - 1).toNat default)) = .sl 802 vr 0 (r0 :: rs).length 5 := by rw [show ((n : Int) - 1).toNat = D.length by omega, hxs, rnX_get]; rfl
   have hr0 : r0.nm.length ≤ 140737488351232 := hn _ (List.mem_of_mem_take (hmem r0 (by simp)))
   refine AOps.dec rfl rfl (q_lss) (fun h3_0 => ?_) (fun h3_0 => ?_)
   ·
    refine AOps.nil ?_
    refine AWp.seq ?_
    refine AWp.cond_t rfl ?_
    refine AWp.skip ?_
    refine AWp.seq ?_
    refine AWp.block ?_
    refine AWp.seq ?_
    refine AWp.region ?_
    have hri := hn _ (getD_mem' (l := l) (i := i) (by omega))
    refine AOps.cons rfl rfl (q_ix) ?_
    refine AOps.cons rfl rfl (q_load) ?_
    refine AOps.cons rfl rfl (q_alloc 502) ?_
    refine AOps.cons rfl rfl (q_store) ?_
    refine AOps.nil ?_
    refine AWp.seq ?_
    refine AWp.region ?_
    refine AOps.cons rfl rfl (q_move) ?_
    refine AOps.cons rfl rfl (q_len) ?_
    refine AOps.cons rfl rfl (q_sub) ?_
    refine AOps.cons rfl rfl (q_assign) ?_
    refine AOps.nil ?_
    refine AWp.block ?_
    refine AWp.seq ?_
    refine AWp.region ?_
    refine AOps.cons rfl rfl (q_fa) ?_
    refine AOps.cons rfl rfl (q_load) ?_
    refine AOps.bool rfl rfl (q_call (0) (hc := (c_name_Can (l.getD i default).nm (by omega)))) (fun h7_2 => ?_) (fun h7_2 => ?_)
    ·
     refine AOps.cons rfl rfl (q_not) ?_
     refine AOps.cons rfl rfl (q_assign) ?_
     refine AOps.nil ?_
     refine AWp.cond_f rfl ?_
     refine AWp.seq ?_
     rcases key3 (r0.ty = (l.getD i default).ty) (sameN r0.nm (l.getD i default).nm) with h1 | ⟨h1, h2⟩ | ⟨h1, h2⟩
     ·
      refine AWp.draws [⟨0, [7], [], some 28, _, none⟩,
          ⟨1, [28], [], some 29, _, none⟩,
          ⟨2, [29], [], some 30, _, none⟩,
          ⟨3, [4, 30], [], some 31, _, none⟩,
          ⟨4, [7, 30], [], some 32, _, none⟩,
          ⟨5, [30, 31, 32], [200], some 33, _, none⟩,
          ⟨6, [30, 33], [200], some 34, _, none⟩,
          ⟨7, [30, 34], [802], some 35, _, none⟩,
          ⟨8, [30, 35], [802], some 36, _, none⟩,
          ⟨9, [30, 36], [802], some 37, _, none⟩,
          ⟨10, [6, 30], [502], some 38, _, none⟩,
          ⟨11, [30, 38], [502], some 39, _, none⟩,
          ⟨12, [30, 37, 39], [], some 40, _, none⟩,
          ⟨13, [30, 40], [], some 41, _, none⟩,
          ⟨14, [41], [], some 42, _, none⟩,
          ⟨15, [42], [], some 43, .v undef, none⟩,
          ⟨16, [42], [], some 44, .v undef, none⟩,
          ⟨17, [42], [], some 45, .v undef, none⟩,
          ⟨18, [42], [], some 46, .v undef, none⟩,
          ⟨19, [42], [], some 47, .v undef, none⟩,
          ⟨20, [42], [], some 48, .v undef, none⟩,
          ⟨21, [42], [], some 49, .v undef, none⟩,
          ⟨22, [42], [], some 50, .v undef, none⟩,
          ⟨23, [42], [], some 51, .v undef, none⟩,
          ⟨24, [42], [], some 52, .v undef, none⟩,
          ⟨25, [42, 52], [], some 53, _, none⟩,
          ⟨26, [53], [], some 27, _, none⟩]
       [⟨0, [7], [], some 28, .any, none⟩,
           ⟨1, [28], [], some 29, .any, none⟩,
           ⟨2, [29], [], some 30, .any, none⟩,
           ⟨3, [4, 30], [], some 31, .any, none⟩,
           ⟨4, [7, 30], [], some 32, .any, none⟩,
           ⟨5, [30, 31, 32], [200], some 33, .any, none⟩,
           ⟨6, [30, 33], [200], some 34, .any, none⟩,
           ⟨7, [30, 34], [802], some 35, .any, none⟩,
           ⟨8, [30, 35], [802], some 36, .any, none⟩,
           ⟨9, [30, 36], [802], some 37, .any, none⟩,
           ⟨10, [6, 30], [502], some 38, .any, none⟩,
           ⟨11, [30, 38], [502], some 39, .any, none⟩,
           ⟨12, [30, 37, 39], [], some 40, .any, none⟩,
           ⟨13, [30, 40], [], some 41, .any, none⟩,
           ⟨14, [41], [], some 42, .any, none⟩,
           ⟨15, [42], [], some 43, .any, none⟩,
           ⟨16, [42], [], some 44, .any, none⟩,
           ⟨17, [42], [], some 45, .any, none⟩,
           ⟨18, [42], [], some 46, .any, none⟩,
           ⟨19, [42], [], some 47, .any, none⟩,
           ⟨20, [42], [], some 48, .any, none⟩,
           ⟨21, [42], [], some 49, .any, none⟩,
           ⟨22, [42], [], some 50, .any, none⟩,
           ⟨23, [42], [], some 51, .any, none⟩,
           ⟨24, [42], [], some 52, .any, none⟩,
           ⟨25, [42, 52], [], some 53, .any, none⟩,
           ⟨26, [53], [], some 27, .any, none⟩]
       mixed_ok rfl (by kernel_rfl) ⟨DS.ok_over fun s0 => OpAt.go rfl rfl (q_move),
           DS.ok_over fun s0 => OpAt.go rfl rfl ((OpOk.dec_t (q_geq) (by omega))),
           DS.ok_over fun s0 => OpAt.go rfl rfl (q_move),
           DS.ok_over fun s0 => OpAt.ggo rfl rfl rfl rfl rfl (q_move),
           DS.ok_over fun s0 => OpAt.ggo rfl rfl rfl rfl rfl (q_move),
           DS.ok_over fun s0 => OpAt.ggo rfl rfl rfl rfl rfl (q_ix),
           DS.ok_over fun s0 => OpAt.ggo rfl rfl rfl rfl rfl (q_load (z := .sl 802 vr 0 (r0 :: rs).length 5) (hz := by exact .el (f := rf) (l := xs) rfl .row (fun _ => rfl) (by omega)) (hy := by exact hld)),
           DS.ok_over fun s0 => OpAt.ggo rfl rfl rfl rfl rfl (q_ix (h1 := by simp <;> omega)),
           DS.ok_over fun s0 => OpAt.ggo rfl rfl rfl rfl rfl (q_fa),
           DS.ok_over fun s0 => OpAt.ggo rfl rfl rfl rfl rfl (q_load),
           DS.ok_over fun s0 => OpAt.ggo rfl rfl rfl rfl rfl (q_fa),
           DS.ok_over fun s0 => OpAt.ggo rfl rfl rfl rfl rfl (q_load),
           DS.ok_over fun s0 => OpAt.ggo rfl rfl rfl rfl rfl ((OpOk.dec_f (q_eql) (h1))),
           DS.ok_over fun s0 => OpAt.go rfl rfl (q_pick),
           DS.ok_over fun s0 => OpAt.go rfl rfl (q_move),
           DS.ok_over fun s0 => OpAt.gskip rfl rfl rfl rfl rfl rfl rfl rfl,
           DS.ok_over fun s0 => OpAt.gskip rfl rfl rfl rfl rfl rfl rfl rfl,
           DS.ok_over fun s0 => OpAt.gskip rfl rfl rfl rfl rfl rfl rfl rfl,
           DS.ok_over fun s0 => OpAt.gskip rfl rfl rfl rfl rfl rfl rfl rfl,
           DS.ok_over fun s0 => OpAt.gskip rfl rfl rfl rfl rfl rfl rfl rfl,
           DS.ok_over fun s0 => OpAt.gskip rfl rfl rfl rfl rfl rfl rfl rfl,
           DS.ok_over fun s0 => OpAt.gskip rfl rfl rfl rfl rfl rfl rfl rfl,
           DS.ok_over fun s0 => OpAt.gskip rfl rfl rfl rfl rfl rfl rfl rfl,
           DS.ok_over fun s0 => OpAt.gskip rfl rfl rfl rfl rfl rfl rfl rfl,
           DS.ok_over fun s0 => OpAt.gskip rfl rfl rfl rfl rfl rfl rfl rfl,
           DS.ok_over fun s0 => OpAt.go rfl rfl (q_pick),
           DS.ok_over fun s0 => OpAt.go rfl rfl (q_assign), trivial⟩ ?_
      dsimp only [final, DS.upd, AS.seto]
      refine AWp.cond_f rfl ?_
      refine AWp.region ?_
      refine AOps.cons rfl rfl (q_move) ?_
      refine AOps.cons rfl rfl (q_load) ?_
      refine AOps.cons rfl rfl (q_bs 100 rrc [(l.getD i default)] [(_, _)]) ?_
      refine AOps.cons rfl rfl (q_bs 803 rf [.o 100 0 1] [(_, _)]) ?_
      refine AOps.cons rfl rfl (q_appo 0 (l := xs) (f := rf) (m := [.o 100 0 1]) (h1 := rf_one) (hb := by simp; omega)) ?_
      refine AOps.cons rfl rfl (q_assign) ?_
      refine AOps.nil ?_
      refine AWp.region ?_
      refine AOps.cons rfl rfl (q_add) ?_
      refine AOps.cons rfl rfl (q_move) ?_
      refine AOps.nil ?_
      refine ⟨(i + 1, (D ++ [r0 :: rs]).map .f ++ [.o 100 0 1], (xs.drop 0 ++ [RunE.o 100 0 1]).length, D ++ [r0 :: rs], [(l.getD i default)], 100, v + 1, 0), ?_, Weak.full (0) [] (hobj := ⟨rfl, ⟨_, rfl, rfl, rfl, by rw [show xs.drop 0 = D.map .f ++ [.o 802 vr (r0 :: rs).length] from hxs]; exact run_new rfl rfl rfl rfl⟩, rfl, ⟨_, rfl, lobj_row (fun _ => rfl)⟩, trivial⟩), ?_⟩
      ·
       try dsimp only
       exact ⟨by omega, .inl rfl, by simp; omega, by rw [rnF_step (by omega), hf]; exact rnA_no (keyE_ne h1), rfl, rnO_step (by omega) hO h7_2⟩
      ·
       try dsimp only
       first | omega | (simp; omega)
     ·
      refine AWp.draws [⟨0, [7], [], some 28, _, none⟩,
          ⟨1, [28], [], some 29, _, none⟩,
          ⟨2, [29], [], some 30, _, none⟩,
          ⟨3, [4, 30], [], some 31, _, none⟩,
          ⟨4, [7, 30], [], some 32, _, none⟩,
          ⟨5, [30, 31, 32], [200], some 33, _, none⟩,
          ⟨6, [30, 33], [200], some 34, _, none⟩,
          ⟨7, [30, 34], [802], some 35, _, none⟩,
          ⟨8, [30, 35], [802], some 36, _, none⟩,
          ⟨9, [30, 36], [802], some 37, _, none⟩,
          ⟨10, [6, 30], [502], some 38, _, none⟩,
          ⟨11, [30, 38], [502], some 39, _, none⟩,
          ⟨12, [30, 37, 39], [], some 40, _, none⟩,
          ⟨13, [30, 40], [], some 41, _, none⟩,
          ⟨14, [41], [], some 42, _, none⟩,
          ⟨15, [4, 42], [], some 43, _, none⟩,
          ⟨16, [7, 42], [], some 44, _, none⟩,
          ⟨17, [42, 43, 44], [200], some 45, _, none⟩,
          ⟨18, [42, 45], [200], some 46, _, none⟩,
          ⟨19, [42, 46], [802], some 47, _, none⟩,
          ⟨20, [42, 47], [802], some 48, _, none⟩,
          ⟨21, [42, 48], [802], some 49, _, none⟩,
          ⟨22, [6, 42], [502], some 50, _, none⟩,
          ⟨23, [42, 50], [502], some 51, _, none⟩,
          ⟨24, [42, 49, 51], [], some 52, _, none⟩,
          ⟨25, [42, 52], [], some 53, _, none⟩,
          ⟨26, [53], [], some 27, _, none⟩]
       [⟨0, [7], [], some 28, .any, none⟩,
           ⟨1, [28], [], some 29, .any, none⟩,
           ⟨2, [29], [], some 30, .any, none⟩,
           ⟨3, [4, 30], [], some 31, .any, none⟩,
           ⟨4, [7, 30], [], some 32, .any, none⟩,
           ⟨5, [30, 31, 32], [200], some 33, .any, none⟩,
           ⟨6, [30, 33], [200], some 34, .any, none⟩,
           ⟨7, [30, 34], [802], some 35, .any, none⟩,
           ⟨8, [30, 35], [802], some 36, .any, none⟩,
           ⟨9, [30, 36], [802], some 37, .any, none⟩,
           ⟨10, [6, 30], [502], some 38, .any, none⟩,
           ⟨11, [30, 38], [502], some 39, .any, none⟩,
           ⟨12, [30, 37, 39], [], some 40, .any, none⟩,
           ⟨13, [30, 40], [], some 41, .any, none⟩,
           ⟨14, [41], [], some 42, .any, none⟩,
           ⟨15, [4, 42], [], some 43, .any, none⟩,
           ⟨16, [7, 42], [], some 44, .any, none⟩,
           ⟨17, [42, 43, 44], [200], some 45, .any, none⟩,
           ⟨18, [42, 45], [200], some 46, .any, none⟩,
           ⟨19, [42, 46], [802], some 47, .any, none⟩,
           ⟨20, [42, 47], [802], some 48, .any, none⟩,
           ⟨21, [42, 48], [802], some 49, .any, none⟩,
           ⟨22, [6, 42], [502], some 50, .any, none⟩,
           ⟨23, [42, 50], [502], some 51, .any, none⟩,
           ⟨24, [42, 49, 51], [], some 52, .any, none⟩,
           ⟨25, [42, 52], [], some 53, .any, none⟩,
           ⟨26, [53], [], some 27, .any, none⟩]
       mixed_ok rfl (by kernel_rfl) ⟨DS.ok_over fun s0 => OpAt.go rfl rfl (q_move),
           DS.ok_over fun s0 => OpAt.go rfl rfl ((OpOk.dec_t (q_geq) (by omega))),
           DS.ok_over fun s0 => OpAt.go rfl rfl (q_move),
           DS.ok_over fun s0 => OpAt.ggo rfl rfl rfl rfl rfl (q_move),
           DS.ok_over fun s0 => OpAt.ggo rfl rfl rfl rfl rfl (q_move),
           DS.ok_over fun s0 => OpAt.ggo rfl rfl rfl rfl rfl (q_ix),
           DS.ok_over fun s0 => OpAt.ggo rfl rfl rfl rfl rfl (q_load (z := .sl 802 vr 0 (r0 :: rs).length 5) (hz := by exact .el (f := rf) (l := xs) rfl .row (fun _ => rfl) (by omega)) (hy := by exact hld)),
           DS.ok_over fun s0 => OpAt.ggo rfl rfl rfl rfl rfl (q_ix (h1 := by simp <;> omega)),
           DS.ok_over fun s0 => OpAt.ggo rfl rfl rfl rfl rfl (q_fa),
           DS.ok_over fun s0 => OpAt.ggo rfl rfl rfl rfl rfl (q_load),
           DS.ok_over fun s0 => OpAt.ggo rfl rfl rfl rfl rfl (q_fa),
           DS.ok_over fun s0 => OpAt.ggo rfl rfl rfl rfl rfl (q_load),
           DS.ok_over fun s0 => OpAt.ggo rfl rfl rfl rfl rfl ((OpOk.dec_t (q_eql) (h1))),
           DS.ok_over fun s0 => OpAt.go rfl rfl (q_pick),
           DS.ok_over fun s0 => OpAt.go rfl rfl (q_move),
           DS.ok_over fun s0 => OpAt.ggo rfl rfl rfl rfl rfl (q_move),
           DS.ok_over fun s0 => OpAt.ggo rfl rfl rfl rfl rfl (q_move),
           DS.ok_over fun s0 => OpAt.ggo rfl rfl rfl rfl rfl (q_ix),
           DS.ok_over fun s0 => OpAt.ggo rfl rfl rfl rfl rfl (q_load (z := .sl 802 vr 0 (r0 :: rs).length 5) (hz := by exact .el (f := rf) (l := xs) rfl .row (fun _ => rfl) (by omega)) (hy := by exact hld)),
           DS.ok_over fun s0 => OpAt.ggo rfl rfl rfl rfl rfl (q_ix (h1 := by simp <;> omega)),
           DS.ok_over fun s0 => OpAt.ggo rfl rfl rfl rfl rfl (q_fa),
           DS.ok_over fun s0 => OpAt.ggo rfl rfl rfl rfl rfl (q_load),
           DS.ok_over fun s0 => OpAt.ggo rfl rfl rfl rfl rfl (q_fa),
           DS.ok_over fun s0 => OpAt.ggo rfl rfl rfl rfl rfl (q_load),
           DS.ok_over fun s0 => OpAt.ggo rfl rfl rfl rfl rfl ((OpOk.bool_is (c := false) (q_call (0) (hc := (c_name_Same r0.nm (l.getD i default).nm (by omega) (by omega)))) (h2))),
           DS.ok_over fun s0 => OpAt.go rfl rfl (q_pick),
           DS.ok_over fun s0 => OpAt.go rfl rfl (q_assign), trivial⟩ ?_
      dsimp only [final, DS.upd, AS.seto]
      refine AWp.cond_f rfl ?_
      refine AWp.region ?_
      refine AOps.cons rfl rfl (q_move) ?_
      refine AOps.cons rfl rfl (q_load) ?_
      refine AOps.cons rfl rfl (q_bs 100 rrc [(l.getD i default)] [(_, _)]) ?_
      refine AOps.cons rfl rfl (q_bs 803 rf [.o 100 0 1] [(_, _)]) ?_
      refine AOps.cons rfl rfl (q_appo 0 (l := xs) (f := rf) (m := [.o 100 0 1]) (h1 := rf_one) (hb := by simp; omega)) ?_
      refine AOps.cons rfl rfl (q_assign) ?_
      refine AOps.nil ?_
      refine AWp.region ?_
      refine AOps.cons rfl rfl (q_add) ?_
      refine AOps.cons rfl rfl (q_move) ?_
      refine AOps.nil ?_
      refine ⟨(i + 1, (D ++ [r0 :: rs]).map .f ++ [.o 100 0 1], (xs.drop 0 ++ [RunE.o 100 0 1]).length, D ++ [r0 :: rs], [(l.getD i default)], 100, v + 1, 0), ?_, Weak.full (0) [] (hobj := ⟨rfl, ⟨_, rfl, rfl, rfl, by rw [show xs.drop 0 = D.map .f ++ [.o 802 vr (r0 :: rs).length] from hxs]; exact run_new rfl rfl rfl rfl⟩, rfl, ⟨_, rfl, lobj_row (fun _ => rfl)⟩, trivial⟩), ?_⟩
      ·
       try dsimp only
       exact ⟨by omega, .inl rfl, by simp; omega, by rw [rnF_step (by omega), hf]; exact rnA_no (keyE_no h2), rfl, rnO_step (by omega) hO h7_2⟩
      ·
       try dsimp only
       first | omega | (simp; omega)
     ·
      refine AWp.draws [⟨0, [7], [], some 28, _, none⟩,
          ⟨1, [28], [], some 29, _, none⟩,
          ⟨2, [29], [], some 30, _, none⟩,
          ⟨3, [4, 30], [], some 31, _, none⟩,
          ⟨4, [7, 30], [], some 32, _, none⟩,
          ⟨5, [30, 31, 32], [200], some 33, _, none⟩,
          ⟨6, [30, 33], [200], some 34, _, none⟩,
          ⟨7, [30, 34], [802], some 35, _, none⟩,
          ⟨8, [30, 35], [802], some 36, _, none⟩,
          ⟨9, [30, 36], [802], some 37, _, none⟩,
          ⟨10, [6, 30], [502], some 38, _, none⟩,
          ⟨11, [30, 38], [502], some 39, _, none⟩,
          ⟨12, [30, 37, 39], [], some 40, _, none⟩,
          ⟨13, [30, 40], [], some 41, _, none⟩,
          ⟨14, [41], [], some 42, _, none⟩,
          ⟨15, [4, 42], [], some 43, _, none⟩,
          ⟨16, [7, 42], [], some 44, _, none⟩,
          ⟨17, [42, 43, 44], [200], some 45, _, none⟩,
          ⟨18, [42, 45], [200], some 46, _, none⟩,
          ⟨19, [42, 46], [802], some 47, _, none⟩,
          ⟨20, [42, 47], [802], some 48, _, none⟩,
          ⟨21, [42, 48], [802], some 49, _, none⟩,
          ⟨22, [6, 42], [502], some 50, _, none⟩,
          ⟨23, [42, 50], [502], some 51, _, none⟩,
          ⟨24, [42, 49, 51], [], some 52, _, none⟩,
          ⟨25, [42, 52], [], some 53, _, none⟩,
          ⟨26, [53], [], some 27, _, none⟩]
       [⟨0, [7], [], some 28, .any, none⟩,
           ⟨1, [28], [], some 29, .any, none⟩,
           ⟨2, [29], [], some 30, .any, none⟩,
           ⟨3, [4, 30], [], some 31, .any, none⟩,
           ⟨4, [7, 30], [], some 32, .any, none⟩,
           ⟨5, [30, 31, 32], [200], some 33, .any, none⟩,
           ⟨6, [30, 33], [200], some 34, .any, none⟩,
           ⟨7, [30, 34], [802], some 35, .any, none⟩,
           ⟨8, [30, 35], [802], some 36, .any, none⟩,
           ⟨9, [30, 36], [802], some 37, .any, none⟩,
           ⟨10, [6, 30], [502], some 38, .any, none⟩,
           ⟨11, [30, 38], [502], some 39, .any, none⟩,
           ⟨12, [30, 37, 39], [], some 40, .any, none⟩,
           ⟨13, [30, 40], [], some 41, .any, none⟩,
           ⟨14, [41], [], some 42, .any, none⟩,
           ⟨15, [4, 42], [], some 43, .any, none⟩,
           ⟨16, [7, 42], [], some 44, .any, none⟩,
           ⟨17, [42, 43, 44], [200], some 45, .any, none⟩,
           ⟨18, [42, 45], [200], some 46, .any, none⟩,
           ⟨19, [42, 46], [802], some 47, .any, none⟩,
           ⟨20, [42, 47], [802], some 48, .any, none⟩,
           ⟨21, [42, 48], [802], some 49, .any, none⟩,
           ⟨22, [6, 42], [502], some 50, .any, none⟩,
           ⟨23, [42, 50], [502], some 51, .any, none⟩,
           ⟨24, [42, 49, 51], [], some 52, .any, none⟩,
           ⟨25, [42, 52], [], some 53, .any, none⟩,
           ⟨26, [53], [], some 27, .any, none⟩]
       mixed_ok rfl (by kernel_rfl) ⟨DS.ok_over fun s0 => OpAt.go rfl rfl (q_move),
           DS.ok_over fun s0 => OpAt.go rfl rfl ((OpOk.dec_t (q_geq) (by omega))),
           DS.ok_over fun s0 => OpAt.go rfl rfl (q_move),
           DS.ok_over fun s0 => OpAt.ggo rfl rfl rfl rfl rfl (q_move),
           DS.ok_over fun s0 => OpAt.ggo rfl rfl rfl rfl rfl (q_move),
           DS.ok_over fun s0 => OpAt.ggo rfl rfl rfl rfl rfl (q_ix),
           DS.ok_over fun s0 => OpAt.ggo rfl rfl rfl rfl rfl (q_load (z := .sl 802 vr 0 (r0 :: rs).length 5) (hz := by exact .el (f := rf) (l := xs) rfl .row (fun _ => rfl) (by omega)) (hy := by exact hld)),
           DS.ok_over fun s0 => OpAt.ggo rfl rfl rfl rfl rfl (q_ix (h1 := by simp <;> omega)),
           DS.ok_over fun s0 => OpAt.ggo rfl rfl rfl rfl rfl (q_fa),
           DS.ok_over fun s0 => OpAt.ggo rfl rfl rfl rfl rfl (q_load),
           DS.ok_over fun s0 => OpAt.ggo rfl rfl rfl rfl rfl (q_fa),
           DS.ok_over fun s0 => OpAt.ggo rfl rfl rfl rfl rfl (q_load),
           DS.ok_over fun s0 => OpAt.ggo rfl rfl rfl rfl rfl ((OpOk.dec_t (q_eql) (h1))),
           DS.ok_over fun s0 => OpAt.go rfl rfl (q_pick),
           DS.ok_over fun s0 => OpAt.go rfl rfl (q_move),
           DS.ok_over fun s0 => OpAt.ggo rfl rfl rfl rfl rfl (q_move),
           DS.ok_over fun s0 => OpAt.ggo rfl rfl rfl rfl rfl (q_move),
           DS.ok_over fun s0 => OpAt.ggo rfl rfl rfl rfl rfl (q_ix),
           DS.ok_over fun s0 => OpAt.ggo rfl rfl rfl rfl rfl (q_load (z := .sl 802 vr 0 (r0 :: rs).length 5) (hz := by exact .el (f := rf) (l := xs) rfl .row (fun _ => rfl) (by omega)) (hy := by exact hld)),
           DS.ok_over fun s0 => OpAt.ggo rfl rfl rfl rfl rfl (q_ix (h1 := by simp <;> omega)),
           DS.ok_over fun s0 => OpAt.ggo rfl rfl rfl rfl rfl (q_fa),
           DS.ok_over fun s0 => OpAt.ggo rfl rfl rfl rfl rfl (q_load),
           DS.ok_over fun s0 => OpAt.ggo rfl rfl rfl rfl rfl (q_fa),
           DS.ok_over fun s0 => OpAt.ggo rfl rfl rfl rfl rfl (q_load),
           DS.ok_over fun s0 => OpAt.ggo rfl rfl rfl rfl rfl ((OpOk.bool_is (c := true) (q_call (0) (hc := (c_name_Same r0.nm (l.getD i default).nm (by omega) (by omega)))) (h2))),
           DS.ok_over fun s0 => OpAt.go rfl rfl (q_pick),
           DS.ok_over fun s0 => OpAt.go rfl rfl (q_assign), trivial⟩ ?_
      dsimp only [final, DS.upd, AS.seto]
      refine AWp.cond_t rfl ?_
      refine AWp.draws [⟨0, [4], [], some 54, _, none⟩,
          ⟨1, [7], [], some 55, _, none⟩,
          ⟨2, [4], [], some 56, _, none⟩,
          ⟨3, [7], [], some 57, _, none⟩,
          ⟨4, [56, 57], [200], some 58, _, none⟩,
          ⟨5, [58], [200], some 59, _, none⟩,
          ⟨6, [6], [502], some 60, _, none⟩,
          ⟨7, [60], [1107], some 61, _, some (1107, _)⟩,
          ⟨8, [59, 61], [802, 1107], some 62, _, some (802, _)⟩,
          ⟨9, [54, 55], [200], some 63, _, none⟩,
          ⟨10, [62, 63], [200, 802], none, _, some (200, _)⟩]
       [⟨0, [4], [], some 54, .any, none⟩,
           ⟨1, [7], [], some 55, .any, none⟩,
           ⟨2, [4], [], some 56, .any, none⟩,
           ⟨3, [7], [], some 57, .any, none⟩,
           ⟨4, [56, 57], [200], some 58, .any, none⟩,
           ⟨5, [58], [200], some 59, .any, none⟩,
           ⟨6, [6], [502], some 60, .any, none⟩,
           ⟨7, [60], [1107], some 61, .any, some (1107, .box [])⟩,
           ⟨8, [59, 61], [802, 1107], some 62, .any, some (802, .box [])⟩,
           ⟨9, [54, 55], [200], some 63, .any, none⟩,
           ⟨10, [62, 63], [200, 802], none, .any, some (200, .box [])⟩]
       mixed_ok rfl (by kernel_rfl) ⟨DS.ok_over fun s0 => OpAt.go rfl rfl (q_move),
           DS.ok_over fun s0 => OpAt.go rfl rfl (q_move),
           DS.ok_over fun s0 => OpAt.go rfl rfl (q_move),
           DS.ok_over fun s0 => OpAt.go rfl rfl (q_move),
           DS.ok_over fun s0 => OpAt.go rfl rfl (q_ix),
           DS.ok_over fun s0 => OpAt.go rfl rfl (q_load (z := .sl 802 vr 0 (r0 :: rs).length 5) (hz := by exact .el (f := rf) (l := xs) rfl .row (fun _ => rfl) (by omega)) (hy := by exact hld)),
           DS.ok_over fun s0 => OpAt.go rfl rfl (q_load),
           DS.ok_over fun s0 => OpAt.go rfl rfl (q_bs 1107 rrc [(l.getD i default)] [(_, _)]),
           DS.ok_over fun s0 => OpAt.go rfl rfl (q_app (l := r0 :: rs) (m := [(l.getD i default)]) (f := rrc) (hb := by simp only [List.length_cons, List.length_nil] at hsz ⊢; omega)),
           DS.ok_over fun s0 => OpAt.go rfl rfl (q_ix),
           DS.ok_over fun s0 => OpAt.go rfl rfl (q_store (hs := by exact .el (f := rf) (l := xs) (a := .o 802 (vr + 1) ((r0 :: rs) ++ [(l.getD i default)]).length) rfl .row rfl (fun _ => rfl) (by decide) (by omega))), trivial⟩ ?_
      dsimp only [final, DS.upd, AS.seto]
      refine AWp.region ?_
      refine AOps.cons rfl rfl (q_add) ?_
      refine AOps.cons rfl rfl (q_move) ?_
      refine AOps.nil ?_
      have hset : xs.set ((n : Int) - 1).toNat (.o 802 (vr + 1) ((r0 :: rs) ++ [(l.getD i default)]).length) = D.map .f ++ [.o 802 (vr + 1) ((r0 :: rs) ++ [(l.getD i default)]).length] := by rw [show ((n : Int) - 1).toNat = D.length by omega, hxs, rnX_set]
      refine ⟨(i + 1, xs.set ((n : Int) - 1).toNat (.o 802 (vr + 1) ((r0 :: rs) ++ [(l.getD i default)]).length), n, D, (r0 :: rs) ++ [(l.getD i default)], 802, v, vr + 1), ?_, Weak.full (0) [] (hobj := ⟨rfl, ⟨_, rfl, rfl, rfl, by rw [hset]; exact run_keep rfl rfl⟩, rfl, ⟨_, rfl, lobj_row (fun _ => rfl)⟩, trivial⟩), ?_⟩
      ·
       try dsimp only
       exact ⟨by omega, .inr ⟨rfl, by simp⟩, by rw [List.length_set]; exact hnx, by rw [rnF_step (by omega), hf]; exact rnA_yes (keyE_yes h1 h2), by rw [hset]; rfl, rnO_step (by omega) hO h7_2⟩
      ·
       try dsimp only
       first | omega | (simp; omega)
    ·
     refine AOps.cons rfl rfl (q_not) ?_
     refine AOps.cons rfl rfl (q_assign) ?_
     refine AOps.nil ?_
     refine AWp.cond_t rfl ?_
     refine AWp.seq ?_
     refine AWp.region ?_
     refine AOps.cons rfl rfl (q_nilz (0) (lc 0 rrc)) ?_
     refine AOps.cons rfl rfl (q_assign) ?_
     refine AOps.nil ?_
     refine AWp.ret ?_
     show Fin te Try.f67 _ _
     refine q_ret (0) [_, _] [_, _] ?_
     have ho : rnO l = false := rnO_no (i := i) (by omega) h7_2
     rw [rnV_no ho, ho]; rfl
   ·
    refine AOps.nil ?_
    refine AWp.seq ?_
    refine AWp.cond_f rfl ?_
    refine AWp.exit ?_
    refine AWp.seq ?_
    refine AWp.region ?_
    obtain rfl : i = l.length := by omega
    rw [List.take_length] at hf hO
    have hrv : rnV l = D ++ [r0 :: rs] := by rw [rnV_yes hO, hf]; rfl
    obtain rfl : n = (D ++ [r0 :: rs]).length := by rw [hnx, hxl]; simp
    refine AOps.weak (Weak.full 0 [] (t := [(4, .sl 200 v 0 (D ++ [r0 :: rs]).length 1)]) (hl := [(200, .row (cl (lc 0 rrc) (D ++ [r0 :: rs])) 1 v)]) (hobj := ⟨rfl, ⟨_, rfl, rfl, rfl, by rw [hxs]; exact run_end rfl rfl⟩, trivial⟩)) ?_
    refine AOps.cons rfl rfl (q_move) ?_
    refine AOps.cons rfl rfl (q_assign) ?_
    refine AOps.cons rfl rfl (q_assign) ?_
    refine AOps.nil ?_
    refine AWp.ret ?_
    show Fin te Try.f67 _ _
    refine q_ret (0) [_, _] [_, _] ?_
    rw [hrv, hO]; rfl
end Go.Proofs.Ytokccoloholgaaa.Fw


set_option linter.unusedVariables false
set_option linter.unusedSimpArgs false
namespace Go.Proofs.Ytokccoloholgaaa.Fw
open Go.RowKit
section
variable {z : Zo} {ty : Int} {aa : Bool} {an : List Rr} {n : List UInt8} {v : Nat}
end
end Go.Proofs.Ytokccoloholgaaa.Fw


set_option linter.unusedVariables false
set_option linter.unusedSimpArgs false
namespace Go.Proofs.Ytokccoloholgaaa.Fw
open Go.RowKit
def Lw (n : List UInt8) : List (List UInt8) := lowL (labN n)
theorem same_iff {a b : List UInt8} : sameN a b = true ↔ canN a = true ∧ canN b = true ∧ Lw a = Lw b := by
  constructor
  · intro h
    have h0 := h
    unfold sameN at h
    simp only [Bool.and_eq_true] at h
    obtain ⟨⟨h1, h2⟩, _⟩ := h
    obtain ⟨la, ha, rfl⟩ := can_nm h1
    obtain ⟨lb, hb, rfl⟩ := can_nm h2
    rw [ha.same hb] at h0
    exact ⟨h1, h2, by rw [Lw, Lw, ha.lab, hb.lab]; exact of_decide_eq_true h0⟩
  · rintro ⟨h1, h2, h3⟩
    obtain ⟨la, ha, rfl⟩ := can_nm h1
    obtain ⟨lb, hb, rfl⟩ := can_nm h2
    rw [Lw, Lw, ha.lab, hb.lab] at h3
    rw [ha.same hb]; exact decide_eq_true h3
section
variable {t : Tr}
end
end Go.Proofs.Ytokccoloholgaaa.Fw


set_option linter.unusedVariables false
set_option linter.unusedSimpArgs false
namespace Go.Proofs.Ytokccoloholgaaa.Fw
open Go.RowKit
def Msg.rrs (m : Msg) : List Rr := m.an ++ m.au ++ m.ad
def NmOk (m : Msg) : Prop := (∀ x ∈ m.qs, x.nm.length ≤ 140737488351232) ∧ ∀ x ∈ m.rrs, x.nm.length ≤ 140737488351232
section
variable {d : Nat} {s n b u : TypeId} {is in' ib iu : TI}
theorem has_rrN {t y : TypeId} {it iy : TI} {cs : List AV} (h : Has te (d + 2) t cs) (ht : te.get t = some it) (kt : it.k = .struct [(0, s), (1, n), (2, n), (3, n), (4, y)]) (hs : te.get s = some is) (ks : is.k = .str) (hn : te.get n = some in') (kn : in'.k = .int .i64)
    (hy : te.get y = some iy) (ky : iy.k = .slice u) (hu : te.get u = some iu) (ku : iu.k = .int .u8) (bu : iu.bytes = 1) : ∃ x : Rr, cs = rrc x ∧ (x.da.length ≤ 140737488351232 ∧ x.nm.length ≤ 140737488351232) := by
  obtain ⟨_, w, rfl, q, hh⟩ := has_struct h ht kt
  obtain ⟨a1, rfl, bn⟩ := has_str q hs ks
  obtain ⟨_, w, rfl, q, hh⟩ := hh
  obtain ⟨a2, rfl, _⟩ := has_int q hn kn
  obtain ⟨_, w, rfl, q, hh⟩ := hh
  obtain ⟨a3, rfl, _⟩ := has_int q hn kn
  obtain ⟨_, w, rfl, q, hh⟩ := hh
  obtain ⟨a4, rfl, _⟩ := has_int q hn kn
  obtain ⟨_, w, rfl, q, hh⟩ := hh
  obtain ⟨a5, rfl, h5⟩ := has_bytes q hy ky hu ku bu
  cases hh
  exact ⟨⟨a1, a2, a3, a4, a5⟩, rfl, h5, bn⟩
theorem has_quN {t : TypeId} {it : TI} {cs : List AV} (h : Has te (d + 1) t cs) (ht : te.get t = some it) (kt : it.k = .struct [(0, s), (1, n), (2, n)]) (hs : te.get s = some is) (ks : is.k = .str) (hn : te.get n = some in') (kn : in'.k = .int .i64) : ∃ x : Qu, cs = quc x ∧ x.nm.length ≤ 140737488351232 := by
  obtain ⟨_, w, rfl, q, hh⟩ := has_struct h ht kt
  obtain ⟨a1, rfl, bn⟩ := has_str q hs ks
  obtain ⟨_, w, rfl, q, hh⟩ := hh
  obtain ⟨a2, rfl, _⟩ := has_int q hn kn
  obtain ⟨_, w, rfl, q, hh⟩ := hh
  obtain ⟨a3, rfl, _⟩ := has_int q hn kn
  cases hh
  exact ⟨⟨a1, a2, a3⟩, rfl, bn⟩
theorem has_rrsN {t r y : TypeId} {it ir iy : TI} {cs : List AV} (h : Has te (d + 3) t cs) (ht : te.get t = some it) (kt : it.k = .slice r) (hr : te.get r = some ir) (kr : ir.k = .struct [(0, s), (1, n), (2, n), (3, n), (4, y)]) (br : ir.bytes = 64)
    (hs : te.get s = some is) (ks : is.k = .str) (hn : te.get n = some in') (kn : in'.k = .int .i64) (hy : te.get y = some iy) (ky : iy.k = .slice u) (hu : te.get u = some iu) (ku : iu.k = .int .u8) (bu : iu.bytes = 1) : ∃ l : List Rr, cs = [.fz 0 l.length (cl rrc l)] ∧ (RrsOk l ∧ ∀ x ∈ l, x.nm.length ≤ 140737488351232) := by
  obtain ⟨l, h1, h2, h3⟩ := has_sl (f := rrc) (q := fun x => x.da.length ≤ 140737488351232 ∧ x.nm.length ≤ 140737488351232) h ht kt hr fun c hc => has_rrN hc hr kr hs ks hn kn hy ky hu ku bu
  exact ⟨l, h1, ⟨by rw [br] at h2; exact h2, fun x hx => (h3 x hx).1⟩, fun x hx => (h3 x hx).2⟩
end
section
variable {d : Nat} {s n u : TypeId} {is in' iu : TI}
theorem has_zo {t rl r y : TypeId} {it irl ir iy : TI} {cs : List AV} (h : Has te (d + 4) t cs) (ht : te.get t = some it) (kt : it.k = .struct [(0, s), (1, rl)]) (hrl : te.get rl = some irl) (krl : irl.k = .slice r) (hr : te.get r = some ir) (kr : ir.k = .struct [(0, s), (1, n), (2, n), (3, n), (4, y)]) (br : ir.bytes = 64)
    (hs : te.get s = some is) (ks : is.k = .str) (hn : te.get n = some in') (kn : in'.k = .int .i64) (hy : te.get y = some iy) (ky : iy.k = .slice u) (hu : te.get u = some iu) (ku : iu.k = .int .u8) (bu : iu.bytes = 1) : ∃ z : Zo, cs = zoC z ∧ ZoOk z := by
  obtain ⟨_, w, rfl, q, hh⟩ := has_struct h ht kt
  obtain ⟨a1, rfl, b1⟩ := has_str q hs ks
  obtain ⟨_, w, rfl, q, hh⟩ := hh
  obtain ⟨l, rfl, b2, b3⟩ := has_rrsN q hrl krl hr kr br hs ks hn kn hy ky hu ku bu
  cases hh
  exact ⟨⟨a1, l⟩, rfl, b1, b2, b3⟩
theorem has_sv {t il : TypeId} {it iil : TI} {cs : List AV} (h : Has te (d + 4) t cs) (ht : te.get t = some it) (kt : it.k = .struct [(0, n), (1, il)]) (hil : te.get il = some iil) (kil : iil.k = .slice n) (hn : te.get n = some in') (kn : in'.k = .int .i64) (bn : in'.bytes = 8) : ∃ x : Sv, cs = svC x ∧ x.zs.length * 8 ≤ 140737488351232 := by
  obtain ⟨_, w, rfl, q, hh⟩ := has_struct h ht kt
  obtain ⟨a1, rfl, _⟩ := has_int q hn kn
  obtain ⟨_, w, rfl, q, hh⟩ := hh
  obtain ⟨l, rfl, b2, _⟩ := has_intsc q hil kil hn kn bn
  cases hh
  exact ⟨⟨a1, l⟩, rfl, b2⟩
theorem has_tr {t zl z rl r y sl sv il : TypeId} {it izl iz irl ir iy isl isv iil : TI} {cs : List AV} (h : Has te (d + 6) t cs) (ht : te.get t = some it) (kt : it.k = .struct [(0, zl), (1, sl)]) (hzl : te.get zl = some izl) (kzl : izl.k = .slice z) (hz : te.get z = some iz) (kz : iz.k = .struct [(0, s), (1, rl)]) (bz : iz.bytes = 40)
    (hsl : te.get sl = some isl) (ksl : isl.k = .slice sv) (hsv : te.get sv = some isv) (ksv : isv.k = .struct [(0, n), (1, il)]) (bsv : isv.bytes = 32) (hil : te.get il = some iil) (kil : iil.k = .slice n)
    (hrl : te.get rl = some irl) (krl : irl.k = .slice r) (hr : te.get r = some ir) (kr : ir.k = .struct [(0, s), (1, n), (2, n), (3, n), (4, y)]) (br : ir.bytes = 64)
    (hs : te.get s = some is) (ks : is.k = .str) (hn : te.get n = some in') (kn : in'.k = .int .i64) (bn : in'.bytes = 8) (hy : te.get y = some iy) (ky : iy.k = .slice u) (hu : te.get u = some iu) (ku : iu.k = .int .u8) (bu : iu.bytes = 1) : ∃ T : Tr, cs = trC T ∧ TrOk T := by
  obtain ⟨_, w, rfl, q, hh⟩ := has_struct h ht kt
  obtain ⟨a, rfl, a1, a2⟩ := has_sl (f := zoC) (q := ZoOk) q hzl kzl hz fun c hc => has_zo hc hz kz hrl krl hr kr br hs ks hn kn hy ky hu ku bu
  obtain ⟨_, w, rfl, q, hh⟩ := hh
  obtain ⟨b, rfl, b1, b2⟩ := has_sl (f := svC) (q := fun x => x.zs.length * 8 ≤ 140737488351232) q hsl ksl hsv fun c hc => has_sv hc hsv ksv hil kil hn kn bn
  cases hh
  exact ⟨⟨a, b⟩, rfl, by rw [bz] at a1; exact a1, a2, by rw [bsv] at b1; exact b1, b2⟩
end
end Go.Proofs.Ytokccoloholgaaa.Fw


set_option linter.unusedVariables false
set_option linter.unusedSimpArgs false
namespace Go.Proofs.Ytokccoloholgaaa.Fw
open Go.RowKit
section
variable {t : Tr} {a : Int} {m : Msg}
end
end Go.Proofs.Ytokccoloholgaaa.Fw


set_option linter.unusedVariables false
set_option linter.unusedSimpArgs false
namespace Go.Proofs.Ytokccoloholgaaa.Fw
open Go.RowKit
section
variable {t : Tr}
theorem tru_parts {q : Qu} {x : Int × List Rr} (h : truO t q = some x) : canT t = true ∧ canN q.nm = true ∧ 1 ≤ q.ty ∧ q.ty ≤ 65535 ∧ q.cs = 1 ∧ truF t q.ty 9 [] q.nm = some x := by
  unfold truO at h
  split at h
  · rename_i hc
    simp only [Bool.and_eq_true, decide_eq_true_eq] at hc
    exact ⟨hc.1.1.1.1, hc.1.1.1.2, hc.1.1.2, hc.1.2, hc.2, h⟩
  · cases h
theorem truF_can (h : canT t = true) {ty : Int} : ∀ {k : Nat} {acc : List Rr} {n : List UInt8} {x : Int × List Rr}, canN n = true → (∀ r ∈ acc, canN r.nm = true) → truF t ty k acc n = some x → ∀ r ∈ x.2, canN r.nm = true
  | 0, _, _, _, _, _, hx => by cases hx
  | k + 1, acc, n, x, hn, ha, hx => by
    have hzm := zAt_mem (home_ok h hn)
    have hat : ∀ (ty2 : Int), ∀ r ∈ atZ (hZ t n) n ty2, canN r.nm = true := fun ty2 r hr => (same_iff.1 (at_mem hr).2.2).1
    by_cases hend : (atZ (hZ t n) n 5).length = 0 ∨ ty = 5
    · rw [truF_end hend] at hx; cases hx
      intro r hr
      rcases List.mem_append.1 hr with hr | hr
      · exact ha r hr
      · exact hat _ r hr
    · by_cases h8 : acc.length = 8
      · rw [truF_full hend h8] at hx; cases hx
      · rw [truF_on hend h8] at hx
        have hm := getD_mem' (l := atZ (hZ t n) n 5) (i := 0) (by omega)
        refine truF_can h (at_can h hzm (.inr rfl) hm) (fun r hr => ?_) hx
        rcases List.mem_append.1 hr with hr | hr
        · exact ha r hr
        · rw [List.mem_singleton] at hr; rw [hr]; exact hat _ _ hm
end
end Go.Proofs.Ytokccoloholgaaa.Fw


set_option linter.unusedVariables false
set_option linter.unusedSimpArgs false
namespace Go.Proofs.Ytokccoloholgaaa.Fw
open Go.RowKit
end Go.Proofs.Ytokccoloholgaaa.Fw


set_option linter.unusedVariables false
set_option linter.unusedSimpArgs false
namespace Go.Proofs.Ytokccoloholgaaa.Fw
open Go.RowKit
theorem tru_len {t : Tr} {q : Qu} : (truV t q).2.length ≤ 408 := by
  have key : ∀ (k : Nat) (acc : List Rr) (n : List UInt8) (x : Int × List Rr), canT t = true → canN n = true → acc.length ≤ 8 → truF t q.ty k acc n = some x → x.2.length ≤ 408 := by
    intro k
    induction k with
    | zero => intro acc n x _ _ _ h; cases h
    | succ k ih =>
      intro acc n x hcan hn hacc h
      have hhm := home_ok hcan hn
      have hzm : hZ t n ∈ t.zs := zAt_mem hhm
      by_cases hend : (atZ (hZ t n) n 5).length = 0 ∨ q.ty = 5
      · rw [truF_end hend] at h
        cases h
        have := at_small hcan hzm n q.ty
        simp only [List.length_append]; omega
      · by_cases h8 : acc.length = 8
        · rw [truF_full hend h8] at h; cases h
        · rw [truF_on hend h8] at h
          exact ih _ _ x hcan (at_can hcan hzm (.inr rfl) (getD_mem' (l := atZ (hZ t n) n 5) (i := 0) (by omega))) (by rw [List.length_append]; simp; omega) h
  unfold truV
  cases hx : truO t q with
  | none => simp
  | some x =>
    unfold truO at hx
    split at hx
    · rename_i hc
      simp only [Bool.and_eq_true] at hc
      exact key _ _ _ _ hc.1.1.1.1 hc.1.1.1.2 (by simp) hx
    · cases hx
end Go.Proofs.Ytokccoloholgaaa.Fw


set_option linter.unusedVariables false
set_option linter.unusedSimpArgs false
namespace Go.Proofs.Ytokccoloholgaaa.Fw
open Go.RowKit
def covP (r o : Rr) : Bool := decide (r.cs = o.cs) && decide (plN r = plN o)
def covQ (b : List Rr) (r : Rr) : Bool := !b.any (covP r)
def covB (a b : List Rr) : Bool := !a.any (covQ b)
theorem rn_from : ∀ (l : List Rr) (p : List (List Rr) × List Rr), (∀ r ∈ p.1, r ≠ []) → (l.foldl rnA p).1.flatten ++ (l.foldl rnA p).2 = p.1.flatten ++ p.2 ++ l ∧ ∀ r ∈ (l.foldl rnA p).1, r ≠ []
  | [], p, h => ⟨by simp, h⟩
  | r :: l, (D, run), h => by
    have hh : (rnA (D, run) r).1.flatten ++ (rnA (D, run) r).2 = D.flatten ++ run ++ [r] ∧ ∀ x ∈ (rnA (D, run) r).1, x ≠ [] := by
      cases run with
      | nil => exact ⟨by simp [rnA], h⟩
      | cons a t =>
        cases hk : keyE a r with
        | true => rw [rnA_yes hk]; exact ⟨by simp, h⟩
        | false =>
          rw [rnA_no hk]
          refine ⟨by simp, fun x hx => ?_⟩
          rcases List.mem_append.1 hx with hx | hx
          · exact h x hx
          · rw [List.mem_singleton.1 hx]; simp
    obtain ⟨k1, k2⟩ := rn_from l (rnA (D, run) r) hh.2
    exact ⟨by rw [List.foldl_cons, k1, hh.1]; simp, k2⟩
theorem rnD_flat (l : List Rr) : (rnD (rnF l)).flatten = l ∧ ∀ r ∈ rnD (rnF l), r ≠ [] := by
  obtain ⟨h1, h2⟩ := rn_from l ([], []) (fun r hr => by cases hr)
  have e : l.foldl rnA ([], []) = rnF l := rfl
  rw [e] at h1 h2
  rcases hp : rnF l with ⟨D, run⟩
  rw [hp] at h1 h2
  cases run with
  | nil => exact ⟨by simpa [rnD] using h1, h2⟩
  | cons a t =>
    refine ⟨by simpa [rnD] using h1, fun r hr => ?_⟩
    rcases List.mem_append.1 hr with hr | hr
    · exact h2 r hr
    · rw [List.mem_singleton.1 hr]; simp
theorem rnV_run {l : List Rr} {r : List Rr} (h : r ∈ rnV l) : 0 < r.length ∧ (∀ x ∈ r, x ∈ l) ∧ r.length ≤ l.length := by
  cases ho : rnO l with
  | false => rw [rnV_no ho] at h; cases h
  | true =>
    rw [rnV_yes ho] at h
    obtain ⟨h1, h2⟩ := rnD_flat l
    refine ⟨List.length_pos_iff.2 (h2 r h), fun x hx => ?_, ?_⟩
    · rw [← h1]; exact List.mem_flatten.2 ⟨r, h, hx⟩
    · have := (List.sublist_flatten_of_mem h).length_le
      rw [h1] at this; exact this
theorem run_ok {l : List Rr} (hl : RrsOk l) {i : Nat} (h : i < (rnV l).length) : 0 < ((rnV l).getD i default).length ∧ RrsOk ((rnV l).getD i default) ∧ ((rnV l).getD i default).getD 0 default ∈ l := by
  obtain ⟨h1, h2, h3⟩ := rnV_run (getD_mem' (l := rnV l) h)
  refine ⟨h1, ⟨?_, fun x hx => hl.2 x (h2 x hx)⟩, h2 _ (getD_mem' h1)⟩
  have := hl.1
  omega
theorem rnV_len {l : List Rr} : (rnV l).length ≤ l.length := by
  cases ho : rnO l with
  | false => rw [rnV_no ho]; simp
  | true =>
    rw [rnV_yes ho]
    have h := rnF_inv l
    rcases hp : rnF l with ⟨D, run⟩
    rw [hp] at h
    cases run with
    | nil => simp [rnD] at h ⊢; omega
    | cons a t => simp [rnD] at h ⊢; omega
def prO (a b : List Rr) : Bool := sameN (a.getD 0 default).nm (b.getD 0 default).nm && (decide ((a.getD 0 default).ty = (b.getD 0 default).ty) && (decide (a.length = b.length) && (covB a b && covB b a)))
def prA (A B : List (List Rr)) : Bool := decide (A.length = B.length) && (List.range A.length).all fun i => prO (A.getD i default) (B.getD i default)
def auT (t : Tr) (m : Msg) : Bool := decide (m.qs.length = 1) && ((truO t (m.qs.getD 0 default)).isSome && (rnO m.an && (decide (m.h.code = (truV t (m.qs.getD 0 default)).1) && (decide (m.an.length = (truV t (m.qs.getD 0 default)).2.length) && prA (rnV m.an) (rnV (truV t (m.qs.getD 0 default)).2)))))
section
variable {t : Tr} {m : Msg}
theorem au_1 (h : ¬ m.qs.length = 1) : auT t m = false := by rw [auT, decide_eq_false h]; rfl
theorem au_2 (h : (truO t (m.qs.getD 0 default)).isSome = false) : auT t m = false := by rw [auT, h]; simp
theorem au_3 (h : rnO m.an = false) : auT t m = false := by rw [auT, h]; simp
theorem au_4 (h : ¬ m.h.code = (truV t (m.qs.getD 0 default)).1) : auT t m = false := by rw [auT, decide_eq_false h]; simp
theorem au_5 (h : ¬ m.an.length = (truV t (m.qs.getD 0 default)).2.length) : auT t m = false := by rw [auT, decide_eq_false h]; simp
theorem au_6 (h : ¬ (rnV m.an).length = (rnV (truV t (m.qs.getD 0 default)).2).length) : auT t m = false := by rw [auT, prA, decide_eq_false h]; simp
theorem au_7 {i : Nat} (hi : i < (rnV m.an).length) (h : prO ((rnV m.an).getD i default) ((rnV (truV t (m.qs.getD 0 default)).2).getD i default) = false) : auT t m = false := by
  have e : ((List.range (rnV m.an).length).all fun i => prO ((rnV m.an).getD i default) ((rnV (truV t (m.qs.getD 0 default)).2).getD i default)) = false := range_all_no (j := i) hi h
  rw [auT, prA, e]; simp
theorem au_yes (h1 : m.qs.length = 1) (h2 : (truO t (m.qs.getD 0 default)).isSome = true) (h3 : rnO m.an = true) (h4 : m.h.code = (truV t (m.qs.getD 0 default)).1) (h5 : m.an.length = (truV t (m.qs.getD 0 default)).2.length) (h6 : (rnV m.an).length = (rnV (truV t (m.qs.getD 0 default)).2).length)
    (h7 : ∀ j, j < (rnV m.an).length → prO ((rnV m.an).getD j default) ((rnV (truV t (m.qs.getD 0 default)).2).getD j default) = true) : auT t m = true := by
  rw [auT, prA, decide_eq_true h1, h2, h3, decide_eq_true h4, decide_eq_true h5, decide_eq_true h6, range_all_iff.2 h7]; rfl
end
theorem six (b1 : Bool) (p q : Prop) [Decidable p] [Decidable q] (b2 b3 : Bool) : b1 = false ∨ (b1 = true ∧ ¬ p) ∨ (b1 = true ∧ p ∧ ¬ q) ∨ (b1 = true ∧ p ∧ q ∧ b2 = false) ∨ (b1 = true ∧ p ∧ q ∧ b2 = true ∧ b3 = false) ∨ (b1 = true ∧ p ∧ q ∧ b2 = true ∧ b3 = true) := by
  by_cases h1 : p <;> by_cases h2 : q <;> cases b1 <;> cases b2 <;> cases b3 <;> simp [h1, h2]
theorem truF_mem {t : Tr} (h : canT t = true) {ty : Int} : ∀ {k : Nat} {acc : List Rr} {n : List UInt8} {x : Int × List Rr}, canN n = true → (∀ r ∈ acc, ∃ z ∈ t.zs, r ∈ z.rs) → truF t ty k acc n = some x → ∀ r ∈ x.2, ∃ z ∈ t.zs, r ∈ z.rs
  | 0, _, _, _, _, _, hx => by cases hx
  | k + 1, acc, n, x, hn, ha, hx => by
    have hzm := zAt_mem (home_ok h hn)
    have hat : ∀ (ty2 : Int), ∀ r ∈ atZ (hZ t n) n ty2, ∃ z ∈ t.zs, r ∈ z.rs := fun ty2 r hr => ⟨hZ t n, hzm, (List.mem_filter.1 hr).1⟩
    by_cases hend : (atZ (hZ t n) n 5).length = 0 ∨ ty = 5
    · rw [truF_end hend] at hx; cases hx
      intro r hr
      rcases List.mem_append.1 hr with hr | hr
      · exact ha r hr
      · exact hat _ r hr
    · by_cases h8 : acc.length = 8
      · rw [truF_full hend h8] at hx; cases hx
      · rw [truF_on hend h8] at hx
        have hm := getD_mem' (l := atZ (hZ t n) n 5) (i := 0) (by omega)
        refine truF_mem h (at_can h hzm (.inr rfl) hm) (fun r hr => ?_) hx
        rcases List.mem_append.1 hr with hr | hr
        · exact ha r hr
        · rw [List.mem_singleton] at hr; rw [hr]; exact hat _ _ hm
theorem truV_ok {t : Tr} {q : Qu} (ht : TrOk t) : RrsOk (truV t q).2 ∧ ∀ x ∈ (truV t q).2, x.nm.length ≤ 140737488351232 := by
  have hl := tru_len (t := t) (q := q)
  have hm : ∀ r ∈ (truV t q).2, ∃ z ∈ t.zs, r ∈ z.rs := by
    cases hx : truO t q with
    | none => rw [(tru_none hx).1]; intro r hr; cases hr
    | some x =>
      rw [(tru_some hx).1]
      obtain ⟨h1, h2, _, _, _, hF⟩ := tru_parts hx
      exact truF_mem h1 h2 (fun r hr => by cases hr) hF
  refine ⟨⟨by omega, fun r hr => ?_⟩, fun r hr => ?_⟩
  · obtain ⟨z, hz, hzr⟩ := hm r hr
    exact (ht.2.1 z hz).2.1.2 r hzr
  · obtain ⟨z, hz, hzr⟩ := hm r hr
    exact (ht.2.1 z hz).2.2 r hzr
set_option maxRecDepth 20000 in
set_option maxHeartbeats 2000000 in
theorem c_audit_covers_1_1 (r o : Rr) (lv : Nat) (hr : r.da.length ≤ 140737488351232) (ho : o.da.length ≤ 140737488351232) : AC Try.prog 100 [.agg (rrc o), .fp lv (rrc r)] emp (Ret (tf (covP r o))) := by
 refine AC.intro te_ok (fn := Try.f100) ⟨Try.func100, rfl, rfl⟩ (Nat.le_of_ble_eq_true rfl) ?_
 refine AWp.seq ?_
 refine AWp.region ?_
 refine AOps.cons rfl rfl (q_box 100) ?_
 refine AOps.cons rfl rfl (q_assign) ?_
 refine AOps.nil ?_
 refine AWp.seq ?_
 by_cases h1 : r.cs = o.cs
 ·
  refine AWp.draws [⟨0, [1], [], some 4, _, none⟩,
      ⟨1, [4], [], some 5, _, none⟩,
      ⟨2, [2], [100], some 6, _, none⟩,
      ⟨3, [6], [100], some 7, _, none⟩,
      ⟨4, [5, 7], [], some 8, _, none⟩,
      ⟨5, [8], [], some 9, _, none⟩,
      ⟨6, [1, 9], [], some 10, _, none⟩,
      ⟨7, [9, 10], [], some 11, _, none⟩,
      ⟨8, [2, 9], [100], some 12, _, none⟩,
      ⟨9, [9, 12], [], some 13, _, none⟩,
      ⟨10, [9, 11, 13], [], some 14, _, none⟩,
      ⟨11, [9, 14], [], some 15, _, none⟩,
      ⟨12, [15], [], some 3, _, none⟩]
   [⟨0, [1], [], some 4, .any, none⟩,
       ⟨1, [4], [], some 5, .any, none⟩,
       ⟨2, [2], [100], some 6, .any, none⟩,
       ⟨3, [6], [100], some 7, .any, none⟩,
       ⟨4, [5, 7], [], some 8, .any, none⟩,
       ⟨5, [8], [], some 9, .any, none⟩,
       ⟨6, [1, 9], [], some 10, .any, none⟩,
       ⟨7, [9, 10], [], some 11, .any, none⟩,
       ⟨8, [2, 9], [100], some 12, .any, none⟩,
       ⟨9, [9, 12], [], some 13, .any, none⟩,
       ⟨10, [9, 11, 13], [], some 14, .any, none⟩,
       ⟨11, [9, 14], [], some 15, .any, none⟩,
       ⟨12, [15], [], some 3, .any, none⟩]
   mixed_ok rfl (by kernel_rfl) ⟨DS.ok_over fun s0 => OpAt.go rfl rfl (q_fa),
       DS.ok_over fun s0 => OpAt.go rfl rfl (q_load),
       DS.ok_over fun s0 => OpAt.go rfl rfl (q_fa),
       DS.ok_over fun s0 => OpAt.go rfl rfl (q_load),
       DS.ok_over fun s0 => OpAt.go rfl rfl ((OpOk.dec_t (q_eql) (h1))),
       DS.ok_over fun s0 => OpAt.go rfl rfl (q_move),
       DS.ok_over fun s0 => OpAt.ggo rfl rfl rfl rfl rfl (q_load),
       DS.ok_over fun s0 => OpAt.ggo rfl rfl rfl rfl rfl (q_call (lv) (hc := (c_audit_plain r hr))),
       DS.ok_over fun s0 => OpAt.ggo rfl rfl rfl rfl rfl (q_load),
       DS.ok_over fun s0 => OpAt.ggo rfl rfl rfl rfl rfl (q_call (lv) (hc := (c_audit_plain o ho))),
       DS.ok_over fun s0 => OpAt.ggo rfl rfl rfl rfl rfl (q_seql),
       DS.ok_over fun s0 => OpAt.go rfl rfl (q_pick),
       DS.ok_over fun s0 => OpAt.go rfl rfl (q_assign), trivial⟩ ?_
  dsimp only [final, DS.upd, AS.seto]
  refine AWp.ret ?_
  show Fin te Try.f100 _ _
  refine q_ret (0) [_] [_] ?_
  exact congrArg tf (by rw [covP, decide_eq_true h1, Bool.true_and])
 ·
  refine AWp.draws [⟨0, [1], [], some 4, _, none⟩,
      ⟨1, [4], [], some 5, _, none⟩,
      ⟨2, [2], [100], some 6, _, none⟩,
      ⟨3, [6], [100], some 7, _, none⟩,
      ⟨4, [5, 7], [], some 8, _, none⟩,
      ⟨5, [8], [], some 9, _, none⟩,
      ⟨6, [9], [], some 10, .v undef, none⟩,
      ⟨7, [9], [], some 11, .v undef, none⟩,
      ⟨8, [9], [], some 12, .v undef, none⟩,
      ⟨9, [9], [], some 13, .v undef, none⟩,
      ⟨10, [9], [], some 14, .v undef, none⟩,
      ⟨11, [9, 14], [], some 15, _, none⟩,
      ⟨12, [15], [], some 3, _, none⟩]
   [⟨0, [1], [], some 4, .any, none⟩,
       ⟨1, [4], [], some 5, .any, none⟩,
       ⟨2, [2], [100], some 6, .any, none⟩,
       ⟨3, [6], [100], some 7, .any, none⟩,
       ⟨4, [5, 7], [], some 8, .any, none⟩,
       ⟨5, [8], [], some 9, .any, none⟩,
       ⟨6, [9], [], some 10, .any, none⟩,
       ⟨7, [9], [], some 11, .any, none⟩,
       ⟨8, [9], [], some 12, .any, none⟩,
       ⟨9, [9], [], some 13, .any, none⟩,
       ⟨10, [9], [], some 14, .any, none⟩,
       ⟨11, [9, 14], [], some 15, .any, none⟩,
       ⟨12, [15], [], some 3, .any, none⟩]
   mixed_ok rfl (by kernel_rfl) ⟨DS.ok_over fun s0 => OpAt.go rfl rfl (q_fa),
       DS.ok_over fun s0 => OpAt.go rfl rfl (q_load),
       DS.ok_over fun s0 => OpAt.go rfl rfl (q_fa),
       DS.ok_over fun s0 => OpAt.go rfl rfl (q_load),
       DS.ok_over fun s0 => OpAt.go rfl rfl ((OpOk.dec_f (q_eql) (h1))),
       DS.ok_over fun s0 => OpAt.go rfl rfl (q_move),
       DS.ok_over fun s0 => OpAt.gskip rfl rfl rfl rfl rfl rfl rfl rfl,
       DS.ok_over fun s0 => OpAt.gskip rfl rfl rfl rfl rfl rfl rfl rfl,
       DS.ok_over fun s0 => OpAt.gskip rfl rfl rfl rfl rfl rfl rfl rfl,
       DS.ok_over fun s0 => OpAt.gskip rfl rfl rfl rfl rfl rfl rfl rfl,
       DS.ok_over fun s0 => OpAt.gskip rfl rfl rfl rfl rfl rfl rfl rfl,
       DS.ok_over fun s0 => OpAt.go rfl rfl (q_pick),
       DS.ok_over fun s0 => OpAt.go rfl rfl (q_assign), trivial⟩ ?_
  dsimp only [final, DS.upd, AS.seto]
  refine AWp.ret ?_
  show Fin te Try.f100 _ _
  refine q_ret (0) [_] [_] ?_
  exact congrArg tf (by rw [covP, decide_eq_false h1, Bool.false_and])
set_option maxRecDepth 20000 in
set_option maxHeartbeats 2000000 in
theorem c_audit_covers_1 (b : List Rr) (r : Rr) (lv lb : Nat) (hb : RrsOk b) (hr : r.da.length ≤ 140737488351232) (hl : lb ≤ lv) : AC Try.prog 99 [.agg (rrc r), .fp lv [.fz lb b.length (cl rrc b)]] emp (Ret (tf (covQ b r))) := by
 have hbl := hb.1
 refine AC.intro te_ok (fn := Try.f99) ⟨Try.func99, rfl, rfl⟩ (Nat.le_of_ble_eq_true rfl) ?_
 refine AWp.seq ?_
 refine AWp.region ?_
 refine AOps.cons rfl rfl (q_box 100) ?_
 refine AOps.cons rfl rfl (q_assign) ?_
 refine AOps.nil ?_
 refine AWp.seq ?_
 refine AWp.region ?_
 refine AOps.cons rfl rfl (q_load) ?_
 refine AOps.cons rfl rfl (q_makeFunc [] [_]) ?_
 refine AOps.cons rfl rfl (q_call (lv) (hc := (c_ContainsFunc_rr b lb 0 (lv + 1) [.fp (lv + 1) (rrc r)] (covP r) (by omega) (by simp [AV.oks, AV.ok, Nat.ble_eq] <;> omega) (fun o ho => c_audit_covers_1_1 r o (lv + 1) hr (hb.2 o ho))))) ?_
 refine AOps.cons rfl rfl (q_not) ?_
 refine AOps.cons rfl rfl (q_assign) ?_
 refine AOps.nil ?_
 refine AWp.ret ?_
 show Fin te Try.f99 _ _
 refine q_ret (0) [_] [_] ?_
 rfl
set_option maxRecDepth 20000 in
set_option maxHeartbeats 2000000 in
theorem c_audit_covers (a b : List Rr) (la lb : Nat) (ha : RrsOk a) (hb : RrsOk b) : AC Try.prog 69 [.fz la a.length (cl rrc a), .fz lb b.length (cl rrc b)] emp (Ret (tf (covB a b))) := by
 have hal := ha.1
 refine AC.intro te_ok (fn := Try.f69) ⟨Try.func69, rfl, rfl⟩ (Nat.le_of_ble_eq_true rfl) ?_
 refine AWp.seq ?_
 refine AWp.region ?_
 refine AOps.cons rfl rfl (q_box 100) ?_
 refine AOps.cons rfl rfl (q_assign) ?_
 refine AOps.nil ?_
 refine AWp.seq ?_
 refine AWp.region ?_
 refine AOps.cons rfl rfl (q_move) ?_
 refine AOps.cons rfl rfl (q_makeFunc [] [_]) ?_
 refine AOps.cons rfl rfl (q_call (la + lb) (hA := by exact ⟨fv_okb rfl (ble_of (by omega)), fv_fn trivial ⟨fv_ptrb rfl .box (by simp [AV.oks, AV.ok, Nat.ble_eq]) rfl rfl, trivial⟩, trivial⟩) (hc := (c_ContainsFunc_rr a la 0 (la + lb + 1) [.fp (la + lb + 1) [.fz lb b.length (cl rrc b)]] (covQ b) (by omega) (by simp [AV.oks, AV.ok, Nat.ble_eq] <;> omega) (fun r hr => c_audit_covers_1 b r (la + lb + 1) lb hb (ha.2 r hr) (by omega))))) ?_
 refine AOps.cons rfl rfl (q_not) ?_
 refine AOps.cons rfl rfl (q_assign) ?_
 refine AOps.nil ?_
 refine AWp.ret ?_
 show Fin te Try.f69 _ _
 refine q_ret (0) [_] [_] ?_
 rfl
set_option maxRecDepth 20000 in
set_option maxHeartbeats 2000000 in
theorem c_audit_True (t : Tr) (m : Msg) (ht : TrOk t) (hm : MsgOk m) (hnm : NmOk m) : AC Try.prog 28 [.agg (trC t), .agg (msgC m)] emp (Ret (tf (auT t m))) := by
 have hvo := truV_ok (q := (m.qs.getD 0 default)) ht
 have han := hm.2.1
 have hvl := tru_len (t := t) (q := (m.qs.getD 0 default))
 have hal := han.1
 have hr1 := rnV_len (l := m.an)
 have hr2 := rnV_len (l := (truV t (m.qs.getD 0 default)).2)
 refine AC.intro te_ok (fn := Try.f28) ⟨Try.func28, rfl, rfl⟩ (Nat.le_of_ble_eq_true rfl) ?_
 refine AWp.seq ?_
 refine AWp.region ?_
 refine AOps.cons rfl rfl (q_box 100) ?_
 refine AOps.cons rfl rfl (q_box 101) ?_
 refine AOps.cons rfl rfl (q_assign) ?_
 refine AOps.nil ?_
 refine AWp.seq ?_
 refine AWp.seq ?_
 refine AWp.region ?_
 refine AOps.cons rfl rfl (q_fa) ?_
 refine AOps.cons rfl rfl (q_load) ?_
 refine AOps.cons rfl rfl (q_len) ?_
 refine AOps.dec rfl rfl (q_neq) (fun h1_3 => ?_) (fun h1_3 => ?_)
 ·
  refine AOps.nil ?_
  refine AWp.cond_t rfl ?_
  refine AWp.seq ?_
  refine AWp.region ?_
  refine AOps.cons rfl rfl (q_assign) ?_
  refine AOps.nil ?_
  refine AWp.ret ?_
  show Fin te Try.f28 _ _
  refine q_ret (0) [_] [_] ?_
  rw [au_1 (by omega)]; rfl
 ·
  refine AOps.nil ?_
  refine AWp.cond_f rfl ?_
  refine AWp.skip ?_
  refine AWp.seq ?_
  have hq := hnm.1 _ (getD_mem' (l := m.qs) (i := 0) (by omega))
  refine AWp.draws [⟨0, [2], [100], some 19, _, none⟩,
      ⟨1, [3], [101], some 20, _, none⟩,
      ⟨2, [20], [101], some 21, _, none⟩,
      ⟨3, [21], [], some 22, _, none⟩,
      ⟨4, [22], [], some 23, _, none⟩,
      ⟨5, [19, 23], [], some 24, _, none⟩,
      ⟨6, [24], [], some 18, _, none⟩,
      ⟨7, [18], [], some 25, _, none⟩,
      ⟨8, [18], [], some 26, _, none⟩,
      ⟨9, [], [409], some 5, _, some (409, _)⟩,
      ⟨10, [5, 25], [409], none, _, some (409, _)⟩,
      ⟨11, [26], [], some 6, _, none⟩]
   [⟨0, [2], [100], some 19, .any, none⟩,
       ⟨1, [3], [101], some 20, .any, none⟩,
       ⟨2, [20], [101], some 21, .any, none⟩,
       ⟨3, [21], [], some 22, .any, none⟩,
       ⟨4, [22], [], some 23, .any, none⟩,
       ⟨5, [19, 23], [], some 24, .any, none⟩,
       ⟨6, [24], [], some 18, .any, none⟩,
       ⟨7, [18], [], some 25, .any, none⟩,
       ⟨8, [18], [], some 26, .any, none⟩,
       ⟨9, [], [409], some 5, .any, some (409, .box [])⟩,
       ⟨10, [5, 25], [409], none, .any, some (409, .box [])⟩,
       ⟨11, [26], [], some 6, .any, none⟩]
   mixed_ok rfl (by kernel_rfl) ⟨DS.ok_over fun s0 => OpAt.go rfl rfl (q_load),
       DS.ok_over fun s0 => OpAt.go rfl rfl (q_fa),
       DS.ok_over fun s0 => OpAt.go rfl rfl (q_load),
       DS.ok_over fun s0 => OpAt.go rfl rfl (q_ix),
       DS.ok_over fun s0 => OpAt.go rfl rfl (q_load),
       DS.ok_over fun s0 => OpAt.go rfl rfl (q_call (0) (hc := (c_zone_Truth t (m.qs.getD 0 default) ht hq))),
       DS.ok_over fun s0 => OpAt.go rfl rfl (q_move),
       DS.ok_over fun s0 => OpAt.go rfl rfl (q_extract),
       DS.ok_over fun s0 => OpAt.go rfl rfl (q_extract),
       DS.ok_over fun s0 => OpAt.go rfl rfl (q_alloc 409),
       DS.ok_over fun s0 => OpAt.go rfl rfl (q_store),
       DS.ok_over fun s0 => OpAt.go rfl rfl (q_assign), trivial⟩ ?_
  dsimp only [final, DS.upd, AS.seto]
  refine AWp.seq ?_
  refine AWp.region ?_
  refine AOps.cons rfl rfl (q_fa) ?_
  refine AOps.cons rfl rfl (q_load) ?_
  refine AOps.cons rfl rfl (q_call (0) (hc := (c_audit_runs m.an han (fun x hx => hnm.2 x (by simp only [Msg.rrs, List.mem_append]; exact .inl (.inl hx)))))) ?_
  refine AOps.cons rfl rfl (q_move) ?_
  refine AOps.cons rfl rfl (q_extract) ?_
  refine AOps.bool rfl rfl (q_extract) (fun h4_5 => ?_) (fun h4_5 => ?_)
  ·
   refine AOps.cons rfl rfl (q_assign) ?_
   refine AOps.cons rfl rfl (q_assign) ?_
   refine AOps.nil ?_
   refine AWp.seq ?_
   refine AWp.region ?_
   refine AOps.cons rfl rfl (q_fa) ?_
   refine AOps.cons rfl rfl (q_load) ?_
   refine AOps.cons rfl rfl (q_call (0) (hc := (c_audit_runs (truV t (m.qs.getD 0 default)).2 hvo.1 hvo.2))) ?_
   refine AOps.cons rfl rfl (q_move) ?_
   refine AOps.cons rfl rfl (q_extract) ?_
   refine AOps.cons rfl rfl (q_extract) ?_
   refine AOps.cons rfl rfl (q_assign) ?_
   refine AOps.cons rfl rfl (q_assign) ?_
   refine AOps.nil ?_
   refine AWp.seq ?_
   refine AWp.seq ?_
   refine AWp.region ?_
   refine AOps.bool rfl rfl (q_move) (fun h6_0 => ?_) (fun h6_0 => ?_)
   ·
    refine AOps.cons rfl rfl (q_not) ?_
    refine AOps.cons rfl rfl (q_move) ?_
    refine AOps.gcons rfl rfl rfl rfl rfl (q_move) ?_
    refine AOps.gcons rfl rfl rfl rfl rfl (q_not) ?_
    refine AOps.cons rfl rfl (q_pick) ?_
    refine AOps.cons rfl rfl (q_move) ?_
    refine AOps.gcons rfl rfl rfl rfl rfl (q_fa) ?_
    refine AOps.gcons rfl rfl rfl rfl rfl (q_fa) ?_
    refine AOps.gcons rfl rfl rfl rfl rfl (q_load) ?_
    refine AOps.gcons rfl rfl rfl rfl rfl (q_fa) ?_
    refine AOps.gcons rfl rfl rfl rfl rfl (q_load) ?_
    refine AOps.gdec rfl rfl rfl rfl rfl (q_neq) (fun h6_12 => ?_) (fun h6_12 => ?_)
    ·
     refine AOps.cons rfl rfl (q_pick) ?_
     refine AOps.cons rfl rfl (q_move) ?_
     refine AOps.gskip rfl rfl rfl rfl rfl rfl rfl rfl ?_
     refine AOps.gskip rfl rfl rfl rfl rfl rfl rfl rfl ?_
     refine AOps.gskip rfl rfl rfl rfl rfl rfl rfl rfl ?_
     refine AOps.gskip rfl rfl rfl rfl rfl rfl rfl rfl ?_
     refine AOps.gskip rfl rfl rfl rfl rfl rfl rfl rfl ?_
     refine AOps.gskip rfl rfl rfl rfl rfl rfl rfl rfl ?_
     refine AOps.gskip rfl rfl rfl rfl rfl rfl rfl rfl ?_
     refine AOps.cons rfl rfl (q_pick) ?_
     refine AOps.cons rfl rfl (q_move) ?_
     refine AOps.gskip rfl rfl rfl rfl rfl rfl rfl rfl ?_
     refine AOps.gskip rfl rfl rfl rfl rfl rfl rfl rfl ?_
     refine AOps.gskip rfl rfl rfl rfl rfl rfl rfl rfl ?_
     refine AOps.gskip rfl rfl rfl rfl rfl rfl rfl rfl ?_
     refine AOps.gskip rfl rfl rfl rfl rfl rfl rfl rfl ?_
     refine AOps.cons rfl rfl (q_pick) ?_
     refine AOps.nil ?_
     refine AWp.cond_t rfl ?_
     refine AWp.seq ?_
     refine AWp.region ?_
     refine AOps.cons rfl rfl (q_assign) ?_
     refine AOps.nil ?_
     refine AWp.ret ?_
     show Fin te Try.f28 _ _
     refine q_ret (0) [_] [_] ?_
     rw [au_4 h6_12]; rfl
    ·
     refine AOps.cons rfl rfl (q_pick) ?_
     refine AOps.cons rfl rfl (q_move) ?_
     refine AOps.gcons rfl rfl rfl rfl rfl (q_fa) ?_
     refine AOps.gcons rfl rfl rfl rfl rfl (q_load) ?_
     refine AOps.gcons rfl rfl rfl rfl rfl (q_len) ?_
     refine AOps.gcons rfl rfl rfl rfl rfl (q_fa) ?_
     refine AOps.gcons rfl rfl rfl rfl rfl (q_load) ?_
     refine AOps.gcons rfl rfl rfl rfl rfl (q_len) ?_
     refine AOps.gdec rfl rfl rfl rfl rfl (q_neq) (fun h6_21 => ?_) (fun h6_21 => ?_)
     ·
      refine AOps.cons rfl rfl (q_pick) ?_
      refine AOps.cons rfl rfl (q_move) ?_
      refine AOps.gskip rfl rfl rfl rfl rfl rfl rfl rfl ?_
      refine AOps.gskip rfl rfl rfl rfl rfl rfl rfl rfl ?_
      refine AOps.gskip rfl rfl rfl rfl rfl rfl rfl rfl ?_
      refine AOps.gskip rfl rfl rfl rfl rfl rfl rfl rfl ?_
      refine AOps.gskip rfl rfl rfl rfl rfl rfl rfl rfl ?_
      refine AOps.cons rfl rfl (q_pick) ?_
      refine AOps.nil ?_
      refine AWp.cond_t rfl ?_
      refine AWp.seq ?_
      refine AWp.region ?_
      refine AOps.cons rfl rfl (q_assign) ?_
      refine AOps.nil ?_
      refine AWp.ret ?_
      show Fin te Try.f28 _ _
      refine q_ret (0) [_] [_] ?_
      rw [au_5 (by omega)]; rfl
     ·
      refine AOps.cons rfl rfl (q_pick) ?_
      refine AOps.cons rfl rfl (q_move) ?_
      refine AOps.gcons rfl rfl rfl rfl rfl (q_move) ?_
      refine AOps.gcons rfl rfl rfl rfl rfl (q_len) ?_
      refine AOps.gcons rfl rfl rfl rfl rfl (q_move) ?_
      refine AOps.gcons rfl rfl rfl rfl rfl (q_len) ?_
      refine AOps.gdec rfl rfl rfl rfl rfl (q_neq) (fun h6_28 => ?_) (fun h6_28 => ?_)
      ·
       refine AOps.cons rfl rfl (q_pick) ?_
       refine AOps.nil ?_
       refine AWp.cond_t rfl ?_
       refine AWp.seq ?_
       refine AWp.region ?_
       refine AOps.cons rfl rfl (q_assign) ?_
       refine AOps.nil ?_
       refine AWp.ret ?_
       show Fin te Try.f28 _ _
       refine q_ret (0) [_] [_] ?_
       rw [au_6 (by omega)]; rfl
      ·
       refine AOps.cons rfl rfl (q_pick) ?_
       refine AOps.nil ?_
       refine AWp.cond_f rfl ?_
       refine AWp.skip ?_
       refine AWp.seq ?_
       refine AWp.seq ?_
       refine AWp.region ?_
       refine AOps.cons rfl rfl (q_move) ?_
       refine AOps.cons rfl rfl (q_len) ?_
       refine AOps.cons rfl rfl (q_move) ?_
       refine AOps.nil ?_
       refine AWp.block ?_
       refine AWp.loopR (α := Nat) [4, 11, 12, 13, 71, 72, 73, 74, 75, 76, 77, 78, 79, 80, 81, 82, 83, 84, 85, 86, 87, 88, 89, 90, 91, 92, 93, 94, 95, 96, 97, 98, 99, 100, 101, 102, 103, 104, 105, 106, 107, 108, 109, 110, 111, 112, 113, 114, 115, 116, 117, 118, 119, 120, 121, 122, 123, 124, 125, 126, 127, 128, 129, 130, 131, 132, 133, 134, 135, 136] (fun i => [(71, i64 i)]) (fun i => []) (fun i => i ≤ (rnV m.an).length ∧ ∀ j, j < i → prO ((rnV m.an).getD j default) ((rnV (truV t (m.qs.getD 0 default)).2).getD j default) = true) (fun i => (rnV m.an).length - i) 0 ?_ (Back.mk' (HasT.cons HasT.nil) HasH.nil) ?_
       ·
        exact ⟨Nat.zero_le _, fun j hj => absurd hj (Nat.not_lt_zero j)⟩
       ·
        rintro i ⟨hi, hj⟩
        refine AWp.seq ?_
        refine AWp.region ?_
        refine AOps.dec rfl rfl (q_lss) (fun h9_0 => ?_) (fun h9_0 => ?_)
        ·
         refine AOps.nil ?_
         refine AWp.seq ?_
         refine AWp.cond_t rfl ?_
         refine AWp.skip ?_
         refine AWp.seq ?_
         refine AWp.block ?_
         refine AWp.seq ?_
         refine AWp.region ?_
         refine AOps.cons rfl rfl (q_move) ?_
         refine AOps.cons rfl rfl (q_assign) ?_
         refine AOps.nil ?_
         refine AWp.seq ?_
         obtain ⟨a1, a2, a3⟩ := run_ok han (i := i) (by omega)
         obtain ⟨b1, b2, b3⟩ := run_ok hvo.1 (i := i) (by omega)
         have a4 := hnm.2 _ (show (((rnV m.an).getD i default).getD 0 default) ∈ m.rrs by simp only [Msg.rrs, List.mem_append]; exact .inl (.inl a3))
         have b4 := hvo.2 _ b3
         refine AWp.draws [⟨0, [7], [], some 74, _, none⟩,
             ⟨1, [11], [], some 75, _, none⟩,
             ⟨2, [74, 75], [], some 76, _, none⟩,
             ⟨3, [76], [], some 77, _, none⟩,
             ⟨4, [77], [], some 78, _, none⟩,
             ⟨5, [78], [], some 79, _, none⟩,
             ⟨6, [9], [], some 80, _, none⟩,
             ⟨7, [11], [], some 81, _, none⟩,
             ⟨8, [80, 81], [], some 82, _, none⟩,
             ⟨9, [82], [], some 83, _, none⟩,
             ⟨10, [83], [], some 84, _, none⟩,
             ⟨11, [84], [], some 85, _, none⟩,
             ⟨12, [], [1212], some 12, _, some (1212, _)⟩,
             ⟨13, [], [1213], some 13, _, some (1213, _)⟩,
             ⟨14, [12, 79], [1212], none, _, some (1212, _)⟩,
             ⟨15, [13, 85], [1213], none, _, some (1213, _)⟩]
          [⟨0, [7], [], some 74, .any, none⟩,
              ⟨1, [11], [], some 75, .any, none⟩,
              ⟨2, [74, 75], [], some 76, .any, none⟩,
              ⟨3, [76], [], some 77, .any, none⟩,
              ⟨4, [77], [], some 78, .any, none⟩,
              ⟨5, [78], [], some 79, .any, none⟩,
              ⟨6, [9], [], some 80, .any, none⟩,
              ⟨7, [11], [], some 81, .any, none⟩,
              ⟨8, [80, 81], [], some 82, .any, none⟩,
              ⟨9, [82], [], some 83, .any, none⟩,
              ⟨10, [83], [], some 84, .any, none⟩,
              ⟨11, [84], [], some 85, .any, none⟩,
              ⟨12, [], [1212], some 12, .any, some (1212, .box [])⟩,
              ⟨13, [], [1213], some 13, .any, some (1213, .box [])⟩,
              ⟨14, [12, 79], [1212], none, .any, some (1212, .box [])⟩,
              ⟨15, [13, 85], [1213], none, .any, some (1213, .box [])⟩]
          mixed_ok rfl (by kernel_rfl) ⟨DS.ok_over fun s0 => OpAt.go rfl rfl (q_move),
              DS.ok_over fun s0 => OpAt.go rfl rfl (q_move),
              DS.ok_over fun s0 => OpAt.go rfl rfl (q_ix),
              DS.ok_over fun s0 => OpAt.go rfl rfl (q_load),
              DS.ok_over fun s0 => OpAt.go rfl rfl (q_ix (h1 := by show ((0 : Int)) < (((rnV m.an).getD i default).length : Int); omega)),
              DS.ok_over fun s0 => OpAt.go rfl rfl (q_load),
              DS.ok_over fun s0 => OpAt.go rfl rfl (q_move),
              DS.ok_over fun s0 => OpAt.go rfl rfl (q_move),
              DS.ok_over fun s0 => OpAt.go rfl rfl (q_ix),
              DS.ok_over fun s0 => OpAt.go rfl rfl (q_load),
              DS.ok_over fun s0 => OpAt.go rfl rfl (q_ix (h1 := by show ((0 : Int)) < (((rnV (truV t (m.qs.getD 0 default)).2).getD i default).length : Int); omega)),
              DS.ok_over fun s0 => OpAt.go rfl rfl (q_load),
              DS.ok_over fun s0 => OpAt.go rfl rfl (q_alloc 1212),
              DS.ok_over fun s0 => OpAt.go rfl rfl (q_alloc 1213),
              DS.ok_over fun s0 => OpAt.go rfl rfl (q_store),
              DS.ok_over fun s0 => OpAt.go rfl rfl (q_store), trivial⟩ ?_
         dsimp only [final, DS.upd, AS.seto]
         refine AWp.seq ?_
         rcases six (sameN (((rnV m.an).getD i default).getD 0 default).nm (((rnV (truV t (m.qs.getD 0 default)).2).getD i default).getD 0 default).nm) ((((rnV m.an).getD i default).getD 0 default).ty = (((rnV (truV t (m.qs.getD 0 default)).2).getD i default).getD 0 default).ty) (((rnV m.an).getD i default).length = ((rnV (truV t (m.qs.getD 0 default)).2).getD i default).length) (covB ((rnV m.an).getD i default) ((rnV (truV t (m.qs.getD 0 default)).2).getD i default)) (covB ((rnV (truV t (m.qs.getD 0 default)).2).getD i default) ((rnV m.an).getD i default)) with h1 | ⟨h1, h2⟩ | ⟨h1, h2, h3⟩ | ⟨h1, h2, h3, h4⟩ | ⟨h1, h2, h3, h4, h5⟩ | ⟨h1, h2, h3, h4, h5⟩
         ·
          refine AWp.draws (⟨0, [12], [1212], some 86, _, none⟩ ::
              ⟨1, [86], [1212], some 87, _, none⟩ ::
              ⟨2, [13], [1213], some 88, _, none⟩ ::
              ⟨3, [88], [1213], some 89, _, none⟩ ::
              ⟨4, [87, 89], [], some 90, _, none⟩ ::
              ⟨5, [90], [], some 91, _, none⟩ ::
              ⟨6, [91], [], some 92, _, none⟩ ::
              ⟨7, [92], [], some 93, .v undef, none⟩ ::
              ⟨8, [92], [], some 94, .v undef, none⟩ ::
              ⟨9, [92], [], some 95, .v undef, none⟩ ::
              ⟨10, [92], [], some 96, .v undef, none⟩ ::
              ⟨11, [92], [], some 97, .v undef, none⟩ ::
              ⟨12, [92, 97], [], some 98, _, none⟩ ::
              ⟨13, [98], [], some 99, _, none⟩ ::
              ⟨14, [99], [], some 100, .v undef, none⟩ ::
              ⟨15, [99], [], some 101, .v undef, none⟩ ::
              ⟨16, [99], [], some 102, .v undef, none⟩ ::
              ⟨17, [99], [], some 103, .v undef, none⟩ ::
              ⟨18, [99], [], some 104, .v undef, none⟩ ::
              ⟨19, [99], [], some 105, .v undef, none⟩ ::
              ⟨20, [99], [], some 106, .v undef, none⟩ ::
              ⟨21, [99], [], some 107, .v undef, none⟩ ::
              ⟨22, [99], [], some 108, .v undef, none⟩ ::
              ⟨23, [99], [], some 109, .v undef, none⟩ ::
              ⟨24, [99], [], some 110, .v undef, none⟩ ::
              ⟨25, [99, 110], [], some 111, _, none⟩ ::
              ⟨26, [111], [], some 112, _, none⟩ ::
              ⟨27, [112], [], some 113, .v undef, none⟩ ::
              ⟨28, [112], [], some 114, .v undef, none⟩ ::
              ⟨29, [112], [], some 115, .v undef, none⟩ ::
              ⟨30, [112], [], some 116, .v undef, none⟩ ::
              ⟨31, [112], [], some 117, .v undef, none⟩ ::
              ⟨32, [112], [], some 118, .v undef, none⟩ ::
              ⟨33, [112], [], some 119, .v undef, none⟩ ::
              ⟨34, [112], [], some 120, .v undef, none⟩ ::
              ⟨35, [112], [], some 121, .v undef, none⟩ ::
              ⟨36, [112], [], some 122, .v undef, none⟩ ::
              ⟨37, [112, 122], [], some 123, _, none⟩ ::
              ⟨38, [123], [], some 124, _, none⟩ ::
              ⟨39, [124], [], some 125, .v undef, none⟩ ::
              ⟨40, [124], [], some 126, .v undef, none⟩ ::
              ⟨41, [124], [], some 127, .v undef, none⟩ ::
              ⟨42, [124], [], some 128, .v undef, none⟩ ::
              ⟨43, [124], [], some 129, .v undef, none⟩ ::
              ⟨44, [124], [], some 130, .v undef, none⟩ ::
              ⟨45, [124], [], some 131, .v undef, none⟩ ::
              ⟨46, [124], [], some 132, .v undef, none⟩ ::
              ⟨47, [124], [], some 133, .v undef, none⟩ ::
              ⟨48, [124], [], some 134, .v undef, none⟩ ::
              ⟨49, [124, 134], [], some 135, _, none⟩ ::
              [])
           (⟨0, [12], [1212], some 86, .any, none⟩ ::
               ⟨1, [86], [1212], some 87, .any, none⟩ ::
               ⟨2, [13], [1213], some 88, .any, none⟩ ::
               ⟨3, [88], [1213], some 89, .any, none⟩ ::
               ⟨4, [87, 89], [], some 90, .any, none⟩ ::
               ⟨5, [90], [], some 91, .any, none⟩ ::
               ⟨6, [91], [], some 92, .any, none⟩ ::
               ⟨7, [92], [], some 93, .any, none⟩ ::
               ⟨8, [92], [], some 94, .any, none⟩ ::
               ⟨9, [92], [], some 95, .any, none⟩ ::
               ⟨10, [92], [], some 96, .any, none⟩ ::
               ⟨11, [92], [], some 97, .any, none⟩ ::
               ⟨12, [92, 97], [], some 98, .any, none⟩ ::
               ⟨13, [98], [], some 99, .any, none⟩ ::
               ⟨14, [99], [], some 100, .any, none⟩ ::
               ⟨15, [99], [], some 101, .any, none⟩ ::
               ⟨16, [99], [], some 102, .any, none⟩ ::
               ⟨17, [99], [], some 103, .any, none⟩ ::
               ⟨18, [99], [], some 104, .any, none⟩ ::
               ⟨19, [99], [], some 105, .any, none⟩ ::
               ⟨20, [99], [], some 106, .any, none⟩ ::
               ⟨21, [99], [], some 107, .any, none⟩ ::
               ⟨22, [99], [], some 108, .any, none⟩ ::
               ⟨23, [99], [], some 109, .any, none⟩ ::
               ⟨24, [99], [], some 110, .any, none⟩ ::
               ⟨25, [99, 110], [], some 111, .any, none⟩ ::
               ⟨26, [111], [], some 112, .any, none⟩ ::
               ⟨27, [112], [], some 113, .any, none⟩ ::
               ⟨28, [112], [], some 114, .any, none⟩ ::
               ⟨29, [112], [], some 115, .any, none⟩ ::
               ⟨30, [112], [], some 116, .any, none⟩ ::
               ⟨31, [112], [], some 117, .any, none⟩ ::
               ⟨32, [112], [], some 118, .any, none⟩ ::
               ⟨33, [112], [], some 119, .any, none⟩ ::
               ⟨34, [112], [], some 120, .any, none⟩ ::
               ⟨35, [112], [], some 121, .any, none⟩ ::
               ⟨36, [112], [], some 122, .any, none⟩ ::
               ⟨37, [112, 122], [], some 123, .any, none⟩ ::
               ⟨38, [123], [], some 124, .any, none⟩ ::
               ⟨39, [124], [], some 125, .any, none⟩ ::
               ⟨40, [124], [], some 126, .any, none⟩ ::
               ⟨41, [124], [], some 127, .any, none⟩ ::
               ⟨42, [124], [], some 128, .any, none⟩ ::
               ⟨43, [124], [], some 129, .any, none⟩ ::
               ⟨44, [124], [], some 130, .any, none⟩ ::
               ⟨45, [124], [], some 131, .any, none⟩ ::
               ⟨46, [124], [], some 132, .any, none⟩ ::
               ⟨47, [124], [], some 133, .any, none⟩ ::
               ⟨48, [124], [], some 134, .any, none⟩ ::
               ⟨49, [124, 134], [], some 135, .any, none⟩ ::
               [])
           mixed_ok rfl (by kernel_rfl) ⟨DS.ok_over fun s0 => OpAt.go rfl rfl (q_fa),
               DS.ok_over fun s0 => OpAt.go rfl rfl (q_load),
               DS.ok_over fun s0 => OpAt.go rfl rfl (q_fa),
               DS.ok_over fun s0 => OpAt.go rfl rfl (q_load),
               DS.ok_over fun s0 => OpAt.go rfl rfl ((OpOk.bool_is (c := false) (q_call (0) (hc := (c_name_Same (((rnV m.an).getD i default).getD 0 default).nm (((rnV (truV t (m.qs.getD 0 default)).2).getD i default).getD 0 default).nm (by omega) (by omega)))) (h1))),
               DS.ok_over fun s0 => OpAt.go rfl rfl (q_not),
               DS.ok_over fun s0 => OpAt.go rfl rfl (q_move (hy := by exact rfl)),
               DS.ok_over fun s0 => OpAt.gskip rfl rfl rfl rfl rfl rfl rfl rfl,
               DS.ok_over fun s0 => OpAt.gskip rfl rfl rfl rfl rfl rfl rfl rfl,
               DS.ok_over fun s0 => OpAt.gskip rfl rfl rfl rfl rfl rfl rfl rfl,
               DS.ok_over fun s0 => OpAt.gskip rfl rfl rfl rfl rfl rfl rfl rfl,
               DS.ok_over fun s0 => OpAt.gskip rfl rfl rfl rfl rfl rfl rfl rfl,
               DS.ok_over fun s0 => OpAt.go rfl rfl (q_pick),
               DS.ok_over fun s0 => OpAt.go rfl rfl (q_move (hy := by exact rfl)),
               DS.ok_over fun s0 => OpAt.gskip rfl rfl rfl rfl rfl rfl rfl rfl,
               DS.ok_over fun s0 => OpAt.gskip rfl rfl rfl rfl rfl rfl rfl rfl,
               DS.ok_over fun s0 => OpAt.gskip rfl rfl rfl rfl rfl rfl rfl rfl,
               DS.ok_over fun s0 => OpAt.gskip rfl rfl rfl rfl rfl rfl rfl rfl,
               DS.ok_over fun s0 => OpAt.gskip rfl rfl rfl rfl rfl rfl rfl rfl,
               DS.ok_over fun s0 => OpAt.gskip rfl rfl rfl rfl rfl rfl rfl rfl,
               DS.ok_over fun s0 => OpAt.gskip rfl rfl rfl rfl rfl rfl rfl rfl,
               DS.ok_over fun s0 => OpAt.gskip rfl rfl rfl rfl rfl rfl rfl rfl,
               DS.ok_over fun s0 => OpAt.gskip rfl rfl rfl rfl rfl rfl rfl rfl,
               DS.ok_over fun s0 => OpAt.gskip rfl rfl rfl rfl rfl rfl rfl rfl,
               DS.ok_over fun s0 => OpAt.gskip rfl rfl rfl rfl rfl rfl rfl rfl,
               DS.ok_over fun s0 => OpAt.go rfl rfl (q_pick),
               DS.ok_over fun s0 => OpAt.go rfl rfl (q_move (hy := by exact rfl)),
               DS.ok_over fun s0 => OpAt.gskip rfl rfl rfl rfl rfl rfl rfl rfl,
               DS.ok_over fun s0 => OpAt.gskip rfl rfl rfl rfl rfl rfl rfl rfl,
               DS.ok_over fun s0 => OpAt.gskip rfl rfl rfl rfl rfl rfl rfl rfl,
               DS.ok_over fun s0 => OpAt.gskip rfl rfl rfl rfl rfl rfl rfl rfl,
               DS.ok_over fun s0 => OpAt.gskip rfl rfl rfl rfl rfl rfl rfl rfl,
               DS.ok_over fun s0 => OpAt.gskip rfl rfl rfl rfl rfl rfl rfl rfl,
               DS.ok_over fun s0 => OpAt.gskip rfl rfl rfl rfl rfl rfl rfl rfl,
               DS.ok_over fun s0 => OpAt.gskip rfl rfl rfl rfl rfl rfl rfl rfl,
               DS.ok_over fun s0 => OpAt.gskip rfl rfl rfl rfl rfl rfl rfl rfl,
               DS.ok_over fun s0 => OpAt.gskip rfl rfl rfl rfl rfl rfl rfl rfl,
               DS.ok_over fun s0 => OpAt.go rfl rfl (q_pick (hz := by exact rfl)),
               DS.ok_over fun s0 => OpAt.go rfl rfl (q_move (hy := by exact rfl)),
               DS.ok_over fun s0 => OpAt.gskip rfl rfl rfl rfl rfl rfl rfl rfl,
               DS.ok_over fun s0 => OpAt.gskip rfl rfl rfl rfl rfl rfl rfl rfl,
               DS.ok_over fun s0 => OpAt.gskip rfl rfl rfl rfl rfl rfl rfl rfl,
               DS.ok_over fun s0 => OpAt.gskip rfl rfl rfl rfl rfl rfl rfl rfl,
               DS.ok_over fun s0 => OpAt.gskip rfl rfl rfl rfl rfl rfl rfl rfl,
               DS.ok_over fun s0 => OpAt.gskip rfl rfl rfl rfl rfl rfl rfl rfl,
               DS.ok_over fun s0 => OpAt.gskip rfl rfl rfl rfl rfl rfl rfl rfl,
               DS.ok_over fun s0 => OpAt.gskip rfl rfl rfl rfl rfl rfl rfl rfl,
               DS.ok_over fun s0 => OpAt.gskip rfl rfl rfl rfl rfl rfl rfl rfl,
               DS.ok_over fun s0 => OpAt.gskip rfl rfl rfl rfl rfl rfl rfl rfl,
               DS.ok_over fun s0 => OpAt.go rfl rfl (q_pick), trivial⟩ ?_
          dsimp only [final, DS.upd, AS.seto]
          refine AWp.cond_t rfl ?_
          refine AWp.seq ?_
          refine AWp.region ?_
          refine AOps.cons rfl rfl (q_assign) ?_
          refine AOps.nil ?_
          refine AWp.ret ?_
          show Fin te Try.f28 _ _
          refine q_ret (0) [_] [_] ?_
          rw [au_7 (i := i) (by omega) (by rw [prO, h1]; simp)]; rfl
         ·
          refine AWp.draws (⟨0, [12], [1212], some 86, _, none⟩ ::
              ⟨1, [86], [1212], some 87, _, none⟩ ::
              ⟨2, [13], [1213], some 88, _, none⟩ ::
              ⟨3, [88], [1213], some 89, _, none⟩ ::
              ⟨4, [87, 89], [], some 90, _, none⟩ ::
              ⟨5, [90], [], some 91, _, none⟩ ::
              ⟨6, [91], [], some 92, _, none⟩ ::
              ⟨7, [12, 92], [1212], some 93, _, none⟩ ::
              ⟨8, [92, 93], [1212], some 94, _, none⟩ ::
              ⟨9, [13, 92], [1213], some 95, _, none⟩ ::
              ⟨10, [92, 95], [1213], some 96, _, none⟩ ::
              ⟨11, [92, 94, 96], [], some 97, _, none⟩ ::
              ⟨12, [92, 97], [], some 98, _, none⟩ ::
              ⟨13, [98], [], some 99, _, none⟩ ::
              ⟨14, [99], [], some 100, .v undef, none⟩ ::
              ⟨15, [99], [], some 101, .v undef, none⟩ ::
              ⟨16, [99], [], some 102, .v undef, none⟩ ::
              ⟨17, [99], [], some 103, .v undef, none⟩ ::
              ⟨18, [99], [], some 104, .v undef, none⟩ ::
              ⟨19, [99], [], some 105, .v undef, none⟩ ::
              ⟨20, [99], [], some 106, .v undef, none⟩ ::
              ⟨21, [99], [], some 107, .v undef, none⟩ ::
              ⟨22, [99], [], some 108, .v undef, none⟩ ::
              ⟨23, [99], [], some 109, .v undef, none⟩ ::
              ⟨24, [99], [], some 110, .v undef, none⟩ ::
              ⟨25, [99, 110], [], some 111, _, none⟩ ::
              ⟨26, [111], [], some 112, _, none⟩ ::
              ⟨27, [112], [], some 113, .v undef, none⟩ ::
              ⟨28, [112], [], some 114, .v undef, none⟩ ::
              ⟨29, [112], [], some 115, .v undef, none⟩ ::
              ⟨30, [112], [], some 116, .v undef, none⟩ ::
              ⟨31, [112], [], some 117, .v undef, none⟩ ::
              ⟨32, [112], [], some 118, .v undef, none⟩ ::
              ⟨33, [112], [], some 119, .v undef, none⟩ ::
              ⟨34, [112], [], some 120, .v undef, none⟩ ::
              ⟨35, [112], [], some 121, .v undef, none⟩ ::
              ⟨36, [112], [], some 122, .v undef, none⟩ ::
              ⟨37, [112, 122], [], some 123, _, none⟩ ::
              ⟨38, [123], [], some 124, _, none⟩ ::
              ⟨39, [124], [], some 125, .v undef, none⟩ ::
              ⟨40, [124], [], some 126, .v undef, none⟩ ::
              ⟨41, [124], [], some 127, .v undef, none⟩ ::
              ⟨42, [124], [], some 128, .v undef, none⟩ ::
              ⟨43, [124], [], some 129, .v undef, none⟩ ::
              ⟨44, [124], [], some 130, .v undef, none⟩ ::
              ⟨45, [124], [], some 131, .v undef, none⟩ ::
              ⟨46, [124], [], some 132, .v undef, none⟩ ::
              ⟨47, [124], [], some 133, .v undef, none⟩ ::
              ⟨48, [124], [], some 134, .v undef, none⟩ ::
              ⟨49, [124, 134], [], some 135, _, none⟩ ::
              [])
           (⟨0, [12], [1212], some 86, .any, none⟩ ::
               ⟨1, [86], [1212], some 87, .any, none⟩ ::
               ⟨2, [13], [1213], some 88, .any, none⟩ ::
               ⟨3, [88], [1213], some 89, .any, none⟩ ::
               ⟨4, [87, 89], [], some 90, .any, none⟩ ::
               ⟨5, [90], [], some 91, .any, none⟩ ::
               ⟨6, [91], [], some 92, .any, none⟩ ::
               ⟨7, [12, 92], [1212], some 93, .any, none⟩ ::
               ⟨8, [92, 93], [1212], some 94, .any, none⟩ ::
               ⟨9, [13, 92], [1213], some 95, .any, none⟩ ::
               ⟨10, [92, 95], [1213], some 96, .any, none⟩ ::
               ⟨11, [92, 94, 96], [], some 97, .any, none⟩ ::
               ⟨12, [92, 97], [], some 98, .any, none⟩ ::
               ⟨13, [98], [], some 99, .any, none⟩ ::
               ⟨14, [99], [], some 100, .any, none⟩ ::
               ⟨15, [99], [], some 101, .any, none⟩ ::
               ⟨16, [99], [], some 102, .any, none⟩ ::
               ⟨17, [99], [], some 103, .any, none⟩ ::
               ⟨18, [99], [], some 104, .any, none⟩ ::
               ⟨19, [99], [], some 105, .any, none⟩ ::
               ⟨20, [99], [], some 106, .any, none⟩ ::
               ⟨21, [99], [], some 107, .any, none⟩ ::
               ⟨22, [99], [], some 108, .any, none⟩ ::
               ⟨23, [99], [], some 109, .any, none⟩ ::
               ⟨24, [99], [], some 110, .any, none⟩ ::
               ⟨25, [99, 110], [], some 111, .any, none⟩ ::
               ⟨26, [111], [], some 112, .any, none⟩ ::
               ⟨27, [112], [], some 113, .any, none⟩ ::
               ⟨28, [112], [], some 114, .any, none⟩ ::
               ⟨29, [112], [], some 115, .any, none⟩ ::
               ⟨30, [112], [], some 116, .any, none⟩ ::
               ⟨31, [112], [], some 117, .any, none⟩ ::
               ⟨32, [112], [], some 118, .any, none⟩ ::
               ⟨33, [112], [], some 119, .any, none⟩ ::
               ⟨34, [112], [], some 120, .any, none⟩ ::
               ⟨35, [112], [], some 121, .any, none⟩ ::
               ⟨36, [112], [], some 122, .any, none⟩ ::
               ⟨37, [112, 122], [], some 123, .any, none⟩ ::
               ⟨38, [123], [], some 124, .any, none⟩ ::
               ⟨39, [124], [], some 125, .any, none⟩ ::
               ⟨40, [124], [], some 126, .any, none⟩ ::
               ⟨41, [124], [], some 127, .any, none⟩ ::
               ⟨42, [124], [], some 128, .any, none⟩ ::
               ⟨43, [124], [], some 129, .any, none⟩ ::
               ⟨44, [124], [], some 130, .any, none⟩ ::
               ⟨45, [124], [], some 131, .any, none⟩ ::
               ⟨46, [124], [], some 132, .any, none⟩ ::
               ⟨47, [124], [], some 133, .any, none⟩ ::
               ⟨48, [124], [], some 134, .any, none⟩ ::
               ⟨49, [124, 134], [], some 135, .any, none⟩ ::
               [])
           mixed_ok rfl (by kernel_rfl) ⟨DS.ok_over fun s0 => OpAt.go rfl rfl (q_fa),
               DS.ok_over fun s0 => OpAt.go rfl rfl (q_load),
               DS.ok_over fun s0 => OpAt.go rfl rfl (q_fa),
               DS.ok_over fun s0 => OpAt.go rfl rfl (q_load),
               DS.ok_over fun s0 => OpAt.go rfl rfl ((OpOk.bool_is (c := true) (q_call (0) (hc := (c_name_Same (((rnV m.an).getD i default).getD 0 default).nm (((rnV (truV t (m.qs.getD 0 default)).2).getD i default).getD 0 default).nm (by omega) (by omega)))) (h1))),
               DS.ok_over fun s0 => OpAt.go rfl rfl (q_not),
               DS.ok_over fun s0 => OpAt.go rfl rfl (q_move (hy := by exact rfl)),
               DS.ok_over fun s0 => OpAt.ggo rfl rfl rfl rfl rfl (q_fa),
               DS.ok_over fun s0 => OpAt.ggo rfl rfl rfl rfl rfl (q_load),
               DS.ok_over fun s0 => OpAt.ggo rfl rfl rfl rfl rfl (q_fa),
               DS.ok_over fun s0 => OpAt.ggo rfl rfl rfl rfl rfl (q_load),
               DS.ok_over fun s0 => OpAt.ggo rfl rfl rfl rfl rfl ((OpOk.dec_t (q_neq) (h2))),
               DS.ok_over fun s0 => OpAt.go rfl rfl (q_pick),
               DS.ok_over fun s0 => OpAt.go rfl rfl (q_move (hy := by exact rfl)),
               DS.ok_over fun s0 => OpAt.gskip rfl rfl rfl rfl rfl rfl rfl rfl,
               DS.ok_over fun s0 => OpAt.gskip rfl rfl rfl rfl rfl rfl rfl rfl,
               DS.ok_over fun s0 => OpAt.gskip rfl rfl rfl rfl rfl rfl rfl rfl,
               DS.ok_over fun s0 => OpAt.gskip rfl rfl rfl rfl rfl rfl rfl rfl,
               DS.ok_over fun s0 => OpAt.gskip rfl rfl rfl rfl rfl rfl rfl rfl,
               DS.ok_over fun s0 => OpAt.gskip rfl rfl rfl rfl rfl rfl rfl rfl,
               DS.ok_over fun s0 => OpAt.gskip rfl rfl rfl rfl rfl rfl rfl rfl,
               DS.ok_over fun s0 => OpAt.gskip rfl rfl rfl rfl rfl rfl rfl rfl,
               DS.ok_over fun s0 => OpAt.gskip rfl rfl rfl rfl rfl rfl rfl rfl,
               DS.ok_over fun s0 => OpAt.gskip rfl rfl rfl rfl rfl rfl rfl rfl,
               DS.ok_over fun s0 => OpAt.gskip rfl rfl rfl rfl rfl rfl rfl rfl,
               DS.ok_over fun s0 => OpAt.go rfl rfl (q_pick),
               DS.ok_over fun s0 => OpAt.go rfl rfl (q_move (hy := by exact rfl)),
               DS.ok_over fun s0 => OpAt.gskip rfl rfl rfl rfl rfl rfl rfl rfl,
               DS.ok_over fun s0 => OpAt.gskip rfl rfl rfl rfl rfl rfl rfl rfl,
               DS.ok_over fun s0 => OpAt.gskip rfl rfl rfl rfl rfl rfl rfl rfl,
               DS.ok_over fun s0 => OpAt.gskip rfl rfl rfl rfl rfl rfl rfl rfl,
               DS.ok_over fun s0 => OpAt.gskip rfl rfl rfl rfl rfl rfl rfl rfl,
               DS.ok_over fun s0 => OpAt.gskip rfl rfl rfl rfl rfl rfl rfl rfl,
               DS.ok_over fun s0 => OpAt.gskip rfl rfl rfl rfl rfl rfl rfl rfl,
               DS.ok_over fun s0 => OpAt.gskip rfl rfl rfl rfl rfl rfl rfl rfl,
               DS.ok_over fun s0 => OpAt.gskip rfl rfl rfl rfl rfl rfl rfl rfl,
               DS.ok_over fun s0 => OpAt.gskip rfl rfl rfl rfl rfl rfl rfl rfl,
               DS.ok_over fun s0 => OpAt.go rfl rfl (q_pick (hz := by exact rfl)),
               DS.ok_over fun s0 => OpAt.go rfl rfl (q_move (hy := by exact rfl)),
               DS.ok_over fun s0 => OpAt.gskip rfl rfl rfl rfl rfl rfl rfl rfl,
               DS.ok_over fun s0 => OpAt.gskip rfl rfl rfl rfl rfl rfl rfl rfl,
               DS.ok_over fun s0 => OpAt.gskip rfl rfl rfl rfl rfl rfl rfl rfl,
               DS.ok_over fun s0 => OpAt.gskip rfl rfl rfl rfl rfl rfl rfl rfl,
               DS.ok_over fun s0 => OpAt.gskip rfl rfl rfl rfl rfl rfl rfl rfl,
               DS.ok_over fun s0 => OpAt.gskip rfl rfl rfl rfl rfl rfl rfl rfl,
               DS.ok_over fun s0 => OpAt.gskip rfl rfl rfl rfl rfl rfl rfl rfl,
               DS.ok_over fun s0 => OpAt.gskip rfl rfl rfl rfl rfl rfl rfl rfl,
               DS.ok_over fun s0 => OpAt.gskip rfl rfl rfl rfl rfl rfl rfl rfl,
               DS.ok_over fun s0 => OpAt.gskip rfl rfl rfl rfl rfl rfl rfl rfl,
               DS.ok_over fun s0 => OpAt.go rfl rfl (q_pick), trivial⟩ ?_
          dsimp only [final, DS.upd, AS.seto]
          refine AWp.cond_t rfl ?_
          refine AWp.seq ?_
          refine AWp.region ?_
          refine AOps.cons rfl rfl (q_assign) ?_
          refine AOps.nil ?_
          refine AWp.ret ?_
          show Fin te Try.f28 _ _
          refine q_ret (0) [_] [_] ?_
          rw [au_7 (i := i) (by omega) (by rw [prO, decide_eq_false h2]; simp)]; rfl
         ·
          refine AWp.draws (⟨0, [12], [1212], some 86, _, none⟩ ::
              ⟨1, [86], [1212], some 87, _, none⟩ ::
              ⟨2, [13], [1213], some 88, _, none⟩ ::
              ⟨3, [88], [1213], some 89, _, none⟩ ::
              ⟨4, [87, 89], [], some 90, _, none⟩ ::
              ⟨5, [90], [], some 91, _, none⟩ ::
              ⟨6, [91], [], some 92, _, none⟩ ::
              ⟨7, [12, 92], [1212], some 93, _, none⟩ ::
              ⟨8, [92, 93], [1212], some 94, _, none⟩ ::
              ⟨9, [13, 92], [1213], some 95, _, none⟩ ::
              ⟨10, [92, 95], [1213], some 96, _, none⟩ ::
              ⟨11, [92, 94, 96], [], some 97, _, none⟩ ::
              ⟨12, [92, 97], [], some 98, _, none⟩ ::
              ⟨13, [98], [], some 99, _, none⟩ ::
              ⟨14, [7, 99], [], some 100, _, none⟩ ::
              ⟨15, [11, 99], [], some 101, _, none⟩ ::
              ⟨16, [99, 100, 101], [], some 102, _, none⟩ ::
              ⟨17, [99, 102], [], some 103, _, none⟩ ::
              ⟨18, [99, 103], [], some 104, _, none⟩ ::
              ⟨19, [9, 99], [], some 105, _, none⟩ ::
              ⟨20, [11, 99], [], some 106, _, none⟩ ::
              ⟨21, [99, 105, 106], [], some 107, _, none⟩ ::
              ⟨22, [99, 107], [], some 108, _, none⟩ ::
              ⟨23, [99, 108], [], some 109, _, none⟩ ::
              ⟨24, [99, 104, 109], [], some 110, _, none⟩ ::
              ⟨25, [99, 110], [], some 111, _, none⟩ ::
              ⟨26, [111], [], some 112, _, none⟩ ::
              ⟨27, [112], [], some 113, .v undef, none⟩ ::
              ⟨28, [112], [], some 114, .v undef, none⟩ ::
              ⟨29, [112], [], some 115, .v undef, none⟩ ::
              ⟨30, [112], [], some 116, .v undef, none⟩ ::
              ⟨31, [112], [], some 117, .v undef, none⟩ ::
              ⟨32, [112], [], some 118, .v undef, none⟩ ::
              ⟨33, [112], [], some 119, .v undef, none⟩ ::
              ⟨34, [112], [], some 120, .v undef, none⟩ ::
              ⟨35, [112], [], some 121, .v undef, none⟩ ::
              ⟨36, [112], [], some 122, .v undef, none⟩ ::
              ⟨37, [112, 122], [], some 123, _, none⟩ ::
              ⟨38, [123], [], some 124, _, none⟩ ::
              ⟨39, [124], [], some 125, .v undef, none⟩ ::
              ⟨40, [124], [], some 126, .v undef, none⟩ ::
              ⟨41, [124], [], some 127, .v undef, none⟩ ::
              ⟨42, [124], [], some 128, .v undef, none⟩ ::
              ⟨43, [124], [], some 129, .v undef, none⟩ ::
              ⟨44, [124], [], some 130, .v undef, none⟩ ::
              ⟨45, [124], [], some 131, .v undef, none⟩ ::
              ⟨46, [124], [], some 132, .v undef, none⟩ ::
              ⟨47, [124], [], some 133, .v undef, none⟩ ::
              ⟨48, [124], [], some 134, .v undef, none⟩ ::
              ⟨49, [124, 134], [], some 135, _, none⟩ ::
              [])
           (⟨0, [12], [1212], some 86, .any, none⟩ ::
               ⟨1, [86], [1212], some 87, .any, none⟩ ::
               ⟨2, [13], [1213], some 88, .any, none⟩ ::
               ⟨3, [88], [1213], some 89, .any, none⟩ ::
               ⟨4, [87, 89], [], some 90, .any, none⟩ ::
               ⟨5, [90], [], some 91, .any, none⟩ ::
               ⟨6, [91], [], some 92, .any, none⟩ ::
               ⟨7, [12, 92], [1212], some 93, .any, none⟩ ::
               ⟨8, [92, 93], [1212], some 94, .any, none⟩ ::
               ⟨9, [13, 92], [1213], some 95, .any, none⟩ ::
               ⟨10, [92, 95], [1213], some 96, .any, none⟩ ::
               ⟨11, [92, 94, 96], [], some 97, .any, none⟩ ::
               ⟨12, [92, 97], [], some 98, .any, none⟩ ::
               ⟨13, [98], [], some 99, .any, none⟩ ::
               ⟨14, [7, 99], [], some 100, .any, none⟩ ::
               ⟨15, [11, 99], [], some 101, .any, none⟩ ::
               ⟨16, [99, 100, 101], [], some 102, .any, none⟩ ::
               ⟨17, [99, 102], [], some 103, .any, none⟩ ::
               ⟨18, [99, 103], [], some 104, .any, none⟩ ::
               ⟨19, [9, 99], [], some 105, .any, none⟩ ::
               ⟨20, [11, 99], [], some 106, .any, none⟩ ::
               ⟨21, [99, 105, 106], [], some 107, .any, none⟩ ::
               ⟨22, [99, 107], [], some 108, .any, none⟩ ::
               ⟨23, [99, 108], [], some 109, .any, none⟩ ::
               ⟨24, [99, 104, 109], [], some 110, .any, none⟩ ::
               ⟨25, [99, 110], [], some 111, .any, none⟩ ::
               ⟨26, [111], [], some 112, .any, none⟩ ::
               ⟨27, [112], [], some 113, .any, none⟩ ::
               ⟨28, [112], [], some 114, .any, none⟩ ::
               ⟨29, [112], [], some 115, .any, none⟩ ::
               ⟨30, [112], [], some 116, .any, none⟩ ::
               ⟨31, [112], [], some 117, .any, none⟩ ::
               ⟨32, [112], [], some 118, .any, none⟩ ::
               ⟨33, [112], [], some 119, .any, none⟩ ::
               ⟨34, [112], [], some 120, .any, none⟩ ::
               ⟨35, [112], [], some 121, .any, none⟩ ::
               ⟨36, [112], [], some 122, .any, none⟩ ::
               ⟨37, [112, 122], [], some 123, .any, none⟩ ::
               ⟨38, [123], [], some 124, .any, none⟩ ::
               ⟨39, [124], [], some 125, .any, none⟩ ::
               ⟨40, [124], [], some 126, .any, none⟩ ::
               ⟨41, [124], [], some 127, .any, none⟩ ::
               ⟨42, [124], [], some 128, .any, none⟩ ::
               ⟨43, [124], [], some 129, .any, none⟩ ::
               ⟨44, [124], [], some 130, .any, none⟩ ::
               ⟨45, [124], [], some 131, .any, none⟩ ::
               ⟨46, [124], [], some 132, .any, none⟩ ::
               ⟨47, [124], [], some 133, .any, none⟩ ::
               ⟨48, [124], [], some 134, .any, none⟩ ::
               ⟨49, [124, 134], [], some 135, .any, none⟩ ::
               [])
           mixed_ok rfl (by kernel_rfl) ⟨DS.ok_over fun s0 => OpAt.go rfl rfl (q_fa),
               DS.ok_over fun s0 => OpAt.go rfl rfl (q_load),
               DS.ok_over fun s0 => OpAt.go rfl rfl (q_fa),
               DS.ok_over fun s0 => OpAt.go rfl rfl (q_load),
               DS.ok_over fun s0 => OpAt.go rfl rfl ((OpOk.bool_is (c := true) (q_call (0) (hc := (c_name_Same (((rnV m.an).getD i default).getD 0 default).nm (((rnV (truV t (m.qs.getD 0 default)).2).getD i default).getD 0 default).nm (by omega) (by omega)))) (h1))),
               DS.ok_over fun s0 => OpAt.go rfl rfl (q_not),
               DS.ok_over fun s0 => OpAt.go rfl rfl (q_move (hy := by exact rfl)),
               DS.ok_over fun s0 => OpAt.ggo rfl rfl rfl rfl rfl (q_fa),
               DS.ok_over fun s0 => OpAt.ggo rfl rfl rfl rfl rfl (q_load),
               DS.ok_over fun s0 => OpAt.ggo rfl rfl rfl rfl rfl (q_fa),
               DS.ok_over fun s0 => OpAt.ggo rfl rfl rfl rfl rfl (q_load),
               DS.ok_over fun s0 => OpAt.ggo rfl rfl rfl rfl rfl ((OpOk.dec_f (q_neq) (fun k => k h2))),
               DS.ok_over fun s0 => OpAt.go rfl rfl (q_pick),
               DS.ok_over fun s0 => OpAt.go rfl rfl (q_move (hy := by exact rfl)),
               DS.ok_over fun s0 => OpAt.ggo rfl rfl rfl rfl rfl (q_move),
               DS.ok_over fun s0 => OpAt.ggo rfl rfl rfl rfl rfl (q_move),
               DS.ok_over fun s0 => OpAt.ggo rfl rfl rfl rfl rfl (q_ix),
               DS.ok_over fun s0 => OpAt.ggo rfl rfl rfl rfl rfl (q_load),
               DS.ok_over fun s0 => OpAt.ggo rfl rfl rfl rfl rfl (q_len),
               DS.ok_over fun s0 => OpAt.ggo rfl rfl rfl rfl rfl (q_move),
               DS.ok_over fun s0 => OpAt.ggo rfl rfl rfl rfl rfl (q_move),
               DS.ok_over fun s0 => OpAt.ggo rfl rfl rfl rfl rfl (q_ix),
               DS.ok_over fun s0 => OpAt.ggo rfl rfl rfl rfl rfl (q_load),
               DS.ok_over fun s0 => OpAt.ggo rfl rfl rfl rfl rfl (q_len),
               DS.ok_over fun s0 => OpAt.ggo rfl rfl rfl rfl rfl ((OpOk.dec_t (q_neq) (fun k => h3 (Int.ofNat_inj.1 k)))),
               DS.ok_over fun s0 => OpAt.go rfl rfl (q_pick),
               DS.ok_over fun s0 => OpAt.go rfl rfl (q_move (hy := by exact rfl)),
               DS.ok_over fun s0 => OpAt.gskip rfl rfl rfl rfl rfl rfl rfl rfl,
               DS.ok_over fun s0 => OpAt.gskip rfl rfl rfl rfl rfl rfl rfl rfl,
               DS.ok_over fun s0 => OpAt.gskip rfl rfl rfl rfl rfl rfl rfl rfl,
               DS.ok_over fun s0 => OpAt.gskip rfl rfl rfl rfl rfl rfl rfl rfl,
               DS.ok_over fun s0 => OpAt.gskip rfl rfl rfl rfl rfl rfl rfl rfl,
               DS.ok_over fun s0 => OpAt.gskip rfl rfl rfl rfl rfl rfl rfl rfl,
               DS.ok_over fun s0 => OpAt.gskip rfl rfl rfl rfl rfl rfl rfl rfl,
               DS.ok_over fun s0 => OpAt.gskip rfl rfl rfl rfl rfl rfl rfl rfl,
               DS.ok_over fun s0 => OpAt.gskip rfl rfl rfl rfl rfl rfl rfl rfl,
               DS.ok_over fun s0 => OpAt.gskip rfl rfl rfl rfl rfl rfl rfl rfl,
               DS.ok_over fun s0 => OpAt.go rfl rfl (q_pick (hz := by exact rfl)),
               DS.ok_over fun s0 => OpAt.go rfl rfl (q_move (hy := by exact rfl)),
               DS.ok_over fun s0 => OpAt.gskip rfl rfl rfl rfl rfl rfl rfl rfl,
               DS.ok_over fun s0 => OpAt.gskip rfl rfl rfl rfl rfl rfl rfl rfl,
               DS.ok_over fun s0 => OpAt.gskip rfl rfl rfl rfl rfl rfl rfl rfl,
               DS.ok_over fun s0 => OpAt.gskip rfl rfl rfl rfl rfl rfl rfl rfl,
               DS.ok_over fun s0 => OpAt.gskip rfl rfl rfl rfl rfl rfl rfl rfl,
               DS.ok_over fun s0 => OpAt.gskip rfl rfl rfl rfl rfl rfl rfl rfl,
               DS.ok_over fun s0 => OpAt.gskip rfl rfl rfl rfl rfl rfl rfl rfl,
               DS.ok_over fun s0 => OpAt.gskip rfl rfl rfl rfl rfl rfl rfl rfl,
               DS.ok_over fun s0 => OpAt.gskip rfl rfl rfl rfl rfl rfl rfl rfl,
               DS.ok_over fun s0 => OpAt.gskip rfl rfl rfl rfl rfl rfl rfl rfl,
               DS.ok_over fun s0 => OpAt.go rfl rfl (q_pick), trivial⟩ ?_
          dsimp only [final, DS.upd, AS.seto]
          refine AWp.cond_t rfl ?_
          refine AWp.seq ?_
          refine AWp.region ?_
          refine AOps.cons rfl rfl (q_assign) ?_
          refine AOps.nil ?_
          refine AWp.ret ?_
          show Fin te Try.f28 _ _
          refine q_ret (0) [_] [_] ?_
          rw [au_7 (i := i) (by omega) (by rw [prO, decide_eq_false h3]; simp)]; rfl
         ·
          refine AWp.draws (⟨0, [12], [1212], some 86, _, none⟩ ::
              ⟨1, [86], [1212], some 87, _, none⟩ ::
              ⟨2, [13], [1213], some 88, _, none⟩ ::
              ⟨3, [88], [1213], some 89, _, none⟩ ::
              ⟨4, [87, 89], [], some 90, _, none⟩ ::
              ⟨5, [90], [], some 91, _, none⟩ ::
              ⟨6, [91], [], some 92, _, none⟩ ::
              ⟨7, [12, 92], [1212], some 93, _, none⟩ ::
              ⟨8, [92, 93], [1212], some 94, _, none⟩ ::
              ⟨9, [13, 92], [1213], some 95, _, none⟩ ::
              ⟨10, [92, 95], [1213], some 96, _, none⟩ ::
              ⟨11, [92, 94, 96], [], some 97, _, none⟩ ::
              ⟨12, [92, 97], [], some 98, _, none⟩ ::
              ⟨13, [98], [], some 99, _, none⟩ ::
              ⟨14, [7, 99], [], some 100, _, none⟩ ::
              ⟨15, [11, 99], [], some 101, _, none⟩ ::
              ⟨16, [99, 100, 101], [], some 102, _, none⟩ ::
              ⟨17, [99, 102], [], some 103, _, none⟩ ::
              ⟨18, [99, 103], [], some 104, _, none⟩ ::
              ⟨19, [9, 99], [], some 105, _, none⟩ ::
              ⟨20, [11, 99], [], some 106, _, none⟩ ::
              ⟨21, [99, 105, 106], [], some 107, _, none⟩ ::
              ⟨22, [99, 107], [], some 108, _, none⟩ ::
              ⟨23, [99, 108], [], some 109, _, none⟩ ::
              ⟨24, [99, 104, 109], [], some 110, _, none⟩ ::
              ⟨25, [99, 110], [], some 111, _, none⟩ ::
              ⟨26, [111], [], some 112, _, none⟩ ::
              ⟨27, [7, 112], [], some 113, _, none⟩ ::
              ⟨28, [11, 112], [], some 114, _, none⟩ ::
              ⟨29, [112, 113, 114], [], some 115, _, none⟩ ::
              ⟨30, [112, 115], [], some 116, _, none⟩ ::
              ⟨31, [9, 112], [], some 117, _, none⟩ ::
              ⟨32, [11, 112], [], some 118, _, none⟩ ::
              ⟨33, [112, 117, 118], [], some 119, _, none⟩ ::
              ⟨34, [112, 119], [], some 120, _, none⟩ ::
              ⟨35, [112, 116, 120], [], some 121, _, none⟩ ::
              ⟨36, [112, 121], [], some 122, _, none⟩ ::
              ⟨37, [112, 122], [], some 123, _, none⟩ ::
              ⟨38, [123], [], some 124, _, none⟩ ::
              ⟨39, [124], [], some 125, .v undef, none⟩ ::
              ⟨40, [124], [], some 126, .v undef, none⟩ ::
              ⟨41, [124], [], some 127, .v undef, none⟩ ::
              ⟨42, [124], [], some 128, .v undef, none⟩ ::
              ⟨43, [124], [], some 129, .v undef, none⟩ ::
              ⟨44, [124], [], some 130, .v undef, none⟩ ::
              ⟨45, [124], [], some 131, .v undef, none⟩ ::
              ⟨46, [124], [], some 132, .v undef, none⟩ ::
              ⟨47, [124], [], some 133, .v undef, none⟩ ::
              ⟨48, [124], [], some 134, .v undef, none⟩ ::
              ⟨49, [124, 134], [], some 135, _, none⟩ ::
              [])
           (⟨0, [12], [1212], some 86, .any, none⟩ ::
               ⟨1, [86], [1212], some 87, .any, none⟩ ::
               ⟨2, [13], [1213], some 88, .any, none⟩ ::
               ⟨3, [88], [1213], some 89, .any, none⟩ ::
               ⟨4, [87, 89], [], some 90, .any, none⟩ ::
               ⟨5, [90], [], some 91, .any, none⟩ ::
               ⟨6, [91], [], some 92, .any, none⟩ ::
               ⟨7, [12, 92], [1212], some 93, .any, none⟩ ::
               ⟨8, [92, 93], [1212], some 94, .any, none⟩ ::
               ⟨9, [13, 92], [1213], some 95, .any, none⟩ ::
               ⟨10, [92, 95], [1213], some 96, .any, none⟩ ::
               ⟨11, [92, 94, 96], [], some 97, .any, none⟩ ::
               ⟨12, [92, 97], [], some 98, .any, none⟩ ::
               ⟨13, [98], [], some 99, .any, none⟩ ::
               ⟨14, [7, 99], [], some 100, .any, none⟩ ::
               ⟨15, [11, 99], [], some 101, .any, none⟩ ::
               ⟨16, [99, 100, 101], [], some 102, .any, none⟩ ::
               ⟨17, [99, 102], [], some 103, .any, none⟩ ::
               ⟨18, [99, 103], [], some 104, .any, none⟩ ::
               ⟨19, [9, 99], [], some 105, .any, none⟩ ::
               ⟨20, [11, 99], [], some 106, .any, none⟩ ::
               ⟨21, [99, 105, 106], [], some 107, .any, none⟩ ::
               ⟨22, [99, 107], [], some 108, .any, none⟩ ::
               ⟨23, [99, 108], [], some 109, .any, none⟩ ::
               ⟨24, [99, 104, 109], [], some 110, .any, none⟩ ::
               ⟨25, [99, 110], [], some 111, .any, none⟩ ::
               ⟨26, [111], [], some 112, .any, none⟩ ::
               ⟨27, [7, 112], [], some 113, .any, none⟩ ::
               ⟨28, [11, 112], [], some 114, .any, none⟩ ::
               ⟨29, [112, 113, 114], [], some 115, .any, none⟩ ::
               ⟨30, [112, 115], [], some 116, .any, none⟩ ::
               ⟨31, [9, 112], [], some 117, .any, none⟩ ::
               ⟨32, [11, 112], [], some 118, .any, none⟩ ::
               ⟨33, [112, 117, 118], [], some 119, .any, none⟩ ::
               ⟨34, [112, 119], [], some 120, .any, none⟩ ::
               ⟨35, [112, 116, 120], [], some 121, .any, none⟩ ::
               ⟨36, [112, 121], [], some 122, .any, none⟩ ::
               ⟨37, [112, 122], [], some 123, .any, none⟩ ::
               ⟨38, [123], [], some 124, .any, none⟩ ::
               ⟨39, [124], [], some 125, .any, none⟩ ::
               ⟨40, [124], [], some 126, .any, none⟩ ::
               ⟨41, [124], [], some 127, .any, none⟩ ::
               ⟨42, [124], [], some 128, .any, none⟩ ::
               ⟨43, [124], [], some 129, .any, none⟩ ::
               ⟨44, [124], [], some 130, .any, none⟩ ::
               ⟨45, [124], [], some 131, .any, none⟩ ::
               ⟨46, [124], [], some 132, .any, none⟩ ::
               ⟨47, [124], [], some 133, .any, none⟩ ::
               ⟨48, [124], [], some 134, .any, none⟩ ::
               ⟨49, [124, 134], [], some 135, .any, none⟩ ::
               [])
           mixed_ok rfl (by kernel_rfl) ⟨DS.ok_over fun s0 => OpAt.go rfl rfl (q_fa),
               DS.ok_over fun s0 => OpAt.go rfl rfl (q_load),
               DS.ok_over fun s0 => OpAt.go rfl rfl (q_fa),
               DS.ok_over fun s0 => OpAt.go rfl rfl (q_load),
               DS.ok_over fun s0 => OpAt.go rfl rfl ((OpOk.bool_is (c := true) (q_call (0) (hc := (c_name_Same (((rnV m.an).getD i default).getD 0 default).nm (((rnV (truV t (m.qs.getD 0 default)).2).getD i default).getD 0 default).nm (by omega) (by omega)))) (h1))),
               DS.ok_over fun s0 => OpAt.go rfl rfl (q_not),
               DS.ok_over fun s0 => OpAt.go rfl rfl (q_move (hy := by exact rfl)),
               DS.ok_over fun s0 => OpAt.ggo rfl rfl rfl rfl rfl (q_fa),
               DS.ok_over fun s0 => OpAt.ggo rfl rfl rfl rfl rfl (q_load),
               DS.ok_over fun s0 => OpAt.ggo rfl rfl rfl rfl rfl (q_fa),
               DS.ok_over fun s0 => OpAt.ggo rfl rfl rfl rfl rfl (q_load),
               DS.ok_over fun s0 => OpAt.ggo rfl rfl rfl rfl rfl ((OpOk.dec_f (q_neq) (fun k => k h2))),
               DS.ok_over fun s0 => OpAt.go rfl rfl (q_pick),
               DS.ok_over fun s0 => OpAt.go rfl rfl (q_move (hy := by exact rfl)),
               DS.ok_over fun s0 => OpAt.ggo rfl rfl rfl rfl rfl (q_move),
               DS.ok_over fun s0 => OpAt.ggo rfl rfl rfl rfl rfl (q_move),
               DS.ok_over fun s0 => OpAt.ggo rfl rfl rfl rfl rfl (q_ix),
               DS.ok_over fun s0 => OpAt.ggo rfl rfl rfl rfl rfl (q_load),
               DS.ok_over fun s0 => OpAt.ggo rfl rfl rfl rfl rfl (q_len),
               DS.ok_over fun s0 => OpAt.ggo rfl rfl rfl rfl rfl (q_move),
               DS.ok_over fun s0 => OpAt.ggo rfl rfl rfl rfl rfl (q_move),
               DS.ok_over fun s0 => OpAt.ggo rfl rfl rfl rfl rfl (q_ix),
               DS.ok_over fun s0 => OpAt.ggo rfl rfl rfl rfl rfl (q_load),
               DS.ok_over fun s0 => OpAt.ggo rfl rfl rfl rfl rfl (q_len),
               DS.ok_over fun s0 => OpAt.ggo rfl rfl rfl rfl rfl ((OpOk.dec_f (q_neq) (fun k => k (congrArg (fun x : Nat => (x : Int)) h3)))),
               DS.ok_over fun s0 => OpAt.go rfl rfl (q_pick),
               DS.ok_over fun s0 => OpAt.go rfl rfl (q_move (hy := by exact rfl)),
               DS.ok_over fun s0 => OpAt.ggo rfl rfl rfl rfl rfl (q_move),
               DS.ok_over fun s0 => OpAt.ggo rfl rfl rfl rfl rfl (q_move),
               DS.ok_over fun s0 => OpAt.ggo rfl rfl rfl rfl rfl (q_ix),
               DS.ok_over fun s0 => OpAt.ggo rfl rfl rfl rfl rfl (q_load),
               DS.ok_over fun s0 => OpAt.ggo rfl rfl rfl rfl rfl (q_move),
               DS.ok_over fun s0 => OpAt.ggo rfl rfl rfl rfl rfl (q_move),
               DS.ok_over fun s0 => OpAt.ggo rfl rfl rfl rfl rfl (q_ix),
               DS.ok_over fun s0 => OpAt.ggo rfl rfl rfl rfl rfl (q_load),
               DS.ok_over fun s0 => OpAt.ggo rfl rfl rfl rfl rfl ((OpOk.bool_is (c := false) (q_call (0) (hc := (c_audit_covers ((rnV m.an).getD i default) ((rnV (truV t (m.qs.getD 0 default)).2).getD i default) 0 0 a2 b2))) (h4))),
               DS.ok_over fun s0 => OpAt.ggo rfl rfl rfl rfl rfl (q_not),
               DS.ok_over fun s0 => OpAt.go rfl rfl (q_pick (hz := by exact rfl)),
               DS.ok_over fun s0 => OpAt.go rfl rfl (q_move (hy := by exact rfl)),
               DS.ok_over fun s0 => OpAt.gskip rfl rfl rfl rfl rfl rfl rfl rfl,
               DS.ok_over fun s0 => OpAt.gskip rfl rfl rfl rfl rfl rfl rfl rfl,
               DS.ok_over fun s0 => OpAt.gskip rfl rfl rfl rfl rfl rfl rfl rfl,
               DS.ok_over fun s0 => OpAt.gskip rfl rfl rfl rfl rfl rfl rfl rfl,
               DS.ok_over fun s0 => OpAt.gskip rfl rfl rfl rfl rfl rfl rfl rfl,
               DS.ok_over fun s0 => OpAt.gskip rfl rfl rfl rfl rfl rfl rfl rfl,
               DS.ok_over fun s0 => OpAt.gskip rfl rfl rfl rfl rfl rfl rfl rfl,
               DS.ok_over fun s0 => OpAt.gskip rfl rfl rfl rfl rfl rfl rfl rfl,
               DS.ok_over fun s0 => OpAt.gskip rfl rfl rfl rfl rfl rfl rfl rfl,
               DS.ok_over fun s0 => OpAt.gskip rfl rfl rfl rfl rfl rfl rfl rfl,
               DS.ok_over fun s0 => OpAt.go rfl rfl (q_pick), trivial⟩ ?_
          dsimp only [final, DS.upd, AS.seto]
          refine AWp.cond_t rfl ?_
          refine AWp.seq ?_
          refine AWp.region ?_
          refine AOps.cons rfl rfl (q_assign) ?_
          refine AOps.nil ?_
          refine AWp.ret ?_
          show Fin te Try.f28 _ _
          refine q_ret (0) [_] [_] ?_
          rw [au_7 (i := i) (by omega) (by rw [prO, h4]; simp)]; rfl
         ·
          refine AWp.draws (⟨0, [12], [1212], some 86, _, none⟩ ::
              ⟨1, [86], [1212], some 87, _, none⟩ ::
              ⟨2, [13], [1213], some 88, _, none⟩ ::
              ⟨3, [88], [1213], some 89, _, none⟩ ::
              ⟨4, [87, 89], [], some 90, _, none⟩ ::
              ⟨5, [90], [], some 91, _, none⟩ ::
              ⟨6, [91], [], some 92, _, none⟩ ::
              ⟨7, [12, 92], [1212], some 93, _, none⟩ ::
              ⟨8, [92, 93], [1212], some 94, _, none⟩ ::
              ⟨9, [13, 92], [1213], some 95, _, none⟩ ::
              ⟨10, [92, 95], [1213], some 96, _, none⟩ ::
              ⟨11, [92, 94, 96], [], some 97, _, none⟩ ::
              ⟨12, [92, 97], [], some 98, _, none⟩ ::
              ⟨13, [98], [], some 99, _, none⟩ ::
              ⟨14, [7, 99], [], some 100, _, none⟩ ::
              ⟨15, [11, 99], [], some 101, _, none⟩ ::
              ⟨16, [99, 100, 101], [], some 102, _, none⟩ ::
              ⟨17, [99, 102], [], some 103, _, none⟩ ::
              ⟨18, [99, 103], [], some 104, _, none⟩ ::
              ⟨19, [9, 99], [], some 105, _, none⟩ ::
              ⟨20, [11, 99], [], some 106, _, none⟩ ::
              ⟨21, [99, 105, 106], [], some 107, _, none⟩ ::
              ⟨22, [99, 107], [], some 108, _, none⟩ ::
              ⟨23, [99, 108], [], some 109, _, none⟩ ::
              ⟨24, [99, 104, 109], [], some 110, _, none⟩ ::
              ⟨25, [99, 110], [], some 111, _, none⟩ ::
              ⟨26, [111], [], some 112, _, none⟩ ::
              ⟨27, [7, 112], [], some 113, _, none⟩ ::
              ⟨28, [11, 112], [], some 114, _, none⟩ ::
              ⟨29, [112, 113, 114], [], some 115, _, none⟩ ::
              ⟨30, [112, 115], [], some 116, _, none⟩ ::
              ⟨31, [9, 112], [], some 117, _, none⟩ ::
              ⟨32, [11, 112], [], some 118, _, none⟩ ::
              ⟨33, [112, 117, 118], [], some 119, _, none⟩ ::
              ⟨34, [112, 119], [], some 120, _, none⟩ ::
              ⟨35, [112, 116, 120], [], some 121, _, none⟩ ::
              ⟨36, [112, 121], [], some 122, _, none⟩ ::
              ⟨37, [112, 122], [], some 123, _, none⟩ ::
              ⟨38, [123], [], some 124, _, none⟩ ::
              ⟨39, [9, 124], [], some 125, _, none⟩ ::
              ⟨40, [11, 124], [], some 126, _, none⟩ ::
              ⟨41, [124, 125, 126], [], some 127, _, none⟩ ::
              ⟨42, [124, 127], [], some 128, _, none⟩ ::
              ⟨43, [7, 124], [], some 129, _, none⟩ ::
              ⟨44, [11, 124], [], some 130, _, none⟩ ::
              ⟨45, [124, 129, 130], [], some 131, _, none⟩ ::
              ⟨46, [124, 131], [], some 132, _, none⟩ ::
              ⟨47, [124, 128, 132], [], some 133, _, none⟩ ::
              ⟨48, [124, 133], [], some 134, _, none⟩ ::
              ⟨49, [124, 134], [], some 135, _, none⟩ ::
              [])
           (⟨0, [12], [1212], some 86, .any, none⟩ ::
               ⟨1, [86], [1212], some 87, .any, none⟩ ::
               ⟨2, [13], [1213], some 88, .any, none⟩ ::
               ⟨3, [88], [1213], some 89, .any, none⟩ ::
               ⟨4, [87, 89], [], some 90, .any, none⟩ ::
               ⟨5, [90], [], some 91, .any, none⟩ ::
               ⟨6, [91], [], some 92, .any, none⟩ ::
               ⟨7, [12, 92], [1212], some 93, .any, none⟩ ::
               ⟨8, [92, 93], [1212], some 94, .any, none⟩ ::
               ⟨9, [13, 92], [1213], some 95, .any, none⟩ ::
               ⟨10, [92, 95], [1213], some 96, .any, none⟩ ::
               ⟨11, [92, 94, 96], [], some 97, .any, none⟩ ::
               ⟨12, [92, 97], [], some 98, .any, none⟩ ::
               ⟨13, [98], [], some 99, .any, none⟩ ::
               ⟨14, [7, 99], [], some 100, .any, none⟩ ::
               ⟨15, [11, 99], [], some 101, .any, none⟩ ::
               ⟨16, [99, 100, 101], [], some 102, .any, none⟩ ::
               ⟨17, [99, 102], [], some 103, .any, none⟩ ::
               ⟨18, [99, 103], [], some 104, .any, none⟩ ::
               ⟨19, [9, 99], [], some 105, .any, none⟩ ::
               ⟨20, [11, 99], [], some 106, .any, none⟩ ::
               ⟨21, [99, 105, 106], [], some 107, .any, none⟩ ::
               ⟨22, [99, 107], [], some 108, .any, none⟩ ::
               ⟨23, [99, 108], [], some 109, .any, none⟩ ::
               ⟨24, [99, 104, 109], [], some 110, .any, none⟩ ::
               ⟨25, [99, 110], [], some 111, .any, none⟩ ::
               ⟨26, [111], [], some 112, .any, none⟩ ::
               ⟨27, [7, 112], [], some 113, .any, none⟩ ::
               ⟨28, [11, 112], [], some 114, .any, none⟩ ::
               ⟨29, [112, 113, 114], [], some 115, .any, none⟩ ::
               ⟨30, [112, 115], [], some 116, .any, none⟩ ::
               ⟨31, [9, 112], [], some 117, .any, none⟩ ::
               ⟨32, [11, 112], [], some 118, .any, none⟩ ::
               ⟨33, [112, 117, 118], [], some 119, .any, none⟩ ::
               ⟨34, [112, 119], [], some 120, .any, none⟩ ::
               ⟨35, [112, 116, 120], [], some 121, .any, none⟩ ::
               ⟨36, [112, 121], [], some 122, .any, none⟩ ::
               ⟨37, [112, 122], [], some 123, .any, none⟩ ::
               ⟨38, [123], [], some 124, .any, none⟩ ::
               ⟨39, [9, 124], [], some 125, .any, none⟩ ::
               ⟨40, [11, 124], [], some 126, .any, none⟩ ::
               ⟨41, [124, 125, 126], [], some 127, .any, none⟩ ::
               ⟨42, [124, 127], [], some 128, .any, none⟩ ::
               ⟨43, [7, 124], [], some 129, .any, none⟩ ::
               ⟨44, [11, 124], [], some 130, .any, none⟩ ::
               ⟨45, [124, 129, 130], [], some 131, .any, none⟩ ::
               ⟨46, [124, 131], [], some 132, .any, none⟩ ::
               ⟨47, [124, 128, 132], [], some 133, .any, none⟩ ::
               ⟨48, [124, 133], [], some 134, .any, none⟩ ::
               ⟨49, [124, 134], [], some 135, .any, none⟩ ::
               [])
           mixed_ok rfl (by kernel_rfl) ⟨DS.ok_over fun s0 => OpAt.go rfl rfl (q_fa),
               DS.ok_over fun s0 => OpAt.go rfl rfl (q_load),
               DS.ok_over fun s0 => OpAt.go rfl rfl (q_fa),
               DS.ok_over fun s0 => OpAt.go rfl rfl (q_load),
               DS.ok_over fun s0 => OpAt.go rfl rfl ((OpOk.bool_is (c := true) (q_call (0) (hc := (c_name_Same (((rnV m.an).getD i default).getD 0 default).nm (((rnV (truV t (m.qs.getD 0 default)).2).getD i default).getD 0 default).nm (by omega) (by omega)))) (h1))),
               DS.ok_over fun s0 => OpAt.go rfl rfl (q_not),
               DS.ok_over fun s0 => OpAt.go rfl rfl (q_move (hy := by exact rfl)),
               DS.ok_over fun s0 => OpAt.ggo rfl rfl rfl rfl rfl (q_fa),
               DS.ok_over fun s0 => OpAt.ggo rfl rfl rfl rfl rfl (q_load),
               DS.ok_over fun s0 => OpAt.ggo rfl rfl rfl rfl rfl (q_fa),
               DS.ok_over fun s0 => OpAt.ggo rfl rfl rfl rfl rfl (q_load),
               DS.ok_over fun s0 => OpAt.ggo rfl rfl rfl rfl rfl ((OpOk.dec_f (q_neq) (fun k => k h2))),
               DS.ok_over fun s0 => OpAt.go rfl rfl (q_pick),
               DS.ok_over fun s0 => OpAt.go rfl rfl (q_move (hy := by exact rfl)),
               DS.ok_over fun s0 => OpAt.ggo rfl rfl rfl rfl rfl (q_move),
               DS.ok_over fun s0 => OpAt.ggo rfl rfl rfl rfl rfl (q_move),
               DS.ok_over fun s0 => OpAt.ggo rfl rfl rfl rfl rfl (q_ix),
               DS.ok_over fun s0 => OpAt.ggo rfl rfl rfl rfl rfl (q_load),
               DS.ok_over fun s0 => OpAt.ggo rfl rfl rfl rfl rfl (q_len),
               DS.ok_over fun s0 => OpAt.ggo rfl rfl rfl rfl rfl (q_move),
               DS.ok_over fun s0 => OpAt.ggo rfl rfl rfl rfl rfl (q_move),
               DS.ok_over fun s0 => OpAt.ggo rfl rfl rfl rfl rfl (q_ix),
               DS.ok_over fun s0 => OpAt.ggo rfl rfl rfl rfl rfl (q_load),
               DS.ok_over fun s0 => OpAt.ggo rfl rfl rfl rfl rfl (q_len),
               DS.ok_over fun s0 => OpAt.ggo rfl rfl rfl rfl rfl ((OpOk.dec_f (q_neq) (fun k => k (congrArg (fun x : Nat => (x : Int)) h3)))),
               DS.ok_over fun s0 => OpAt.go rfl rfl (q_pick),
               DS.ok_over fun s0 => OpAt.go rfl rfl (q_move (hy := by exact rfl)),
               DS.ok_over fun s0 => OpAt.ggo rfl rfl rfl rfl rfl (q_move),
               DS.ok_over fun s0 => OpAt.ggo rfl rfl rfl rfl rfl (q_move),
               DS.ok_over fun s0 => OpAt.ggo rfl rfl rfl rfl rfl (q_ix),
               DS.ok_over fun s0 => OpAt.ggo rfl rfl rfl rfl rfl (q_load),
               DS.ok_over fun s0 => OpAt.ggo rfl rfl rfl rfl rfl (q_move),
               DS.ok_over fun s0 => OpAt.ggo rfl rfl rfl rfl rfl (q_move),
               DS.ok_over fun s0 => OpAt.ggo rfl rfl rfl rfl rfl (q_ix),
               DS.ok_over fun s0 => OpAt.ggo rfl rfl rfl rfl rfl (q_load),
               DS.ok_over fun s0 => OpAt.ggo rfl rfl rfl rfl rfl ((OpOk.bool_is (c := true) (q_call (0) (hc := (c_audit_covers ((rnV m.an).getD i default) ((rnV (truV t (m.qs.getD 0 default)).2).getD i default) 0 0 a2 b2))) (h4))),
               DS.ok_over fun s0 => OpAt.ggo rfl rfl rfl rfl rfl (q_not),
               DS.ok_over fun s0 => OpAt.go rfl rfl (q_pick (hz := by exact rfl)),
               DS.ok_over fun s0 => OpAt.go rfl rfl (q_move (hy := by exact rfl)),
               DS.ok_over fun s0 => OpAt.ggo rfl rfl rfl rfl rfl (q_move),
               DS.ok_over fun s0 => OpAt.ggo rfl rfl rfl rfl rfl (q_move),
               DS.ok_over fun s0 => OpAt.ggo rfl rfl rfl rfl rfl (q_ix),
               DS.ok_over fun s0 => OpAt.ggo rfl rfl rfl rfl rfl (q_load),
               DS.ok_over fun s0 => OpAt.ggo rfl rfl rfl rfl rfl (q_move),
               DS.ok_over fun s0 => OpAt.ggo rfl rfl rfl rfl rfl (q_move),
               DS.ok_over fun s0 => OpAt.ggo rfl rfl rfl rfl rfl (q_ix),
               DS.ok_over fun s0 => OpAt.ggo rfl rfl rfl rfl rfl (q_load),
               DS.ok_over fun s0 => OpAt.ggo rfl rfl rfl rfl rfl ((OpOk.bool_is (c := false) (q_call (0) (hc := (c_audit_covers ((rnV (truV t (m.qs.getD 0 default)).2).getD i default) ((rnV m.an).getD i default) 0 0 b2 a2))) (h5))),
               DS.ok_over fun s0 => OpAt.ggo rfl rfl rfl rfl rfl (q_not),
               DS.ok_over fun s0 => OpAt.go rfl rfl (q_pick), trivial⟩ ?_
          dsimp only [final, DS.upd, AS.seto]
          refine AWp.cond_t rfl ?_
          refine AWp.seq ?_
          refine AWp.region ?_
          refine AOps.cons rfl rfl (q_assign) ?_
          refine AOps.nil ?_
          refine AWp.ret ?_
          show Fin te Try.f28 _ _
          refine q_ret (0) [_] [_] ?_
          rw [au_7 (i := i) (by omega) (by rw [prO, h5]; simp)]; rfl
         ·
          refine AWp.draws (⟨0, [12], [1212], some 86, _, none⟩ ::
              ⟨1, [86], [1212], some 87, _, none⟩ ::
              ⟨2, [13], [1213], some 88, _, none⟩ ::
              ⟨3, [88], [1213], some 89, _, none⟩ ::
              ⟨4, [87, 89], [], some 90, _, none⟩ ::
              ⟨5, [90], [], some 91, _, none⟩ ::
              ⟨6, [91], [], some 92, _, none⟩ ::
              ⟨7, [12, 92], [1212], some 93, _, none⟩ ::
              ⟨8, [92, 93], [1212], some 94, _, none⟩ ::
              ⟨9, [13, 92], [1213], some 95, _, none⟩ ::
              ⟨10, [92, 95], [1213], some 96, _, none⟩ ::
              ⟨11, [92, 94, 96], [], some 97, _, none⟩ ::
              ⟨12, [92, 97], [], some 98, _, none⟩ ::
              ⟨13, [98], [], some 99, _, none⟩ ::
              ⟨14, [7, 99], [], some 100, _, none⟩ ::
              ⟨15, [11, 99], [], some 101, _, none⟩ ::
              ⟨16, [99, 100, 101], [], some 102, _, none⟩ ::
              ⟨17, [99, 102], [], some 103, _, none⟩ ::
              ⟨18, [99, 103], [], some 104, _, none⟩ ::
              ⟨19, [9, 99], [], some 105, _, none⟩ ::
              ⟨20, [11, 99], [], some 106, _, none⟩ ::
              ⟨21, [99, 105, 106], [], some 107, _, none⟩ ::
              ⟨22, [99, 107], [], some 108, _, none⟩ ::
              ⟨23, [99, 108], [], some 109, _, none⟩ ::
              ⟨24, [99, 104, 109], [], some 110, _, none⟩ ::
              ⟨25, [99, 110], [], some 111, _, none⟩ ::
              ⟨26, [111], [], some 112, _, none⟩ ::
              ⟨27, [7, 112], [], some 113, _, none⟩ ::
              ⟨28, [11, 112], [], some 114, _, none⟩ ::
              ⟨29, [112, 113, 114], [], some 115, _, none⟩ ::
              ⟨30, [112, 115], [], some 116, _, none⟩ ::
              ⟨31, [9, 112], [], some 117, _, none⟩ ::
              ⟨32, [11, 112], [], some 118, _, none⟩ ::
              ⟨33, [112, 117, 118], [], some 119, _, none⟩ ::
              ⟨34, [112, 119], [], some 120, _, none⟩ ::
              ⟨35, [112, 116, 120], [], some 121, _, none⟩ ::
              ⟨36, [112, 121], [], some 122, _, none⟩ ::
              ⟨37, [112, 122], [], some 123, _, none⟩ ::
              ⟨38, [123], [], some 124, _, none⟩ ::
              ⟨39, [9, 124], [], some 125, _, none⟩ ::
              ⟨40, [11, 124], [], some 126, _, none⟩ ::
              ⟨41, [124, 125, 126], [], some 127, _, none⟩ ::
              ⟨42, [124, 127], [], some 128, _, none⟩ ::
              ⟨43, [7, 124], [], some 129, _, none⟩ ::
              ⟨44, [11, 124], [], some 130, _, none⟩ ::
              ⟨45, [124, 129, 130], [], some 131, _, none⟩ ::
              ⟨46, [124, 131], [], some 132, _, none⟩ ::
              ⟨47, [124, 128, 132], [], some 133, _, none⟩ ::
              ⟨48, [124, 133], [], some 134, _, none⟩ ::
              ⟨49, [124, 134], [], some 135, _, none⟩ ::
              [])
           (⟨0, [12], [1212], some 86, .any, none⟩ ::
               ⟨1, [86], [1212], some 87, .any, none⟩ ::
               ⟨2, [13], [1213], some 88, .any, none⟩ ::
               ⟨3, [88], [1213], some 89, .any, none⟩ ::
               ⟨4, [87, 89], [], some 90, .any, none⟩ ::
               ⟨5, [90], [], some 91, .any, none⟩ ::
               ⟨6, [91], [], some 92, .any, none⟩ ::
               ⟨7, [12, 92], [1212], some 93, .any, none⟩ ::
               ⟨8, [92, 93], [1212], some 94, .any, none⟩ ::
               ⟨9, [13, 92], [1213], some 95, .any, none⟩ ::
               ⟨10, [92, 95], [1213], some 96, .any, none⟩ ::
               ⟨11, [92, 94, 96], [], some 97, .any, none⟩ ::
               ⟨12, [92, 97], [], some 98, .any, none⟩ ::
               ⟨13, [98], [], some 99, .any, none⟩ ::
               ⟨14, [7, 99], [], some 100, .any, none⟩ ::
               ⟨15, [11, 99], [], some 101, .any, none⟩ ::
               ⟨16, [99, 100, 101], [], some 102, .any, none⟩ ::
               ⟨17, [99, 102], [], some 103, .any, none⟩ ::
               ⟨18, [99, 103], [], some 104, .any, none⟩ ::
               ⟨19, [9, 99], [], some 105, .any, none⟩ ::
               ⟨20, [11, 99], [], some 106, .any, none⟩ ::
               ⟨21, [99, 105, 106], [], some 107, .any, none⟩ ::
               ⟨22, [99, 107], [], some 108, .any, none⟩ ::
               ⟨23, [99, 108], [], some 109, .any, none⟩ ::
               ⟨24, [99, 104, 109], [], some 110, .any, none⟩ ::
               ⟨25, [99, 110], [], some 111, .any, none⟩ ::
               ⟨26, [111], [], some 112, .any, none⟩ ::
               ⟨27, [7, 112], [], some 113, .any, none⟩ ::
               ⟨28, [11, 112], [], some 114, .any, none⟩ ::
               ⟨29, [112, 113, 114], [], some 115, .any, none⟩ ::
               ⟨30, [112, 115], [], some 116, .any, none⟩ ::
               ⟨31, [9, 112], [], some 117, .any, none⟩ ::
               ⟨32, [11, 112], [], some 118, .any, none⟩ ::
               ⟨33, [112, 117, 118], [], some 119, .any, none⟩ ::
               ⟨34, [112, 119], [], some 120, .any, none⟩ ::
               ⟨35, [112, 116, 120], [], some 121, .any, none⟩ ::
               ⟨36, [112, 121], [], some 122, .any, none⟩ ::
               ⟨37, [112, 122], [], some 123, .any, none⟩ ::
               ⟨38, [123], [], some 124, .any, none⟩ ::
               ⟨39, [9, 124], [], some 125, .any, none⟩ ::
               ⟨40, [11, 124], [], some 126, .any, none⟩ ::
               ⟨41, [124, 125, 126], [], some 127, .any, none⟩ ::
               ⟨42, [124, 127], [], some 128, .any, none⟩ ::
               ⟨43, [7, 124], [], some 129, .any, none⟩ ::
               ⟨44, [11, 124], [], some 130, .any, none⟩ ::
               ⟨45, [124, 129, 130], [], some 131, .any, none⟩ ::
               ⟨46, [124, 131], [], some 132, .any, none⟩ ::
               ⟨47, [124, 128, 132], [], some 133, .any, none⟩ ::
               ⟨48, [124, 133], [], some 134, .any, none⟩ ::
               ⟨49, [124, 134], [], some 135, .any, none⟩ ::
               [])
           mixed_ok rfl (by kernel_rfl) ⟨DS.ok_over fun s0 => OpAt.go rfl rfl (q_fa),
               DS.ok_over fun s0 => OpAt.go rfl rfl (q_load),
               DS.ok_over fun s0 => OpAt.go rfl rfl (q_fa),
               DS.ok_over fun s0 => OpAt.go rfl rfl (q_load),
               DS.ok_over fun s0 => OpAt.go rfl rfl ((OpOk.bool_is (c := true) (q_call (0) (hc := (c_name_Same (((rnV m.an).getD i default).getD 0 default).nm (((rnV (truV t (m.qs.getD 0 default)).2).getD i default).getD 0 default).nm (by omega) (by omega)))) (h1))),
               DS.ok_over fun s0 => OpAt.go rfl rfl (q_not),
               DS.ok_over fun s0 => OpAt.go rfl rfl (q_move (hy := by exact rfl)),
               DS.ok_over fun s0 => OpAt.ggo rfl rfl rfl rfl rfl (q_fa),
               DS.ok_over fun s0 => OpAt.ggo rfl rfl rfl rfl rfl (q_load),
               DS.ok_over fun s0 => OpAt.ggo rfl rfl rfl rfl rfl (q_fa),
               DS.ok_over fun s0 => OpAt.ggo rfl rfl rfl rfl rfl (q_load),
               DS.ok_over fun s0 => OpAt.ggo rfl rfl rfl rfl rfl ((OpOk.dec_f (q_neq) (fun k => k h2))),
               DS.ok_over fun s0 => OpAt.go rfl rfl (q_pick),
               DS.ok_over fun s0 => OpAt.go rfl rfl (q_move (hy := by exact rfl)),
               DS.ok_over fun s0 => OpAt.ggo rfl rfl rfl rfl rfl (q_move),
               DS.ok_over fun s0 => OpAt.ggo rfl rfl rfl rfl rfl (q_move),
               DS.ok_over fun s0 => OpAt.ggo rfl rfl rfl rfl rfl (q_ix),
               DS.ok_over fun s0 => OpAt.ggo rfl rfl rfl rfl rfl (q_load),
               DS.ok_over fun s0 => OpAt.ggo rfl rfl rfl rfl rfl (q_len),
               DS.ok_over fun s0 => OpAt.ggo rfl rfl rfl rfl rfl (q_move),
               DS.ok_over fun s0 => OpAt.ggo rfl rfl rfl rfl rfl (q_move),
               DS.ok_over fun s0 => OpAt.ggo rfl rfl rfl rfl rfl (q_ix),
               DS.ok_over fun s0 => OpAt.ggo rfl rfl rfl rfl rfl (q_load),
               DS.ok_over fun s0 => OpAt.ggo rfl rfl rfl rfl rfl (q_len),
               DS.ok_over fun s0 => OpAt.ggo rfl rfl rfl rfl rfl ((OpOk.dec_f (q_neq) (fun k => k (congrArg (fun x : Nat => (x : Int)) h3)))),
               DS.ok_over fun s0 => OpAt.go rfl rfl (q_pick),
               DS.ok_over fun s0 => OpAt.go rfl rfl (q_move (hy := by exact rfl)),
               DS.ok_over fun s0 => OpAt.ggo rfl rfl rfl rfl rfl (q_move),
               DS.ok_over fun s0 => OpAt.ggo rfl rfl rfl rfl rfl (q_move),
               DS.ok_over fun s0 => OpAt.ggo rfl rfl rfl rfl rfl (q_ix),
               DS.ok_over fun s0 => OpAt.ggo rfl rfl rfl rfl rfl (q_load),
               DS.ok_over fun s0 => OpAt.ggo rfl rfl rfl rfl rfl (q_move),
               DS.ok_over fun s0 => OpAt.ggo rfl rfl rfl rfl rfl (q_move),
               DS.ok_over fun s0 => OpAt.ggo rfl rfl rfl rfl rfl (q_ix),
               DS.ok_over fun s0 => OpAt.ggo rfl rfl rfl rfl rfl (q_load),
               DS.ok_over fun s0 => OpAt.ggo rfl rfl rfl rfl rfl ((OpOk.bool_is (c := true) (q_call (0) (hc := (c_audit_covers ((rnV m.an).getD i default) ((rnV (truV t (m.qs.getD 0 default)).2).getD i default) 0 0 a2 b2))) (h4))),
               DS.ok_over fun s0 => OpAt.ggo rfl rfl rfl rfl rfl (q_not),
               DS.ok_over fun s0 => OpAt.go rfl rfl (q_pick (hz := by exact rfl)),
               DS.ok_over fun s0 => OpAt.go rfl rfl (q_move (hy := by exact rfl)),
               DS.ok_over fun s0 => OpAt.ggo rfl rfl rfl rfl rfl (q_move),
               DS.ok_over fun s0 => OpAt.ggo rfl rfl rfl rfl rfl (q_move),
               DS.ok_over fun s0 => OpAt.ggo rfl rfl rfl rfl rfl (q_ix),
               DS.ok_over fun s0 => OpAt.ggo rfl rfl rfl rfl rfl (q_load),
               DS.ok_over fun s0 => OpAt.ggo rfl rfl rfl rfl rfl (q_move),
               DS.ok_over fun s0 => OpAt.ggo rfl rfl rfl rfl rfl (q_move),
               DS.ok_over fun s0 => OpAt.ggo rfl rfl rfl rfl rfl (q_ix),
               DS.ok_over fun s0 => OpAt.ggo rfl rfl rfl rfl rfl (q_load),
               DS.ok_over fun s0 => OpAt.ggo rfl rfl rfl rfl rfl ((OpOk.bool_is (c := true) (q_call (0) (hc := (c_audit_covers ((rnV (truV t (m.qs.getD 0 default)).2).getD i default) ((rnV m.an).getD i default) 0 0 b2 a2))) (h5))),
               DS.ok_over fun s0 => OpAt.ggo rfl rfl rfl rfl rfl (q_not),
               DS.ok_over fun s0 => OpAt.go rfl rfl (q_pick), trivial⟩ ?_
          dsimp only [final, DS.upd, AS.seto]
          refine AWp.cond_f rfl ?_
          refine AWp.skip ?_
          refine AWp.region ?_
          refine AOps.cons rfl rfl (q_add) ?_
          refine AOps.cons rfl rfl (q_move) ?_
          refine AOps.nil ?_
          refine ⟨i + 1, ?_, Back.mk' (HasT.cons HasT.nil) HasH.nil, ?_⟩
          ·
           exact ⟨by omega, lt_step hj (by rw [prO, h1, decide_eq_true h2, decide_eq_true h3, h4, h5]; rfl)⟩
          ·
           first | omega | (simp; omega)
        ·
         refine AOps.nil ?_
         refine AWp.seq ?_
         refine AWp.cond_f rfl ?_
         refine AWp.exit ?_
         refine AWp.seq ?_
         refine AWp.region ?_
         refine AOps.cons rfl rfl (q_assign) ?_
         refine AOps.nil ?_
         refine AWp.ret ?_
         show Fin te Try.f28 _ _
         refine q_ret (0) [_] [_] ?_
         rw [au_yes (by omega) h6_0 h4_5 (Decidable.not_not.1 h6_12) (by omega) (by omega) (fun j hjl => hj j (by omega))]; rfl
   ·
    refine AOps.cons rfl rfl (q_not) ?_
    refine AOps.cons rfl rfl (q_move) ?_
    refine AOps.gskip rfl rfl rfl rfl rfl rfl rfl rfl ?_
    refine AOps.gskip rfl rfl rfl rfl rfl rfl rfl rfl ?_
    refine AOps.cons rfl rfl (q_pick) ?_
    refine AOps.cons rfl rfl (q_move) ?_
    refine AOps.gskip rfl rfl rfl rfl rfl rfl rfl rfl ?_
    refine AOps.gskip rfl rfl rfl rfl rfl rfl rfl rfl ?_
    refine AOps.gskip rfl rfl rfl rfl rfl rfl rfl rfl ?_
    refine AOps.gskip rfl rfl rfl rfl rfl rfl rfl rfl ?_
    refine AOps.gskip rfl rfl rfl rfl rfl rfl rfl rfl ?_
    refine AOps.gskip rfl rfl rfl rfl rfl rfl rfl rfl ?_
    refine AOps.cons rfl rfl (q_pick) ?_
    refine AOps.cons rfl rfl (q_move) ?_
    refine AOps.gskip rfl rfl rfl rfl rfl rfl rfl rfl ?_
    refine AOps.gskip rfl rfl rfl rfl rfl rfl rfl rfl ?_
    refine AOps.gskip rfl rfl rfl rfl rfl rfl rfl rfl ?_
    refine AOps.gskip rfl rfl rfl rfl rfl rfl rfl rfl ?_
    refine AOps.gskip rfl rfl rfl rfl rfl rfl rfl rfl ?_
    refine AOps.gskip rfl rfl rfl rfl rfl rfl rfl rfl ?_
    refine AOps.gskip rfl rfl rfl rfl rfl rfl rfl rfl ?_
    refine AOps.cons rfl rfl (q_pick) ?_
    refine AOps.cons rfl rfl (q_move) ?_
    refine AOps.gskip rfl rfl rfl rfl rfl rfl rfl rfl ?_
    refine AOps.gskip rfl rfl rfl rfl rfl rfl rfl rfl ?_
    refine AOps.gskip rfl rfl rfl rfl rfl rfl rfl rfl ?_
    refine AOps.gskip rfl rfl rfl rfl rfl rfl rfl rfl ?_
    refine AOps.gskip rfl rfl rfl rfl rfl rfl rfl rfl ?_
    refine AOps.cons rfl rfl (q_pick) ?_
    refine AOps.nil ?_
    refine AWp.cond_t rfl ?_
    refine AWp.seq ?_
    refine AWp.region ?_
    refine AOps.cons rfl rfl (q_assign) ?_
    refine AOps.nil ?_
    refine AWp.ret ?_
    show Fin te Try.f28 _ _
    refine q_ret (0) [_] [_] ?_
    rw [au_2 h6_0]; rfl
  ·
   refine AOps.cons rfl rfl (q_assign) ?_
   refine AOps.cons rfl rfl (q_assign) ?_
   refine AOps.nil ?_
   refine AWp.seq ?_
   refine AWp.region ?_
   refine AOps.cons rfl rfl (q_fa) ?_
   refine AOps.cons rfl rfl (q_load) ?_
   refine AOps.cons rfl rfl (q_call (0) (hc := (c_audit_runs (truV t (m.qs.getD 0 default)).2 hvo.1 hvo.2))) ?_
   refine AOps.cons rfl rfl (q_move) ?_
   refine AOps.cons rfl rfl (q_extract) ?_
   refine AOps.cons rfl rfl (q_extract) ?_
   refine AOps.cons rfl rfl (q_assign) ?_
   refine AOps.cons rfl rfl (q_assign) ?_
   refine AOps.nil ?_
   refine AWp.seq ?_
   refine AWp.seq ?_
   refine AWp.region ?_
   refine AOps.bool rfl rfl (q_move) (fun h6_0 => ?_) (fun h6_0 => ?_)
   ·
    refine AOps.cons rfl rfl (q_not) ?_
    refine AOps.cons rfl rfl (q_move) ?_
    refine AOps.gcons rfl rfl rfl rfl rfl (q_move) ?_
    refine AOps.gcons rfl rfl rfl rfl rfl (q_not) ?_
    refine AOps.cons rfl rfl (q_pick) ?_
    refine AOps.cons rfl rfl (q_move) ?_
    refine AOps.gskip rfl rfl rfl rfl rfl rfl rfl rfl ?_
    refine AOps.gskip rfl rfl rfl rfl rfl rfl rfl rfl ?_
    refine AOps.gskip rfl rfl rfl rfl rfl rfl rfl rfl ?_
    refine AOps.gskip rfl rfl rfl rfl rfl rfl rfl rfl ?_
    refine AOps.gskip rfl rfl rfl rfl rfl rfl rfl rfl ?_
    refine AOps.gskip rfl rfl rfl rfl rfl rfl rfl rfl ?_
    refine AOps.cons rfl rfl (q_pick) ?_
    refine AOps.cons rfl rfl (q_move) ?_
    refine AOps.gskip rfl rfl rfl rfl rfl rfl rfl rfl ?_
    refine AOps.gskip rfl rfl rfl rfl rfl rfl rfl rfl ?_
    refine AOps.gskip rfl rfl rfl rfl rfl rfl rfl rfl ?_
    refine AOps.gskip rfl rfl rfl rfl rfl rfl rfl rfl ?_
    refine AOps.gskip rfl rfl rfl rfl rfl rfl rfl rfl ?_
    refine AOps.gskip rfl rfl rfl rfl rfl rfl rfl rfl ?_
    refine AOps.gskip rfl rfl rfl rfl rfl rfl rfl rfl ?_
    refine AOps.cons rfl rfl (q_pick) ?_
    refine AOps.cons rfl rfl (q_move) ?_
    refine AOps.gskip rfl rfl rfl rfl rfl rfl rfl rfl ?_
    refine AOps.gskip rfl rfl rfl rfl rfl rfl rfl rfl ?_
    refine AOps.gskip rfl rfl rfl rfl rfl rfl rfl rfl ?_
    refine AOps.gskip rfl rfl rfl rfl rfl rfl rfl rfl ?_
    refine AOps.gskip rfl rfl rfl rfl rfl rfl rfl rfl ?_
    refine AOps.cons rfl rfl (q_pick) ?_
    refine AOps.nil ?_
    refine AWp.cond_t rfl ?_
    refine AWp.seq ?_
    refine AWp.region ?_
    refine AOps.cons rfl rfl (q_assign) ?_
    refine AOps.nil ?_
    refine AWp.ret ?_
    show Fin te Try.f28 _ _
    refine q_ret (0) [_] [_] ?_
    rw [au_3 h4_5]; rfl
   ·
    refine AOps.cons rfl rfl (q_not) ?_
    refine AOps.cons rfl rfl (q_move) ?_
    refine AOps.gskip rfl rfl rfl rfl rfl rfl rfl rfl ?_
    refine AOps.gskip rfl rfl rfl rfl rfl rfl rfl rfl ?_
    refine AOps.cons rfl rfl (q_pick) ?_
    refine AOps.cons rfl rfl (q_move) ?_
    refine AOps.gskip rfl rfl rfl rfl rfl rfl rfl rfl ?_
    refine AOps.gskip rfl rfl rfl rfl rfl rfl rfl rfl ?_
    refine AOps.gskip rfl rfl rfl rfl rfl rfl rfl rfl ?_
    refine AOps.gskip rfl rfl rfl rfl rfl rfl rfl rfl ?_
    refine AOps.gskip rfl rfl rfl rfl rfl rfl rfl rfl ?_
    refine AOps.gskip rfl rfl rfl rfl rfl rfl rfl rfl ?_
    refine AOps.cons rfl rfl (q_pick) ?_
    refine AOps.cons rfl rfl (q_move) ?_
    refine AOps.gskip rfl rfl rfl rfl rfl rfl rfl rfl ?_
    refine AOps.gskip rfl rfl rfl rfl rfl rfl rfl rfl ?_
    refine AOps.gskip rfl rfl rfl rfl rfl rfl rfl rfl ?_
    refine AOps.gskip rfl rfl rfl rfl rfl rfl rfl rfl ?_
    refine AOps.gskip rfl rfl rfl rfl rfl rfl rfl rfl ?_
    refine AOps.gskip rfl rfl rfl rfl rfl rfl rfl rfl ?_
    refine AOps.gskip rfl rfl rfl rfl rfl rfl rfl rfl ?_
    refine AOps.cons rfl rfl (q_pick) ?_
    refine AOps.cons rfl rfl (q_move) ?_
    refine AOps.gskip rfl rfl rfl rfl rfl rfl rfl rfl ?_
    refine AOps.gskip rfl rfl rfl rfl rfl rfl rfl rfl ?_
    refine AOps.gskip rfl rfl rfl rfl rfl rfl rfl rfl ?_
    refine AOps.gskip rfl rfl rfl rfl rfl rfl rfl rfl ?_
    refine AOps.gskip rfl rfl rfl rfl rfl rfl rfl rfl ?_
    refine AOps.cons rfl rfl (q_pick) ?_
    refine AOps.nil ?_
    refine AWp.cond_t rfl ?_
    refine AWp.seq ?_
    refine AWp.region ?_
    refine AOps.cons rfl rfl (q_assign) ?_
    refine AOps.nil ?_
    refine AWp.ret ?_
    show Fin te Try.f28 _ _
    refine q_ret (0) [_] [_] ?_
    rw [au_2 h6_0]; rfl
end Go.Proofs.Ytokccoloholgaaa.Fw


set_option linter.unusedVariables false
set_option linter.unusedSimpArgs false
namespace Go.Proofs.Ytokccoloholgaaa.Fw
open Go.RowKit
def setP (r o : Rr) : Bool := decide (lowR r = lowR o) && decide (r.cs = o.cs)
def setH (a b : List Rr) : Bool := a.all fun r => b.any (setP r)
def NmB (l : List Rr) : Prop := ∀ x ∈ l, x.nm.length ≤ 140737488351232
theorem RrsOk.take {l : List Rr} (h : RrsOk l) (n : Nat) : RrsOk (l.take n) := ⟨by have := h.1; rw [List.length_take]; omega, fun x hx => h.2 x (List.mem_of_mem_take hx)⟩
theorem RrsOk.drop {l : List Rr} (h : RrsOk l) (n : Nat) : RrsOk (l.drop n) := ⟨by have := h.1; rw [List.length_drop]; omega, fun x hx => h.2 x (List.mem_of_mem_drop hx)⟩
theorem NmB.drop {l : List Rr} (h : NmB l) (n : Nat) : NmB (l.drop n) := fun x hx => h x (List.mem_of_mem_drop hx)
section
variable {t : Tr} {m : Msg}
end
end Go.Proofs.Ytokccoloholgaaa.Fw


set_option linter.unusedVariables false
set_option linter.unusedSimpArgs false
namespace Go.Proofs.Ytokccoloholgaaa.Fw
open Go.RowKit
end Go.Proofs.Ytokccoloholgaaa.Fw


set_option linter.unusedVariables false
set_option linter.unusedSimpArgs false
namespace Go.Proofs.Ytokccoloholgaaa.Fw
open Go.RowKit
structure Ev where
  rp : Bool
  st : Int
  tm : Int
  m : Msg
  deriving Inhabited, DecidableEq
def evC (x : Ev) : List AV := [tf x.rp, i64 x.st, i64 x.tm, i64 x.m.h.id, tf x.m.h.resp, i64 x.m.h.op, tf x.m.h.aa, tf x.m.h.tc, tf x.m.h.rd, tf x.m.h.ra, i64 x.m.h.code, .fz 0 x.m.qs.length (cl quc x.m.qs), .fz 0 x.m.an.length (cl rrc x.m.an), .fz 0 x.m.au.length (cl rrc x.m.au), .fz 0 x.m.ad.length (cl rrc x.m.ad)]
def EvsOk (l : List Ev) : Prop := l.length * 160 ≤ 140737488351232 ∧ ∀ x ∈ l, MsgOk x.m
def ansB (q r : Ev) : Bool := !q.rp && decide (q.st = r.st) && decide (q.m.h.id = r.m.h.id) && decide (q.m.h.op = r.m.h.op) && (q.m.h.rd == r.m.h.rd) && decide ((q.m.qs.length : Int) = 1) && decide (q.m.qs = r.m.qs)
def okB (r : Ev) : Bool := r.m.h.resp && r.m.h.ra
def fitB (l : List Ev) (done : List Bool) (r : Ev) (j : Nat) : Bool := !done.getD j false && ansB (l.getD j default) r
def prdF (l : List Ev) : Nat → Nat → List Bool → Bool
  | 0, _, _ => true
  | n + 1, i, done => if (l.getD i default).rp then
      match (List.range i).find? (fitB l done (l.getD i default)) with
      | none => false
      | some j => if okB (l.getD i default) then prdF l n (i + 1) (done.set j true) else false
    else prdF l n (i + 1) done
def prd (l : List Ev) : Bool := prdF l l.length 0 (List.replicate l.length false)
theorem prdF_q {l : List Ev} {n i : Nat} {done : List Bool} (h : (l.getD i default).rp = false) : prdF l (n + 1) i done = prdF l n (i + 1) done := by rw [prdF, h]; rfl
theorem prdF_no {l : List Ev} {n i : Nat} {done : List Bool} (h : (l.getD i default).rp = true) (hf : ∀ j, j < i → fitB l done (l.getD i default) j = false) : prdF l (n + 1) i done = false := by
  rw [prdF, if_pos h]
  have : (List.range i).find? (fitB l done (l.getD i default)) = none := by
    rw [List.find?_eq_none]; intro j hj; rw [List.mem_range] at hj; rw [hf j hj]; exact Bool.false_ne_true
  rw [this]
theorem find_first {p : Nat → Bool} {i j : Nat} (hj : j < i) (h : p j = true) (hf : ∀ k, k < j → p k = false) : (List.range i).find? p = some j := by
  rw [List.find?_range_eq_some]
  exact ⟨h, by simpa using hj, fun k hk => by simp [hf k hk]⟩
theorem prdF_yes {l : List Ev} {n i j : Nat} {done : List Bool} (h : (l.getD i default).rp = true) (hj : j < i) (hfj : fitB l done (l.getD i default) j = true) (hf : ∀ k, k < j → fitB l done (l.getD i default) k = false) :
    prdF l (n + 1) i done = if okB (l.getD i default) then prdF l n (i + 1) (done.set j true) else false := by
  rw [prdF, if_pos h, find_first hj hfj hf]
structure Open (l : List Ev) (i : Nat) (m : List (Int × Bool)) (done : List Bool) : Prop where
  nd : MNd m
  len : done.length = l.length
  fresh : ∀ j : Nat, i ≤ j → done.getD j false = false
  dom : ∀ j : Nat, (mget m (j : Int)).getD false = true → j < i
  get : ∀ j : Nat, j < i → (mget m (j : Int)).getD false = (!(l.getD j default).rp && !done.getD j false)
theorem Open.start (l : List Ev) : Open l 0 [] (List.replicate l.length false) := ⟨MNd.nil, by simp, fun j _ => by
  rw [List.getD_eq_getElem?_getD, List.getElem?_replicate]; split <;> rfl, fun j h => by simp [mget] at h, fun j h => absurd h (by omega)⟩
theorem Open.query {l : List Ev} {i : Nat} {m : List (Int × Bool)} {done : List Bool} (h : Open l i m done) (hq : (l.getD i default).rp = false) : Open l (i + 1) (mput m (i : Int) true) done := by
  refine ⟨h.nd.put _ _, h.len, fun j hj => h.fresh j (by omega), fun j hj => ?_, fun j hj => ?_⟩
  · rw [mget_put] at hj
    by_cases e : (i : Int) = j
    · omega
    · rw [if_neg e] at hj; have := h.dom j hj; omega
  · rw [mget_put]
    by_cases e : (i : Int) = j
    · obtain rfl : i = j := by omega
      rw [if_pos rfl, hq, h.fresh i (Nat.le_refl _)]; rfl
    · rw [if_neg e]; exact h.get j (by omega)
theorem Open.reply {l : List Ev} {i k : Nat} {m : List (Int × Bool)} {done : List Bool} (h : Open l i m done) (hk : k < i) (hi : i < l.length) (hr : (l.getD i default).rp = true) : Open l (i + 1) (mdel m (k : Int)) (done.set k true) := by
  have hset : ∀ j, k ≠ j → (done.set k true).getD j false = done.getD j false := fun j e => by
    rw [List.getD_eq_getElem?_getD, List.getD_eq_getElem?_getD, List.getElem?_set_ne e]
  refine ⟨h.nd.del _, by simp [h.len], fun j hj => by rw [hset j (by omega)]; exact h.fresh j (by omega), fun j hj => ?_, fun j hj => ?_⟩
  · rw [mget_del h.nd] at hj
    by_cases e : (k : Int) = j
    · rw [if_pos e] at hj; cases hj
    · rw [if_neg e] at hj; have := h.dom j hj; omega
  · rw [mget_del h.nd]
    by_cases e : (k : Int) = j
    · obtain rfl : k = j := by omega
      have : (done.set k true).getD k false = true := by
        rw [List.getD_eq_getElem?_getD, List.getElem?_set_self (by rw [h.len]; omega)]; rfl
      rw [if_pos rfl, this]; simp
    · rw [if_neg e, hset j (by omega)]
      by_cases e2 : j = i
      · subst e2
        rw [hr, Bool.not_true, Bool.false_and]
        cases hx : (mget m (j : Int)).getD false with
        | false => rfl
        | true => exact absurd (h.dom j hx) (by omega)
      · exact h.get j (by omega)
theorem Open.fit {l : List Ev} {i j : Nat} {m : List (Int × Bool)} {done : List Bool} (h : Open l i m done) (hj : j < i) (r : Ev) : fitB l done r j = ((mget m (j : Int)).getD false && ansB (l.getD j default) r) := by
  rw [h.get j hj, fitB, ansB]
  cases (l.getD j default).rp <;> cases done.getD j false <;> simp
set_option maxRecDepth 20000 in
set_option maxHeartbeats 2000000 in
theorem c_audit_answers (q r : Ev) (hq : MsgOk q.m) : AC Try.prog 72 [.agg (evC q), .agg (evC r)] emp (Ret (tf (ansB q r))) := by
 refine AC.intro te_ok (fn := Try.f72) ⟨Try.func72, rfl, rfl⟩ (Nat.le_of_ble_eq_true rfl) ?_
 refine AWp.seq ?_
 refine AWp.region ?_
 refine AOps.cons rfl rfl (q_box 100) ?_
 refine AOps.cons rfl rfl (q_box 101) ?_
 refine AOps.cons rfl rfl (q_assign) ?_
 refine AOps.nil ?_
 refine AWp.seq ?_
 refine AWp.draws [⟨0, [2], [100], some 7, _, none⟩,
     ⟨1, [7], [100], some 8, _, none⟩,
     ⟨2, [3], [101], some 9, _, none⟩,
     ⟨3, [9], [101], some 10, _, none⟩,
     ⟨4, [], [204], some 5, _, some (204, _)⟩,
     ⟨5, [], [205], some 6, _, some (205, _)⟩,
     ⟨6, [5, 8], [204], none, _, some (204, _)⟩,
     ⟨7, [6, 10], [205], none, _, some (205, _)⟩]
  [⟨0, [2], [100], some 7, .any, none⟩,
      ⟨1, [7], [100], some 8, .any, none⟩,
      ⟨2, [3], [101], some 9, .any, none⟩,
      ⟨3, [9], [101], some 10, .any, none⟩,
      ⟨4, [], [204], some 5, .any, some (204, .box [])⟩,
      ⟨5, [], [205], some 6, .any, some (205, .box [])⟩,
      ⟨6, [5, 8], [204], none, .any, some (204, .box [])⟩,
      ⟨7, [6, 10], [205], none, .any, some (205, .box [])⟩]
  mixed_ok rfl (by kernel_rfl) ⟨DS.ok_over fun s0 => OpAt.go rfl rfl (q_fa),
      DS.ok_over fun s0 => OpAt.go rfl rfl (q_load),
      DS.ok_over fun s0 => OpAt.go rfl rfl (q_fa),
      DS.ok_over fun s0 => OpAt.go rfl rfl (q_load),
      DS.ok_over fun s0 => OpAt.go rfl rfl (q_alloc 204),
      DS.ok_over fun s0 => OpAt.go rfl rfl (q_alloc 205),
      DS.ok_over fun s0 => OpAt.go rfl rfl (q_store),
      DS.ok_over fun s0 => OpAt.go rfl rfl (q_store), trivial⟩ ?_
 dsimp only [final, DS.upd, AS.seto]
 refine AWp.seq ?_
 refine AWp.region ?_
 refine AOps.cons rfl rfl (q_fa) ?_
 refine AOps.bool rfl rfl (q_load) (fun h2_1 => ?_) (fun h2_1 => ?_)
 ·
  refine AOps.cons rfl rfl (q_not) ?_
  refine AOps.cons rfl rfl (q_move) ?_
  refine AOps.gskip rfl rfl rfl rfl rfl rfl rfl rfl ?_
  refine AOps.gskip rfl rfl rfl rfl rfl rfl rfl rfl ?_
  refine AOps.gskip rfl rfl rfl rfl rfl rfl rfl rfl ?_
  refine AOps.gskip rfl rfl rfl rfl rfl rfl rfl rfl ?_
  refine AOps.gskip rfl rfl rfl rfl rfl rfl rfl rfl ?_
  refine AOps.cons rfl rfl (q_pick) ?_
  refine AOps.cons rfl rfl (q_move) ?_
  refine AOps.gskip rfl rfl rfl rfl rfl rfl rfl rfl ?_
  refine AOps.gskip rfl rfl rfl rfl rfl rfl rfl rfl ?_
  refine AOps.gskip rfl rfl rfl rfl rfl rfl rfl rfl ?_
  refine AOps.gskip rfl rfl rfl rfl rfl rfl rfl rfl ?_
  refine AOps.gskip rfl rfl rfl rfl rfl rfl rfl rfl ?_
  refine AOps.gskip rfl rfl rfl rfl rfl rfl rfl rfl ?_
  refine AOps.gskip rfl rfl rfl rfl rfl rfl rfl rfl ?_
  refine AOps.cons rfl rfl (q_pick) ?_
  refine AOps.cons rfl rfl (q_move) ?_
  refine AOps.gskip rfl rfl rfl rfl rfl rfl rfl rfl ?_
  refine AOps.gskip rfl rfl rfl rfl rfl rfl rfl rfl ?_
  refine AOps.gskip rfl rfl rfl rfl rfl rfl rfl rfl ?_
  refine AOps.gskip rfl rfl rfl rfl rfl rfl rfl rfl ?_
  refine AOps.gskip rfl rfl rfl rfl rfl rfl rfl rfl ?_
  refine AOps.gskip rfl rfl rfl rfl rfl rfl rfl rfl ?_
  refine AOps.gskip rfl rfl rfl rfl rfl rfl rfl rfl ?_
  refine AOps.cons rfl rfl (q_pick) ?_
  refine AOps.cons rfl rfl (q_move) ?_
  refine AOps.gskip rfl rfl rfl rfl rfl rfl rfl rfl ?_
  refine AOps.gskip rfl rfl rfl rfl rfl rfl rfl rfl ?_
  refine AOps.gskip rfl rfl rfl rfl rfl rfl rfl rfl ?_
  refine AOps.gskip rfl rfl rfl rfl rfl rfl rfl rfl ?_
  refine AOps.gskip rfl rfl rfl rfl rfl rfl rfl rfl ?_
  refine AOps.gskip rfl rfl rfl rfl rfl rfl rfl rfl ?_
  refine AOps.gskip rfl rfl rfl rfl rfl rfl rfl rfl ?_
  refine AOps.cons rfl rfl (q_pick) ?_
  refine AOps.cons rfl rfl (q_move) ?_
  refine AOps.gskip rfl rfl rfl rfl rfl rfl rfl rfl ?_
  refine AOps.gskip rfl rfl rfl rfl rfl rfl rfl rfl ?_
  refine AOps.gskip rfl rfl rfl rfl rfl rfl rfl rfl ?_
  refine AOps.gskip rfl rfl rfl rfl rfl rfl rfl rfl ?_
  refine AOps.cons rfl rfl (q_pick) ?_
  refine AOps.cons rfl rfl (q_move) ?_
  refine AOps.gskip rfl rfl rfl rfl rfl rfl rfl rfl ?_
  refine AOps.gskip rfl rfl rfl rfl rfl rfl rfl rfl ?_
  refine AOps.gskip rfl rfl rfl rfl rfl rfl rfl rfl ?_
  refine AOps.gskip rfl rfl rfl rfl rfl rfl rfl rfl ?_
  refine AOps.gskip rfl rfl rfl rfl rfl rfl rfl rfl ?_
  refine AOps.cons rfl rfl (q_pick) ?_
  refine AOps.cons rfl rfl (q_assign) ?_
  refine AOps.nil ?_
  refine AWp.ret ?_
  show Fin te Try.f72 _ _
  refine q_ret (0) [_] [_] ?_
  exact congrArg tf (by simp [ansB, *])
 ·
  refine AOps.cons rfl rfl (q_not) ?_
  refine AOps.cons rfl rfl (q_move) ?_
  refine AOps.gcons rfl rfl rfl rfl rfl (q_fa) ?_
  refine AOps.gcons rfl rfl rfl rfl rfl (q_load) ?_
  refine AOps.gcons rfl rfl rfl rfl rfl (q_fa) ?_
  refine AOps.gcons rfl rfl rfl rfl rfl (q_load) ?_
  refine AOps.gdec rfl rfl rfl rfl rfl (q_eql) (fun h2_8 => ?_) (fun h2_8 => ?_)
  ·
   refine AOps.cons rfl rfl (q_pick) ?_
   refine AOps.cons rfl rfl (q_move) ?_
   refine AOps.gcons rfl rfl rfl rfl rfl (q_fa) ?_
   refine AOps.gcons rfl rfl rfl rfl rfl (q_fa) ?_
   refine AOps.gcons rfl rfl rfl rfl rfl (q_load) ?_
   refine AOps.gcons rfl rfl rfl rfl rfl (q_fa) ?_
   refine AOps.gcons rfl rfl rfl rfl rfl (q_fa) ?_
   refine AOps.gcons rfl rfl rfl rfl rfl (q_load) ?_
   refine AOps.gdec rfl rfl rfl rfl rfl (q_eql) (fun h2_17 => ?_) (fun h2_17 => ?_)
   ·
    refine AOps.cons rfl rfl (q_pick) ?_
    refine AOps.cons rfl rfl (q_move) ?_
    refine AOps.gcons rfl rfl rfl rfl rfl (q_fa) ?_
    refine AOps.gcons rfl rfl rfl rfl rfl (q_fa) ?_
    refine AOps.gcons rfl rfl rfl rfl rfl (q_load) ?_
    refine AOps.gcons rfl rfl rfl rfl rfl (q_fa) ?_
    refine AOps.gcons rfl rfl rfl rfl rfl (q_fa) ?_
    refine AOps.gcons rfl rfl rfl rfl rfl (q_load) ?_
    refine AOps.gdec rfl rfl rfl rfl rfl (q_eql) (fun h2_26 => ?_) (fun h2_26 => ?_)
    ·
     refine AOps.cons rfl rfl (q_pick) ?_
     refine AOps.cons rfl rfl (q_move) ?_
     refine AOps.gcons rfl rfl rfl rfl rfl (q_fa) ?_
     refine AOps.gcons rfl rfl rfl rfl rfl (q_fa) ?_
     refine AOps.gcons rfl rfl rfl rfl rfl (q_load) ?_
     refine AOps.gcons rfl rfl rfl rfl rfl (q_fa) ?_
     refine AOps.gcons rfl rfl rfl rfl rfl (q_fa) ?_
     refine AOps.gcons rfl rfl rfl rfl rfl (q_load) ?_
     refine AOps.gbool rfl rfl rfl rfl rfl (q_beql) (fun h2_35 => ?_) (fun h2_35 => ?_)
     ·
      refine AOps.cons rfl rfl (q_pick) ?_
      refine AOps.cons rfl rfl (q_move) ?_
      refine AOps.gcons rfl rfl rfl rfl rfl (q_fa) ?_
      refine AOps.gcons rfl rfl rfl rfl rfl (q_load) ?_
      refine AOps.gcons rfl rfl rfl rfl rfl (q_len) ?_
      refine AOps.gdec rfl rfl rfl rfl rfl (q_eql) (fun h2_41 => ?_) (fun h2_41 => ?_)
      ·
       refine AOps.cons rfl rfl (q_pick) ?_
       refine AOps.cons rfl rfl (q_move) ?_
       refine AOps.gcons rfl rfl rfl rfl rfl (q_fa) ?_
       refine AOps.gcons rfl rfl rfl rfl rfl (q_load) ?_
       refine AOps.gcons rfl rfl rfl rfl rfl (q_fa) ?_
       refine AOps.gcons rfl rfl rfl rfl rfl (q_load) ?_
       refine AOps.gcons rfl rfl rfl rfl rfl (q_call (0) (hc := (c_Equal_qu q.m.qs r.m.qs 0 0 (by have := hq.1; omega)))) ?_
       refine AOps.cons rfl rfl (q_pick) ?_
       refine AOps.cons rfl rfl (q_assign) ?_
       refine AOps.nil ?_
       refine AWp.ret ?_
       show Fin te Try.f72 _ _
       refine q_ret (0) [_] [_] ?_
       exact congrArg tf (by simp [ansB, *])
      ·
       refine AOps.cons rfl rfl (q_pick) ?_
       refine AOps.cons rfl rfl (q_move) ?_
       refine AOps.gskip rfl rfl rfl rfl rfl rfl rfl rfl ?_
       refine AOps.gskip rfl rfl rfl rfl rfl rfl rfl rfl ?_
       refine AOps.gskip rfl rfl rfl rfl rfl rfl rfl rfl ?_
       refine AOps.gskip rfl rfl rfl rfl rfl rfl rfl rfl ?_
       refine AOps.gskip rfl rfl rfl rfl rfl rfl rfl rfl ?_
       refine AOps.cons rfl rfl (q_pick) ?_
       refine AOps.cons rfl rfl (q_assign) ?_
       refine AOps.nil ?_
       refine AWp.ret ?_
       show Fin te Try.f72 _ _
       refine q_ret (0) [_] [_] ?_
       exact congrArg tf (by simp [ansB, *])
     ·
      refine AOps.cons rfl rfl (q_pick) ?_
      refine AOps.cons rfl rfl (q_move) ?_
      refine AOps.gskip rfl rfl rfl rfl rfl rfl rfl rfl ?_
      refine AOps.gskip rfl rfl rfl rfl rfl rfl rfl rfl ?_
      refine AOps.gskip rfl rfl rfl rfl rfl rfl rfl rfl ?_
      refine AOps.gskip rfl rfl rfl rfl rfl rfl rfl rfl ?_
      refine AOps.cons rfl rfl (q_pick) ?_
      refine AOps.cons rfl rfl (q_move) ?_
      refine AOps.gskip rfl rfl rfl rfl rfl rfl rfl rfl ?_
      refine AOps.gskip rfl rfl rfl rfl rfl rfl rfl rfl ?_
      refine AOps.gskip rfl rfl rfl rfl rfl rfl rfl rfl ?_
      refine AOps.gskip rfl rfl rfl rfl rfl rfl rfl rfl ?_
      refine AOps.gskip rfl rfl rfl rfl rfl rfl rfl rfl ?_
      refine AOps.cons rfl rfl (q_pick) ?_
      refine AOps.cons rfl rfl (q_assign) ?_
      refine AOps.nil ?_
      refine AWp.ret ?_
      show Fin te Try.f72 _ _
      refine q_ret (0) [_] [_] ?_
      exact congrArg tf (by simp [ansB, *])
    ·
     refine AOps.cons rfl rfl (q_pick) ?_
     refine AOps.cons rfl rfl (q_move) ?_
     refine AOps.gskip rfl rfl rfl rfl rfl rfl rfl rfl ?_
     refine AOps.gskip rfl rfl rfl rfl rfl rfl rfl rfl ?_
     refine AOps.gskip rfl rfl rfl rfl rfl rfl rfl rfl ?_
     refine AOps.gskip rfl rfl rfl rfl rfl rfl rfl rfl ?_
     refine AOps.gskip rfl rfl rfl rfl rfl rfl rfl rfl ?_
     refine AOps.gskip rfl rfl rfl rfl rfl rfl rfl rfl ?_
     refine AOps.gskip rfl rfl rfl rfl rfl rfl rfl rfl ?_
     refine AOps.cons rfl rfl (q_pick) ?_
     refine AOps.cons rfl rfl (q_move) ?_
     refine AOps.gskip rfl rfl rfl rfl rfl rfl rfl rfl ?_
     refine AOps.gskip rfl rfl rfl rfl rfl rfl rfl rfl ?_
     refine AOps.gskip rfl rfl rfl rfl rfl rfl rfl rfl ?_
     refine AOps.gskip rfl rfl rfl rfl rfl rfl rfl rfl ?_
     refine AOps.cons rfl rfl (q_pick) ?_
     refine AOps.cons rfl rfl (q_move) ?_
     refine AOps.gskip rfl rfl rfl rfl rfl rfl rfl rfl ?_
     refine AOps.gskip rfl rfl rfl rfl rfl rfl rfl rfl ?_
     refine AOps.gskip rfl rfl rfl rfl rfl rfl rfl rfl ?_
     refine AOps.gskip rfl rfl rfl rfl rfl rfl rfl rfl ?_
     refine AOps.gskip rfl rfl rfl rfl rfl rfl rfl rfl ?_
     refine AOps.cons rfl rfl (q_pick) ?_
     refine AOps.cons rfl rfl (q_assign) ?_
     refine AOps.nil ?_
     refine AWp.ret ?_
     show Fin te Try.f72 _ _
     refine q_ret (0) [_] [_] ?_
     exact congrArg tf (by simp [ansB, *])
   ·
    refine AOps.cons rfl rfl (q_pick) ?_
    refine AOps.cons rfl rfl (q_move) ?_
    refine AOps.gskip rfl rfl rfl rfl rfl rfl rfl rfl ?_
    refine AOps.gskip rfl rfl rfl rfl rfl rfl rfl rfl ?_
    refine AOps.gskip rfl rfl rfl rfl rfl rfl rfl rfl ?_
    refine AOps.gskip rfl rfl rfl rfl rfl rfl rfl rfl ?_
    refine AOps.gskip rfl rfl rfl rfl rfl rfl rfl rfl ?_
    refine AOps.gskip rfl rfl rfl rfl rfl rfl rfl rfl ?_
    refine AOps.gskip rfl rfl rfl rfl rfl rfl rfl rfl ?_
    refine AOps.cons rfl rfl (q_pick) ?_
    refine AOps.cons rfl rfl (q_move) ?_
    refine AOps.gskip rfl rfl rfl rfl rfl rfl rfl rfl ?_
    refine AOps.gskip rfl rfl rfl rfl rfl rfl rfl rfl ?_
    refine AOps.gskip rfl rfl rfl rfl rfl rfl rfl rfl ?_
    refine AOps.gskip rfl rfl rfl rfl rfl rfl rfl rfl ?_
    refine AOps.gskip rfl rfl rfl rfl rfl rfl rfl rfl ?_
    refine AOps.gskip rfl rfl rfl rfl rfl rfl rfl rfl ?_
    refine AOps.gskip rfl rfl rfl rfl rfl rfl rfl rfl ?_
    refine AOps.cons rfl rfl (q_pick) ?_
    refine AOps.cons rfl rfl (q_move) ?_
    refine AOps.gskip rfl rfl rfl rfl rfl rfl rfl rfl ?_
    refine AOps.gskip rfl rfl rfl rfl rfl rfl rfl rfl ?_
    refine AOps.gskip rfl rfl rfl rfl rfl rfl rfl rfl ?_
    refine AOps.gskip rfl rfl rfl rfl rfl rfl rfl rfl ?_
    refine AOps.cons rfl rfl (q_pick) ?_
    refine AOps.cons rfl rfl (q_move) ?_
    refine AOps.gskip rfl rfl rfl rfl rfl rfl rfl rfl ?_
    refine AOps.gskip rfl rfl rfl rfl rfl rfl rfl rfl ?_
    refine AOps.gskip rfl rfl rfl rfl rfl rfl rfl rfl ?_
    refine AOps.gskip rfl rfl rfl rfl rfl rfl rfl rfl ?_
    refine AOps.gskip rfl rfl rfl rfl rfl rfl rfl rfl ?_
    refine AOps.cons rfl rfl (q_pick) ?_
    refine AOps.cons rfl rfl (q_assign) ?_
    refine AOps.nil ?_
    refine AWp.ret ?_
    show Fin te Try.f72 _ _
    refine q_ret (0) [_] [_] ?_
    exact congrArg tf (by simp [ansB, *])
  ·
   refine AOps.cons rfl rfl (q_pick) ?_
   refine AOps.cons rfl rfl (q_move) ?_
   refine AOps.gskip rfl rfl rfl rfl rfl rfl rfl rfl ?_
   refine AOps.gskip rfl rfl rfl rfl rfl rfl rfl rfl ?_
   refine AOps.gskip rfl rfl rfl rfl rfl rfl rfl rfl ?_
   refine AOps.gskip rfl rfl rfl rfl rfl rfl rfl rfl ?_
   refine AOps.gskip rfl rfl rfl rfl rfl rfl rfl rfl ?_
   refine AOps.gskip rfl rfl rfl rfl rfl rfl rfl rfl ?_
   refine AOps.gskip rfl rfl rfl rfl rfl rfl rfl rfl ?_
   refine AOps.cons rfl rfl (q_pick) ?_
   refine AOps.cons rfl rfl (q_move) ?_
   refine AOps.gskip rfl rfl rfl rfl rfl rfl rfl rfl ?_
   refine AOps.gskip rfl rfl rfl rfl rfl rfl rfl rfl ?_
   refine AOps.gskip rfl rfl rfl rfl rfl rfl rfl rfl ?_
   refine AOps.gskip rfl rfl rfl rfl rfl rfl rfl rfl ?_
   refine AOps.gskip rfl rfl rfl rfl rfl rfl rfl rfl ?_
   refine AOps.gskip rfl rfl rfl rfl rfl rfl rfl rfl ?_
   refine AOps.gskip rfl rfl rfl rfl rfl rfl rfl rfl ?_
   refine AOps.cons rfl rfl (q_pick) ?_
   refine AOps.cons rfl rfl (q_move) ?_
   refine AOps.gskip rfl rfl rfl rfl rfl rfl rfl rfl ?_
   refine AOps.gskip rfl rfl rfl rfl rfl rfl rfl rfl ?_
   refine AOps.gskip rfl rfl rfl rfl rfl rfl rfl rfl ?_
   refine AOps.gskip rfl rfl rfl rfl rfl rfl rfl rfl ?_
   refine AOps.gskip rfl rfl rfl rfl rfl rfl rfl rfl ?_
   refine AOps.gskip rfl rfl rfl rfl rfl rfl rfl rfl ?_
   refine AOps.gskip rfl rfl rfl rfl rfl rfl rfl rfl ?_
   refine AOps.cons rfl rfl (q_pick) ?_
   refine AOps.cons rfl rfl (q_move) ?_
   refine AOps.gskip rfl rfl rfl rfl rfl rfl rfl rfl ?_
   refine AOps.gskip rfl rfl rfl rfl rfl rfl rfl rfl ?_
   refine AOps.gskip rfl rfl rfl rfl rfl rfl rfl rfl ?_
   refine AOps.gskip rfl rfl rfl rfl rfl rfl rfl rfl ?_
   refine AOps.cons rfl rfl (q_pick) ?_
   refine AOps.cons rfl rfl (q_move) ?_
   refine AOps.gskip rfl rfl rfl rfl rfl rfl rfl rfl ?_
   refine AOps.gskip rfl rfl rfl rfl rfl rfl rfl rfl ?_
   refine AOps.gskip rfl rfl rfl rfl rfl rfl rfl rfl ?_
   refine AOps.gskip rfl rfl rfl rfl rfl rfl rfl rfl ?_
   refine AOps.gskip rfl rfl rfl rfl rfl rfl rfl rfl ?_
   refine AOps.cons rfl rfl (q_pick) ?_
   refine AOps.cons rfl rfl (q_assign) ?_
   refine AOps.nil ?_
   refine AWp.ret ?_
   show Fin te Try.f72 _ _
   refine q_ret (0) [_] [_] ?_
   exact congrArg tf (by simp [ansB, *])
set_option maxRecDepth 20000 in
set_option maxHeartbeats 2000000 in
theorem c_audit_Paired (l : List Ev) (lv : Nat) (h : EvsOk l) : AC Try.prog 30 [.fz lv l.length (cl evC l)] emp (Ret (tf (prd l))) := by
 obtain ⟨hb, hm⟩ := id h
 refine AC.intro te_ok (fn := Try.f30) ⟨Try.func30, rfl, rfl⟩ (Nat.le_of_ble_eq_true rfl) ?_
 refine AWp.seq ?_
 refine AWp.region ?_
 refine AOps.cons rfl rfl (q_assign) ?_
 refine AOps.nil ?_
 refine AWp.seq ?_
 refine AWp.region ?_
 refine AOps.cons rfl rfl (q_makeMap 200 MInt (fun b : Bool => tf b)) ?_
 refine AOps.cons rfl rfl (q_assign) ?_
 refine AOps.nil ?_
 refine AWp.seq ?_
 refine AWp.seq ?_
 refine AWp.region ?_
 refine AOps.cons rfl rfl (q_move) ?_
 refine AOps.cons rfl rfl (q_len) ?_
 refine AOps.cons rfl rfl (q_move) ?_
 refine AOps.nil ?_
 refine AWp.block ?_
 refine AWp.loopR (α := Nat × List (Int × Bool) × List Bool) [2, 4, 5, 6, 7, 8, 12, 13, 14, 15, 16, 17, 18, 19, 20, 21, 22, 23, 24, 25, 26, 27, 28, 29, 30, 31, 32, 33, 34, 35, 36, 37, 38, 39, 40, 41, 42, 43, 44, 45, 46, 47, 48, 49, 50, 51, 52, 53, 54, 55, 56, 57, 58, 59] (fun x_ => [(12, i64 (x_.1))]) (fun x_ => [(200, .map (me MInt (fun b : Bool => tf b) (x_.2.1)))]) (fun x_ => (x_.1) ≤ l.length ∧ Open l (x_.1) (x_.2.1) (x_.2.2) ∧ prdF l (l.length - (x_.1)) (x_.1) (x_.2.2) = prd l) (fun x_ => l.length - (x_.1)) (0, [], List.replicate l.length false) ?_ (Back.mk' (HasT.cons HasT.nil) (HasH.cons HasH.nil (h2 := by exact objIn_me (fun _ => rfl)) )) ?_
 ·
  exact ⟨Nat.zero_le _, Open.start l, rfl⟩
 ·
  rintro ⟨i, m, done⟩ hI3
  change i ≤ l.length ∧ Open l i m done ∧ prdF l (l.length - i) i done = prd l at hI3
  obtain ⟨hi, ho, hp⟩ := hI3
  refine AWp.as (s' := AS.over _ [2, 4, 5, 6, 7, 8, 12, 13, 14, 15, 16, 17, 18, 19, 20, 21, 22, 23, 24, 25, 26, 27, 28, 29, 30, 31, 32, 33, 34, 35, 36, 37, 38, 39, 40, 41, 42, 43, 44, 45, 46, 47, 48, 49, 50, 51, 52, 53, 54, 55, 56, 57, 58, 59] [(12, i64 i)] [(200, .map (me MInt (fun b : Bool => tf b) m))]) rfl ?_
  refine AWp.seq ?_
  refine AWp.region ?_
  refine AOps.dec rfl rfl (q_lss) (fun h3_0 => ?_) (fun h3_0 => ?_)
  ·
   refine AOps.nil ?_
   refine AWp.seq ?_
   refine AWp.cond_t rfl ?_
   refine AWp.skip ?_
   refine AWp.seq ?_
   refine AWp.block ?_
   refine AWp.seq ?_
   refine AWp.region ?_
   have hsub : l.length - i = (l.length - (i + 1)) + 1 := by omega
   have hmi : MsgOk (l.getD i default).m := hm _ (getD_mem (by omega))
   refine AOps.cons rfl rfl (q_move) ?_
   refine AOps.cons rfl rfl (q_ix) ?_
   refine AOps.cons rfl rfl (q_load) ?_
   refine AOps.cons rfl rfl (q_alloc 503) ?_
   refine AOps.cons rfl rfl (q_assign) ?_
   refine AOps.cons rfl rfl (q_store) ?_
   refine AOps.nil ?_
   refine AWp.seq ?_
   refine AWp.seq ?_
   refine AWp.region ?_
   refine AOps.cons rfl rfl (q_fa) ?_
   refine AOps.bool rfl rfl (q_load) (fun h5_1 => ?_) (fun h5_1 => ?_)
   ·
    refine AOps.cons rfl rfl (q_not) ?_
    refine AOps.nil ?_
    refine AWp.cond_f rfl ?_
    refine AWp.skip ?_
    refine AWp.seq ?_
    refine AWp.region ?_
    refine AOps.cons rfl rfl (q_assign) ?_
    refine AOps.nil ?_
    refine AWp.seq ?_
    refine AWp.seq ?_
    refine AWp.region ?_
    refine AOps.cons rfl rfl (q_move) ?_
    refine AOps.cons rfl rfl (q_move) ?_
    refine AOps.cons rfl rfl (q_sl) ?_
    refine AOps.cons rfl rfl (q_len) ?_
    refine AOps.cons rfl rfl (q_move) ?_
    refine AOps.nil ?_
    refine AWp.block ?_
    refine AWp.loopR (α := Nat) [6, 7, 8, 26, 27, 28, 29, 30, 31, 32, 33, 34, 35, 36, 37, 38, 39, 40] (fun j => [(26, i64 j), (6, i64 (-1))]) (fun j => []) (fun j => j ≤ i ∧ ∀ k, k < j → fitB l done (l.getD i default) k = false) (fun j => i - j) 0 ?_ (Back.mk' (HasT.cons (HasT.cons HasT.nil)) HasH.nil) ?_
    ·
     exact ⟨Nat.zero_le _, fun k hk => absurd hk (Nat.not_lt_zero k)⟩
    ·
     rintro j ⟨hji0, hj⟩
     refine AWp.seq ?_
     refine AWp.region ?_
     refine AOps.dec rfl rfl (q_lss) (fun h9_0 => ?_) (fun h9_0 => ?_)
     ·
      refine AOps.nil ?_
      refine AWp.seq ?_
      refine AWp.cond_t rfl ?_
      refine AWp.skip ?_
      refine AWp.seq ?_
      refine AWp.block ?_
      refine AWp.seq ?_
      refine AWp.region ?_
      have hji : j < i := by have := h9_0; simp at this; omega
      have hgj : (l.take i).getD j default = l.getD j default := by rw [List.getD_eq_getElem?_getD, List.getD_eq_getElem?_getD, List.getElem?_take_of_lt hji]
      have hmj : MsgOk (l.getD j default).m := hm _ (getD_mem (by omega))
      refine AOps.cons rfl rfl (q_move) ?_
      refine AOps.cons rfl rfl (q_ix) ?_
      refine AOps.cons rfl rfl (q_load) ?_
      refine AOps.cons rfl rfl (q_alloc 1103) ?_
      refine AOps.cons rfl rfl (q_assign) ?_
      refine AOps.cons rfl rfl (q_store) ?_
      refine AOps.nil ?_
      refine AWp.seq ?_
      refine AWp.region ?_
      refine AOps.cons rfl rfl (q_move) ?_
      refine AOps.cons rfl rfl (q_move) ?_
      refine AOps.bool rfl rfl (q_lookup MInt) (fun h11_2 => ?_) (fun h11_2 => ?_)
      ·
       refine AOps.cons rfl rfl (q_move) ?_
       refine AOps.gcons rfl rfl rfl rfl rfl (q_load) ?_
       refine AOps.gcons rfl rfl rfl rfl rfl (q_load) ?_
       refine AOps.gbool rfl rfl rfl rfl rfl (q_call (lv) (hc := (c_audit_answers ((l.take i).getD j default) (l.getD i default) (by rw [hgj]; exact hmj)))) (fun h11_6 => ?_) (fun h11_6 => ?_)
       ·
        refine AOps.cons rfl rfl (q_pick) ?_
        refine AOps.nil ?_
        refine AWp.cond_t rfl ?_
        refine AWp.seq ?_
        refine AWp.region ?_
        refine AOps.cons rfl rfl (q_move) ?_
        refine AOps.cons rfl rfl (q_assign) ?_
        refine AOps.nil ?_
        refine AWp.exit ?_
        refine AWp.seq ?_
        refine AWp.seq ?_
        refine AWp.region ?_
        rw [hgj] at h11_6
        have hfj : fitB l done (l.getD i default) j = true := by rw [ho.fit hji, h11_2, h11_6]; rfl
        refine AOps.cons rfl rfl (q_move) ?_
        refine AOps.dec rfl rfl (q_lss) (fun h14_1 => ?_) (fun h14_1 => ?_)
        ·
         exfalso; omega
        ·
         refine AOps.cons rfl rfl (q_move) ?_
         refine AOps.gcons rfl rfl rfl rfl rfl (q_fa) ?_
         refine AOps.gcons rfl rfl rfl rfl rfl (q_fa) ?_
         refine AOps.gcons rfl rfl rfl rfl rfl (q_fa) ?_
         refine AOps.gbool rfl rfl rfl rfl rfl (q_load) (fun h14_6 => ?_) (fun h14_6 => ?_)
         ·
          refine AOps.gcons rfl rfl rfl rfl rfl (q_not) ?_
          refine AOps.cons rfl rfl (q_pick) ?_
          refine AOps.cons rfl rfl (q_move) ?_
          refine AOps.gcons rfl rfl rfl rfl rfl (q_fa) ?_
          refine AOps.gcons rfl rfl rfl rfl rfl (q_fa) ?_
          refine AOps.gcons rfl rfl rfl rfl rfl (q_fa) ?_
          refine AOps.gbool rfl rfl rfl rfl rfl (q_load) (fun h14_13 => ?_) (fun h14_13 => ?_)
          ·
           refine AOps.gcons rfl rfl rfl rfl rfl (q_not) ?_
           refine AOps.cons rfl rfl (q_pick) ?_
           refine AOps.nil ?_
           refine AWp.cond_f rfl ?_
           refine AWp.skip ?_
           refine AWp.region ?_
           have hok : okB (l.getD i default) = true := by
             have e6 : (l.getD i default).m.h.resp = true := h14_6
             have e7 : (l.getD i default).m.h.ra = true := h14_13
             rw [okB, e6, e7]; rfl
           refine AOps.cons rfl rfl (q_move) ?_
           refine AOps.cons rfl rfl (q_move) ?_
           refine AOps.cons rfl rfl (q_delete MInt) ?_
           refine AOps.nil ?_
           refine AWp.region ?_
           refine AOps.cons rfl rfl (q_add) ?_
           refine AOps.cons rfl rfl (q_move) ?_
           refine AOps.nil ?_
           refine ⟨(i + 1, mdel m j, done.set j true), ?_, Back.mk' (HasT.cons HasT.nil) (HasH.cons HasH.nil (h2 := by exact objIn_me (fun _ => rfl)) ), ?_⟩
           ·
            try dsimp only
            exact ⟨by omega, ho.reply hji (by omega) h5_1, by rw [← hp, hsub, prdF_yes (i := i) h5_1 hji hfj hj, hok, if_pos rfl]⟩
           ·
            try dsimp only
            first | omega | (simp; omega)
          ·
           refine AOps.gcons rfl rfl rfl rfl rfl (q_not) ?_
           refine AOps.cons rfl rfl (q_pick) ?_
           refine AOps.nil ?_
           refine AWp.cond_t rfl ?_
           refine AWp.seq ?_
           refine AWp.region ?_
           refine AOps.cons rfl rfl (q_assign) ?_
           refine AOps.nil ?_
           refine AWp.ret ?_
           show Fin te Try.f30 _ _
           have hok : okB (l.getD i default) = false := by
             have e6 := h14_13
             simp only [okB]
             first | (have e7 : (l.getD i default).m.h.resp = false := e6; rw [e7]; rfl) | (have e7 : (l.getD i default).m.h.ra = false := e6; rw [e7, Bool.and_false])
           rw [← hp, hsub, prdF_yes (i := i) h5_1 hji hfj hj, hok]
           refine q_ret (lv) [_] [_] ?_
           rfl
         ·
          refine AOps.gcons rfl rfl rfl rfl rfl (q_not) ?_
          refine AOps.cons rfl rfl (q_pick) ?_
          refine AOps.cons rfl rfl (q_move) ?_
          refine AOps.gskip rfl rfl rfl rfl rfl rfl rfl rfl ?_
          refine AOps.gskip rfl rfl rfl rfl rfl rfl rfl rfl ?_
          refine AOps.gskip rfl rfl rfl rfl rfl rfl rfl rfl ?_
          refine AOps.gskip rfl rfl rfl rfl rfl rfl rfl rfl ?_
          refine AOps.gskip rfl rfl rfl rfl rfl rfl rfl rfl ?_
          refine AOps.cons rfl rfl (q_pick) ?_
          refine AOps.nil ?_
          refine AWp.cond_t rfl ?_
          refine AWp.seq ?_
          refine AWp.region ?_
          refine AOps.cons rfl rfl (q_assign) ?_
          refine AOps.nil ?_
          refine AWp.ret ?_
          show Fin te Try.f30 _ _
          have hok : okB (l.getD i default) = false := by
            have e6 := h14_6
            simp only [okB]
            first | (have e7 : (l.getD i default).m.h.resp = false := e6; rw [e7]; rfl) | (have e7 : (l.getD i default).m.h.ra = false := e6; rw [e7, Bool.and_false])
          rw [← hp, hsub, prdF_yes (i := i) h5_1 hji hfj hj, hok]
          refine q_ret (lv) [_] [_] ?_
          rfl
       ·
        refine AOps.cons rfl rfl (q_pick) ?_
        refine AOps.nil ?_
        refine AWp.cond_f rfl ?_
        refine AWp.skip ?_
        refine AWp.region ?_
        refine AOps.cons rfl rfl (q_add) ?_
        refine AOps.cons rfl rfl (q_move) ?_
        refine AOps.nil ?_
        rw [hgj] at h11_6
        refine ⟨j + 1, ?_, Back.mk' (HasT.cons (HasT.cons HasT.nil)) HasH.nil, ?_⟩
        ·
         refine ⟨by omega, fun k hk => ?_⟩
         by_cases e : k = j
         · subst e; rw [ho.fit hji, h11_2, h11_6]; rfl
         · exact hj k (by omega)
        ·
         first | omega | (simp; omega)
      ·
       refine AOps.cons rfl rfl (q_move) ?_
       refine AOps.gskip rfl rfl rfl rfl rfl rfl rfl rfl ?_
       refine AOps.gskip rfl rfl rfl rfl rfl rfl rfl rfl ?_
       refine AOps.gskip rfl rfl rfl rfl rfl rfl rfl rfl ?_
       refine AOps.cons rfl rfl (q_pick) ?_
       refine AOps.nil ?_
       refine AWp.cond_f rfl ?_
       refine AWp.skip ?_
       refine AWp.region ?_
       refine AOps.cons rfl rfl (q_add) ?_
       refine AOps.cons rfl rfl (q_move) ?_
       refine AOps.nil ?_
       refine ⟨j + 1, ?_, Back.mk' (HasT.cons (HasT.cons HasT.nil)) HasH.nil, ?_⟩
       ·
        refine ⟨by omega, fun k hk => ?_⟩
        by_cases e : k = j
        · subst e; rw [ho.fit hji, h11_2]; rfl
        · exact hj k (by omega)
       ·
        first | omega | (simp; omega)
     ·
      refine AOps.nil ?_
      refine AWp.seq ?_
      refine AWp.cond_f rfl ?_
      refine AWp.exit ?_
      refine AWp.seq ?_
      refine AWp.seq ?_
      refine AWp.region ?_
      refine AOps.cons rfl rfl (q_move) ?_
      refine AOps.dec rfl rfl (q_lss) (fun h14_1 => ?_) (fun h14_1 => ?_)
      ·
       refine AOps.cons rfl rfl (q_move) ?_
       refine AOps.gskip rfl rfl rfl rfl rfl rfl rfl rfl ?_
       refine AOps.gskip rfl rfl rfl rfl rfl rfl rfl rfl ?_
       refine AOps.gskip rfl rfl rfl rfl rfl rfl rfl rfl ?_
       refine AOps.gskip rfl rfl rfl rfl rfl rfl rfl rfl ?_
       refine AOps.gskip rfl rfl rfl rfl rfl rfl rfl rfl ?_
       refine AOps.cons rfl rfl (q_pick) ?_
       refine AOps.cons rfl rfl (q_move) ?_
       refine AOps.gskip rfl rfl rfl rfl rfl rfl rfl rfl ?_
       refine AOps.gskip rfl rfl rfl rfl rfl rfl rfl rfl ?_
       refine AOps.gskip rfl rfl rfl rfl rfl rfl rfl rfl ?_
       refine AOps.gskip rfl rfl rfl rfl rfl rfl rfl rfl ?_
       refine AOps.gskip rfl rfl rfl rfl rfl rfl rfl rfl ?_
       refine AOps.cons rfl rfl (q_pick) ?_
       refine AOps.nil ?_
       refine AWp.cond_t rfl ?_
       refine AWp.seq ?_
       refine AWp.region ?_
       refine AOps.cons rfl rfl (q_assign) ?_
       refine AOps.nil ?_
       refine AWp.ret ?_
       show Fin te Try.f30 _ _
       obtain rfl : j = i := by simp at h9_0; omega
       rw [← hp, hsub, prdF_no (i := j) h5_1 hj]
       refine q_ret (lv) [_] [_] ?_
       rfl
      ·
       exfalso; exact h14_1 (by decide)
   ·
    refine AOps.cons rfl rfl (q_not) ?_
    refine AOps.nil ?_
    refine AWp.cond_t rfl ?_
    refine AWp.seq ?_
    refine AWp.region ?_
    refine AOps.cons rfl rfl (q_move) ?_
    refine AOps.cons rfl rfl (q_move) ?_
    refine AOps.cons rfl rfl (q_mapUpdate MInt true) ?_
    refine AOps.nil ?_
    refine AWp.exit ?_
    refine AWp.region ?_
    refine AOps.cons rfl rfl (q_add) ?_
    refine AOps.cons rfl rfl (q_move) ?_
    refine AOps.nil ?_
    refine ⟨(i + 1, mput m i true, done), ?_, Back.mk' (HasT.cons HasT.nil) (HasH.cons HasH.nil (h2 := by exact objIn_me (fun _ => rfl)) ), ?_⟩
    ·
     try dsimp only
     exact ⟨by omega, ho.query h5_1, by rw [← hp, hsub, prdF_q (i := i) h5_1]⟩
    ·
     try dsimp only
     first | omega | (simp; omega)
  ·
   refine AOps.nil ?_
   refine AWp.seq ?_
   refine AWp.cond_f rfl ?_
   refine AWp.exit ?_
   refine AWp.seq ?_
   refine AWp.region ?_
   refine AOps.cons rfl rfl (q_assign) ?_
   refine AOps.nil ?_
   refine AWp.ret ?_
   show Fin te Try.f30 _ _
   obtain rfl : i = l.length := by omega
   rw [← hp, Nat.sub_self]
   refine q_ret (lv) [_] [_] ?_
   rfl
end Go.Proofs.Ytokccoloholgaaa.Fw


set_option linter.unusedVariables false
set_option linter.unusedSimpArgs false
namespace Go.Proofs.Ytokccoloholgaaa.Fw
open Go.RowKit
theorem cov_set (a b : List Rr) : covB a b = setH a b := by
  have e : ∀ r o, covP r o = setP r o := fun r o => by rw [covP, setP, low_plain, low_plain, Bool.and_comm]
  have e2 : covQ b = fun r => !(b.any (setP r)) := funext fun r => by rw [covQ, show covP r = setP r from funext (e r)]
  rw [covB, setH, e2, any_not, Bool.not_not]
theorem evs_nil' : EvsOk [] := ⟨by decide, fun x hx => by cases hx⟩
end Go.Proofs.Ytokccoloholgaaa.Fw


set_option linter.unusedVariables false
set_option linter.unusedSimpArgs false
namespace Go.Proofs.Ytokccoloholgaaa.Fw
open Go.RowKit
theorem truF_code {t : Tr} {ty : Int} : ∀ {k : Nat} {acc : List Rr} {n : List UInt8} {x : Int × List Rr}, truF t ty k acc n = some x → x.1 = 0 ∨ x.1 = 3
  | 0, _, _, _, hx => by cases hx
  | k + 1, acc, n, x, hx => by
    by_cases hend : (atZ (hZ t n) n 5).length = 0 ∨ ty = 5
    · rw [truF_end hend] at hx; cases hx
      dsimp only
      split
      · exact .inl rfl
      · exact .inr rfl
    · by_cases h8 : acc.length = 8
      · rw [truF_full hend h8] at hx; cases hx
      · rw [truF_on hend h8] at hx
        exact truF_code hx
def mT (c : Int) (q : Qu) (an : List Rr) : Msg := ⟨⟨0, false, 0, false, false, false, false, c⟩, [q], an, [], []⟩
theorem rrs_nil : RrsOk [] := ⟨by decide, fun x hx => (List.not_mem_nil hx).elim⟩
theorem mT_ok {c : Int} {q : Qu} {an : List Rr} (hq : q.nm.length ≤ 140737488351232) (h : RrsOk an ∧ ∀ x ∈ an, x.nm.length ≤ 140737488351232) : MsgOk (mT c q an) ∧ NmOk (mT c q an) :=
  ⟨⟨by show 1 * 32 ≤ _; decide, h.1, rrs_nil, rrs_nil⟩, fun x hx => by rw [List.mem_singleton.1 hx]; exact hq, fun x hx => by
    simp only [Msg.rrs, mT, List.append_nil] at hx
    exact h.2 x hx⟩
theorem pr_self {l : List Rr} (h : rnO l = true) : prA (rnV l) (rnV l) = true := by
  rw [prA, decide_eq_true rfl, Bool.true_and, range_all_iff]
  intro j hj
  obtain ⟨h1, h2, _⟩ := rnV_run (getD_mem' (l := rnV l) hj)
  generalize (rnV l).getD j default = a at *
  have hc : canN (a.getD 0 default).nm = true := by
    rw [rnO, List.all_eq_true] at h
    exact h _ (h2 _ (getD_mem' h1))
  have hs : setH a a = true := by
    rw [setH, List.all_eq_true]
    intro r hr
    exact List.any_eq_true.2 ⟨r, hr, by rw [setP, decide_eq_true rfl, decide_eq_true rfl]; rfl⟩
  rw [prO, sameN_self hc, decide_eq_true rfl, decide_eq_true rfl, cov_set, hs]; rfl
section
variable {t : Tr} {q : Qu}
theorem at_none {c : Int} {an : List Rr} (h : (truO t q).isSome = false) : auT t (mT c q an) = false := au_2 h
theorem tru_get (h : (truO t q).isSome = true) : ∃ x, truO t q = some x ∧ truV t q = x := by
  cases hx : truO t q with
  | none => rw [hx] at h; cases h
  | some x => exact ⟨x, rfl, (tru_some hx).1⟩
theorem tru_code (h : (truO t q).isSome = true) : (truV t q).1 = 0 ∨ (truV t q).1 = 3 := by
  obtain ⟨x, h1, h2⟩ := tru_get h
  rw [h2]
  exact truF_code (tru_parts h1).2.2.2.2.2
theorem tru_can (h : (truO t q).isSome = true) : rnO (truV t q).2 = true := by
  obtain ⟨x, h1, h2⟩ := tru_get h
  rw [h2]
  obtain ⟨k1, k2, _, _, _, k3⟩ := tru_parts h1
  rw [rnO, List.all_eq_true]
  exact truF_can k1 k2 (fun r hr => (List.not_mem_nil hr).elim) k3
theorem at_true (h : (truO t q).isSome = true) : auT t (mT (truV t q).1 q (truV t q).2) = true := by
  have e : auT t (mT (truV t q).1 q (truV t q).2) = ((truO t q).isSome && (rnO (truV t q).2 && (decide ((truV t q).1 = (truV t q).1) && (decide ((truV t q).2.length = (truV t q).2.length) && prA (rnV (truV t q).2) (rnV (truV t q).2))))) := by
    show auT t (mT (truV t q).1 q (truV t q).2) = _
    rw [auT, decide_eq_true (show (mT (truV t q).1 q (truV t q).2).qs.length = 1 from rfl), Bool.true_and]; rfl
  rw [e, h, tru_can h, pr_self (tru_can h), decide_eq_true rfl, decide_eq_true rfl]; rfl
theorem at_wrong (h : (truO t q).isSome = true) : auT t (mT 2 q (truV t q).2) = false := au_4 (fun e => by
  have : (2 : Int) = (truV t q).1 := e
  rcases tru_code h with k | k <;> omega)
theorem at_less {c : Int} {n : Nat} (h : 0 < (truV t q).2.length) (hn : n < (truV t q).2.length) : auT t (mT c q ((truV t q).2.take n)) = false := au_5 (fun e => by
  have : ((truV t q).2.take n).length = (truV t q).2.length := e
  rw [List.length_take] at this
  omega)
end
set_option maxRecDepth 20000 in
set_option maxHeartbeats 2000000 in
theorem c_ciceronelaw24_AuditTruth (t : Tr) (q : Qu) (ht : TrOk t) (hq : q.nm.length ≤ 140737488351232) : AC Try.prog 9 [.agg (trC t), .agg (quc q)] emp (Ret (tf true)) := by
 have hvo := truV_ok (q := q) ht
 have hvl := tru_len (t := t) (q := q)
 have hvt : RrsOk ((truV t q).2.take (((truV t q).2.length : Int) - 1).toNat) ∧ ∀ x ∈ ((truV t q).2.take (((truV t q).2.length : Int) - 1).toNat), x.nm.length ≤ 140737488351232 := ⟨hvo.1.take _, fun x hx => hvo.2 x (List.mem_of_mem_take hx)⟩
 refine AC.intro te_ok (fn := Try.f9) ⟨Try.func9, rfl, rfl⟩ (Nat.le_of_ble_eq_true rfl) ?_
 refine AWp.seq ?_
 refine AWp.region ?_
 refine AOps.cons rfl rfl (q_box 100) ?_
 refine AOps.cons rfl rfl (q_box 101) ?_
 refine AOps.cons rfl rfl (q_assign) ?_
 refine AOps.nil ?_
 refine AWp.seq ?_
 refine AWp.region ?_
 refine AOps.cons rfl rfl (q_load) ?_
 refine AOps.cons rfl rfl (q_load) ?_
 refine AOps.cons rfl rfl (q_call (0) (hc := (c_rTruth t q ht hq))) ?_
 refine AOps.cons rfl rfl (q_move) ?_
 refine AOps.cons rfl rfl (q_extract) ?_
 refine AOps.bool rfl rfl (q_extract) (fun h1_5 => ?_) (fun h1_5 => ?_)
 ·
  refine AOps.cons rfl rfl (q_alloc 206) ?_
  refine AOps.cons rfl rfl (q_store) ?_
  refine AOps.cons rfl rfl (q_assign) ?_
  refine AOps.nil ?_
  refine AWp.seq ?_
  refine AWp.region ?_
  refine AOps.cons rfl rfl (q_load) ?_
  refine AOps.cons rfl rfl (q_bs 301 quc [q] [(_, _)]) ?_
  refine AOps.cons rfl rfl (q_fa) ?_
  refine AOps.cons rfl rfl (q_load) ?_
  refine AOps.cons rfl rfl (q_build [(_, _), (_, _)]) ?_
  refine AOps.cons rfl rfl (q_alloc 305) ?_
  refine AOps.cons rfl rfl (q_store) ?_
  refine AOps.nil ?_
  refine AWp.seq ?_
  refine AWp.region ?_
  refine AOps.weak (Weak.full 0 [] (t := [(2, .ptr 100 0 0), (5, .ptr 206 0 0), (6, tf true), (7, .ptr 305 0 0)]) (hl := [(100, .box (trC t)), (206, .box [i64 (truV t q).1, .fz 0 (truV t q).2.length (cl rrc (truV t q).2)]), (305, .box [i64 (0), tf false, i64 0, tf false, tf false, tf false, tf false, i64 (0), .fz 0 [q].length (cl quc [q]), .fz 0 (truV t q).2.length (cl rrc (truV t q).2), .fz 0 ([] : List Rr).length (cl rrc []), .fz 0 ([] : List Rr).length (cl rrc [])])])) ?_
  refine AOps.cons rfl rfl (q_fa) ?_
  refine AOps.cons rfl rfl (q_load) ?_
  refine AOps.cons rfl rfl (q_fa) ?_
  refine AOps.cons rfl rfl (q_fa) ?_
  refine AOps.cons rfl rfl (q_store) ?_
  refine AOps.nil ?_
  refine AWp.seq ?_
  refine AWp.seq ?_
  refine AWp.region ?_
  refine AOps.cons rfl rfl (q_move) ?_
  refine AOps.cons rfl rfl (q_not) ?_
  refine AOps.nil ?_
  refine AWp.cond_f rfl ?_
  refine AWp.skip ?_
  refine AWp.seq ?_
  refine AWp.region ?_
  refine AOps.cons rfl rfl (q_load) ?_
  refine AOps.cons rfl rfl (q_alloc 701) ?_
  refine AOps.cons rfl rfl (q_store) ?_
  refine AOps.nil ?_
  refine AWp.seq ?_
  refine AWp.region ?_
  refine AOps.cons rfl rfl (q_fa) ?_
  refine AOps.cons rfl rfl (q_fa) ?_
  refine AOps.cons rfl rfl (q_store) ?_
  refine AOps.nil ?_
  refine AWp.seq ?_
  refine AWp.region ?_
  refine AOps.cons rfl rfl (q_load) ?_
  refine AOps.cons rfl rfl (q_alloc 901) ?_
  refine AOps.cons rfl rfl (q_store) ?_
  refine AOps.nil ?_
  refine AWp.seq ?_
  refine AWp.seq ?_
  refine AWp.region ?_
  refine AOps.cons rfl rfl (q_fa) ?_
  refine AOps.cons rfl rfl (q_load) ?_
  refine AOps.cons rfl rfl (q_len) ?_
  refine AOps.dec rfl rfl (q_gtr) (fun h9_3 => ?_) (fun h9_3 => ?_)
  ·
   refine AOps.nil ?_
   refine AWp.cond_t rfl ?_
   refine AWp.region ?_
   refine AOps.cons rfl rfl (q_fa) ?_
   refine AOps.cons rfl rfl (q_load) ?_
   refine AOps.cons rfl rfl (q_fa) ?_
   refine AOps.cons rfl rfl (q_load) ?_
   refine AOps.cons rfl rfl (q_len) ?_
   refine AOps.cons rfl rfl (q_sub) ?_
   refine AOps.cons rfl rfl (q_sl) ?_
   refine AOps.cons rfl rfl (q_fa) ?_
   refine AOps.cons rfl rfl (q_store) ?_
   refine AOps.nil ?_
   refine AWp.seq ?_
   refine AWp.draws [⟨0, [2], [100], some 50, _, none⟩,
       ⟨1, [7], [305], some 51, _, none⟩,
       ⟨2, [50, 51], [], some 52, _, none⟩,
       ⟨3, [52], [], some 53, _, none⟩,
       ⟨4, [2, 53], [100], some 54, _, none⟩,
       ⟨5, [8, 53], [701], some 55, _, none⟩,
       ⟨6, [53, 54, 55], [], some 56, _, none⟩,
       ⟨7, [53, 56], [], some 57, _, none⟩,
       ⟨8, [53, 57], [], some 58, _, none⟩,
       ⟨9, [58], [], some 59, _, none⟩,
       ⟨10, [2, 59], [100], some 60, _, none⟩,
       ⟨11, [9, 59], [901], some 61, _, none⟩,
       ⟨12, [59, 60, 61], [], some 62, _, none⟩,
       ⟨13, [7, 59], [305], some 63, _, none⟩,
       ⟨14, [59, 63], [305], some 64, _, none⟩,
       ⟨15, [59, 64], [], some 65, _, none⟩,
       ⟨16, [59, 65], [], some 66, _, none⟩,
       ⟨17, [59, 62, 66], [], some 67, _, none⟩,
       ⟨18, [59, 67], [], some 68, _, none⟩,
       ⟨19, [68], [], some 4, _, none⟩]
    [⟨0, [2], [100], some 50, .any, none⟩,
        ⟨1, [7], [305], some 51, .any, none⟩,
        ⟨2, [50, 51], [], some 52, .any, none⟩,
        ⟨3, [52], [], some 53, .any, none⟩,
        ⟨4, [2, 53], [100], some 54, .any, none⟩,
        ⟨5, [8, 53], [701], some 55, .any, none⟩,
        ⟨6, [53, 54, 55], [], some 56, .any, none⟩,
        ⟨7, [53, 56], [], some 57, .any, none⟩,
        ⟨8, [53, 57], [], some 58, .any, none⟩,
        ⟨9, [58], [], some 59, .any, none⟩,
        ⟨10, [2, 59], [100], some 60, .any, none⟩,
        ⟨11, [9, 59], [901], some 61, .any, none⟩,
        ⟨12, [59, 60, 61], [], some 62, .any, none⟩,
        ⟨13, [7, 59], [305], some 63, .any, none⟩,
        ⟨14, [59, 63], [305], some 64, .any, none⟩,
        ⟨15, [59, 64], [], some 65, .any, none⟩,
        ⟨16, [59, 65], [], some 66, .any, none⟩,
        ⟨17, [59, 62, 66], [], some 67, .any, none⟩,
        ⟨18, [59, 67], [], some 68, .any, none⟩,
        ⟨19, [68], [], some 4, .any, none⟩]
    mixed_ok rfl (by kernel_rfl) ⟨DS.ok_over fun s0 => OpAt.go rfl rfl (q_load),
        DS.ok_over fun s0 => OpAt.go rfl rfl (q_load),
        DS.ok_over fun s0 => OpAt.go rfl rfl ((OpOk.bool_is (c := true) (q_call (0) (hc := (c_audit_True t (mT (truV t q).1 q (truV t q).2) ht (mT_ok hq hvo).1 (mT_ok hq hvo).2))) (at_true h1_5))),
        DS.ok_over fun s0 => OpAt.go rfl rfl (q_move (hy := by exact rfl)),
        DS.ok_over fun s0 => OpAt.ggo rfl rfl rfl rfl rfl (q_load),
        DS.ok_over fun s0 => OpAt.ggo rfl rfl rfl rfl rfl (q_load),
        DS.ok_over fun s0 => OpAt.ggo rfl rfl rfl rfl rfl ((OpOk.bool_is (c := false) (q_call (0) (hc := (c_audit_True t (mT 2 q (truV t q).2) ht (mT_ok hq hvo).1 (mT_ok hq hvo).2))) (at_wrong h1_5))),
        DS.ok_over fun s0 => OpAt.ggo rfl rfl rfl rfl rfl (q_not),
        DS.ok_over fun s0 => OpAt.go rfl rfl (q_pick),
        DS.ok_over fun s0 => OpAt.go rfl rfl (q_move (hy := by exact rfl)),
        DS.ok_over fun s0 => OpAt.ggo rfl rfl rfl rfl rfl (q_load),
        DS.ok_over fun s0 => OpAt.ggo rfl rfl rfl rfl rfl (q_load),
        DS.ok_over fun s0 => OpAt.ggo rfl rfl rfl rfl rfl ((OpOk.bool_is (c := false) (q_call (0) (hc := (c_audit_True t (mT (truV t q).1 q ((truV t q).2.take (((truV t q).2.length : Int) - 1).toNat)) ht (mT_ok hq hvt).1 (mT_ok hq hvt).2))) (at_less (by omega) (by omega)))),
        DS.ok_over fun s0 => OpAt.ggo rfl rfl rfl rfl rfl (q_fa),
        DS.ok_over fun s0 => OpAt.ggo rfl rfl rfl rfl rfl (q_load),
        DS.ok_over fun s0 => OpAt.ggo rfl rfl rfl rfl rfl (q_len),
        DS.ok_over fun s0 => OpAt.ggo rfl rfl rfl rfl rfl (q_eql),
        DS.ok_over fun s0 => OpAt.ggo rfl rfl rfl rfl rfl ((OpOk.bool_is (c := true) (q_beql) (by simp; intro h; rw [h] at h9_3; simp at h9_3))),
        DS.ok_over fun s0 => OpAt.go rfl rfl (q_pick),
        DS.ok_over fun s0 => OpAt.go rfl rfl (q_assign), trivial⟩ ?_
   dsimp only [final, DS.upd, AS.seto]
   refine AWp.ret ?_
   show Fin te Try.f9 _ _
   refine q_ret (0) [_] [_] ?_
   rfl
  ·
   refine AOps.nil ?_
   refine AWp.cond_f rfl ?_
   refine AWp.skip ?_
   refine AWp.seq ?_
   refine AWp.draws [⟨0, [2], [100], some 50, _, none⟩,
       ⟨1, [7], [305], some 51, _, none⟩,
       ⟨2, [50, 51], [], some 52, _, none⟩,
       ⟨3, [52], [], some 53, _, none⟩,
       ⟨4, [2, 53], [100], some 54, _, none⟩,
       ⟨5, [8, 53], [701], some 55, _, none⟩,
       ⟨6, [53, 54, 55], [], some 56, _, none⟩,
       ⟨7, [53, 56], [], some 57, _, none⟩,
       ⟨8, [53, 57], [], some 58, _, none⟩,
       ⟨9, [58], [], some 59, _, none⟩,
       ⟨10, [2, 59], [100], some 60, _, none⟩,
       ⟨11, [9, 59], [901], some 61, _, none⟩,
       ⟨12, [59, 60, 61], [], some 62, _, none⟩,
       ⟨13, [7, 59], [305], some 63, _, none⟩,
       ⟨14, [59, 63], [305], some 64, _, none⟩,
       ⟨15, [59, 64], [], some 65, _, none⟩,
       ⟨16, [59, 65], [], some 66, _, none⟩,
       ⟨17, [59, 62, 66], [], some 67, _, none⟩,
       ⟨18, [59, 67], [], some 68, _, none⟩,
       ⟨19, [68], [], some 4, _, none⟩]
    [⟨0, [2], [100], some 50, .any, none⟩,
        ⟨1, [7], [305], some 51, .any, none⟩,
        ⟨2, [50, 51], [], some 52, .any, none⟩,
        ⟨3, [52], [], some 53, .any, none⟩,
        ⟨4, [2, 53], [100], some 54, .any, none⟩,
        ⟨5, [8, 53], [701], some 55, .any, none⟩,
        ⟨6, [53, 54, 55], [], some 56, .any, none⟩,
        ⟨7, [53, 56], [], some 57, .any, none⟩,
        ⟨8, [53, 57], [], some 58, .any, none⟩,
        ⟨9, [58], [], some 59, .any, none⟩,
        ⟨10, [2, 59], [100], some 60, .any, none⟩,
        ⟨11, [9, 59], [901], some 61, .any, none⟩,
        ⟨12, [59, 60, 61], [], some 62, .any, none⟩,
        ⟨13, [7, 59], [305], some 63, .any, none⟩,
        ⟨14, [59, 63], [305], some 64, .any, none⟩,
        ⟨15, [59, 64], [], some 65, .any, none⟩,
        ⟨16, [59, 65], [], some 66, .any, none⟩,
        ⟨17, [59, 62, 66], [], some 67, .any, none⟩,
        ⟨18, [59, 67], [], some 68, .any, none⟩,
        ⟨19, [68], [], some 4, .any, none⟩]
    mixed_ok rfl (by kernel_rfl) ⟨DS.ok_over fun s0 => OpAt.go rfl rfl (q_load),
        DS.ok_over fun s0 => OpAt.go rfl rfl (q_load),
        DS.ok_over fun s0 => OpAt.go rfl rfl ((OpOk.bool_is (c := true) (q_call (0) (hc := (c_audit_True t (mT (truV t q).1 q (truV t q).2) ht (mT_ok hq hvo).1 (mT_ok hq hvo).2))) (at_true h1_5))),
        DS.ok_over fun s0 => OpAt.go rfl rfl (q_move (hy := by exact rfl)),
        DS.ok_over fun s0 => OpAt.ggo rfl rfl rfl rfl rfl (q_load),
        DS.ok_over fun s0 => OpAt.ggo rfl rfl rfl rfl rfl (q_load),
        DS.ok_over fun s0 => OpAt.ggo rfl rfl rfl rfl rfl ((OpOk.bool_is (c := false) (q_call (0) (hc := (c_audit_True t (mT 2 q (truV t q).2) ht (mT_ok hq hvo).1 (mT_ok hq hvo).2))) (at_wrong h1_5))),
        DS.ok_over fun s0 => OpAt.ggo rfl rfl rfl rfl rfl (q_not),
        DS.ok_over fun s0 => OpAt.go rfl rfl (q_pick),
        DS.ok_over fun s0 => OpAt.go rfl rfl (q_move (hy := by exact rfl)),
        DS.ok_over fun s0 => OpAt.ggo rfl rfl rfl rfl rfl (q_load),
        DS.ok_over fun s0 => OpAt.ggo rfl rfl rfl rfl rfl (q_load),
        DS.ok_over fun s0 => OpAt.ggo rfl rfl rfl rfl rfl ((OpOk.bool_is (c := true) (q_call (0) (hc := (c_audit_True t (mT (truV t q).1 q (truV t q).2) ht (mT_ok hq hvo).1 (mT_ok hq hvo).2))) (at_true h1_5))),
        DS.ok_over fun s0 => OpAt.ggo rfl rfl rfl rfl rfl (q_fa),
        DS.ok_over fun s0 => OpAt.ggo rfl rfl rfl rfl rfl (q_load),
        DS.ok_over fun s0 => OpAt.ggo rfl rfl rfl rfl rfl (q_len),
        DS.ok_over fun s0 => OpAt.ggo rfl rfl rfl rfl rfl (q_eql),
        DS.ok_over fun s0 => OpAt.ggo rfl rfl rfl rfl rfl ((OpOk.bool_is (c := true) (q_beql) (by simp; exact List.length_eq_zero_iff.1 (by omega)))),
        DS.ok_over fun s0 => OpAt.go rfl rfl (q_pick),
        DS.ok_over fun s0 => OpAt.go rfl rfl (q_assign), trivial⟩ ?_
   dsimp only [final, DS.upd, AS.seto]
   refine AWp.ret ?_
   show Fin te Try.f9 _ _
   refine q_ret (0) [_] [_] ?_
   rfl
 ·
  refine AOps.cons rfl rfl (q_alloc 206) ?_
  refine AOps.cons rfl rfl (q_store) ?_
  refine AOps.cons rfl rfl (q_assign) ?_
  refine AOps.nil ?_
  refine AWp.seq ?_
  refine AWp.region ?_
  refine AOps.cons rfl rfl (q_load) ?_
  refine AOps.cons rfl rfl (q_bs 301 quc [q] [(_, _)]) ?_
  refine AOps.cons rfl rfl (q_fa) ?_
  refine AOps.cons rfl rfl (q_load) ?_
  refine AOps.cons rfl rfl (q_build [(_, _), (_, _)]) ?_
  refine AOps.cons rfl rfl (q_alloc 305) ?_
  refine AOps.cons rfl rfl (q_store) ?_
  refine AOps.nil ?_
  refine AWp.seq ?_
  refine AWp.region ?_
  refine AOps.weak (Weak.full 0 [] (t := [(2, .ptr 100 0 0), (5, .ptr 206 0 0), (6, tf false), (7, .ptr 305 0 0)]) (hl := [(100, .box (trC t)), (206, .box [i64 (truV t q).1, .fz 0 (truV t q).2.length (cl rrc (truV t q).2)]), (305, .box [i64 (0), tf false, i64 0, tf false, tf false, tf false, tf false, i64 (0), .fz 0 [q].length (cl quc [q]), .fz 0 (truV t q).2.length (cl rrc (truV t q).2), .fz 0 ([] : List Rr).length (cl rrc []), .fz 0 ([] : List Rr).length (cl rrc [])])])) ?_
  refine AOps.cons rfl rfl (q_fa) ?_
  refine AOps.cons rfl rfl (q_load) ?_
  refine AOps.cons rfl rfl (q_fa) ?_
  refine AOps.cons rfl rfl (q_fa) ?_
  refine AOps.cons rfl rfl (q_store) ?_
  refine AOps.nil ?_
  refine AWp.seq ?_
  refine AWp.seq ?_
  refine AWp.region ?_
  refine AOps.cons rfl rfl (q_move) ?_
  refine AOps.cons rfl rfl (q_not) ?_
  refine AOps.nil ?_
  refine AWp.cond_t rfl ?_
  refine AWp.seq ?_
  refine AWp.region ?_
  refine AOps.cons rfl rfl (q_load) ?_
  refine AOps.cons rfl rfl (q_load) ?_
  refine AOps.cons rfl rfl ((OpOk.bool_is (c := false) (q_call (0) (hc := (c_audit_True t (mT (truV t q).1 q (truV t q).2) ht (mT_ok hq hvo).1 (mT_ok hq hvo).2))) (at_none h1_5))) ?_
  refine AOps.cons rfl rfl (q_not) ?_
  refine AOps.cons rfl rfl (q_move (hy := by exact rfl)) ?_
  refine AOps.gcons rfl rfl rfl rfl rfl ((OpOk.bool_is (c := true) (q_call (0) (hA := by exact ⟨fv_nilz, trivial⟩) (hc := (c_audit_Paired [] 0 evs_nil'))) (rfl))) ?_
  refine AOps.cons rfl rfl (q_pick) ?_
  refine AOps.cons rfl rfl (q_assign) ?_
  refine AOps.nil ?_
  refine AWp.ret ?_
  show Fin te Try.f9 _ _
  refine q_ret (0) [_] [_] ?_
  rfl
end Go.Proofs.Ytokccoloholgaaa.Fw


