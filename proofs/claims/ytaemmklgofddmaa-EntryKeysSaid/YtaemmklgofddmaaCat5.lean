/- The texts Q11, W08n, P08, L08a, L08b, L08c, L08d, one behind the other: what the walks and plain laws need; conditions stand with each theorem. -/
import Derived.Test.YtaemmklgofddmaaCat4
/- Q11: a row that is given up where it was made: its slice is frozen from then on. -/
set_option linter.unusedVariables false
set_option linter.unusedSimpArgs false
namespace Go.Proofs.Ytaemmklgofddmaa.Fw
open Go.RowKit
section
variable {n : Nat} {s : AS} {o : Oper} {d : Option Tmp}
theorem OpOk.weak {P : Program} {s1 s2 : AS} (h : OpOk P n o s s1) (hw : Weak s1 s2) : OpOk P n o s s2 := by
  intro Λ w φ a hs next QQ hn
  refine h Λ w φ a hs next QQ fun w' φ' a' hs' g => ?_
  obtain ⟨φ2, hs2, g2⟩ := hw n Λ w' φ' a' hs'
  exact hn w' φ2 a' hs2 (g.trans g2)
theorem Weak.kill (d id ver esz : Nat) {α : Type} {f : α → List AV} {l : List α} (hd : s.t d = .sl id ver 0 l.length esz) (hob : s.h id = some (.row (cl f l) esz ver)) (hf : ∀ x, (f x).length = esz) (h5 : 0 < esz)
    (h3 : ∀ x, AV.oks 0 (f x) = true) : Weak s ((s.seth id (some (.row [] esz (ver + 1)))).put (some d) (.fz 0 l.length (cl f l))) := by
  intro n Λ w φ a hs
  obtain ⟨l0, hl0, hv0⟩ := hs.hs.ver (ver := ver) (cells := cl f l) hob (by simp [AObj.at])
  have hc : Chg w φ Λ s.h id ⟨none, ver + 1⟩ w := ⟨hs.hs, Nat.le_refl _, rfl, rfl, rfl, fun _ _ _ => rfl, (fun b' o' h => by cases h), (fun l hl => .inr (by rw [hl0] at hl; cases hl; show l0.ver < ver + 1; omega)), (fun l hl e => by rw [hl0] at hl; cases hl; subst e; simp at hv0)⟩
  have h1 : HSim w (upd φ id (some ⟨none, ver + 1⟩)) Λ (upd s.h id (some (.row [] esz (ver + 1)))) := hc.hsim ⟨rfl, .inl ⟨rfl, rfl⟩⟩
  refine ⟨upd φ id (some ⟨none, ver + 1⟩), ⟨hs.defs, hs.size, fun i => ?_, h1⟩, hc.goes⟩
  show Rep w _ Λ (upd s.t d (.fz 0 l.length (cl f l)) i) _
  by_cases hi : i = d
  · subst hi
    rw [upd_same]
    have hr := hs.tmps i
    rw [hd] at hr
    by_cases hz : l = []
    · subst hz
      obtain ⟨ad, cap, e⟩ := rep_len hr rfl
      rw [e]
      exact .fz0
    · have hpos : 0 < l.length := List.length_pos_iff.2 hz
      have hcl : (cl f l).length = l.length * esz := cl_length hf l
      have hcp : 0 < (cl f l).length := by rw [hcl]; exact Nat.mul_pos hpos h5
      obtain ⟨l1, b0, oo0, arr, T, lo, hi, g1, g2, g3, g4, g5, g6, g7⟩ := hs.hs.at (ver := ver) (cells := cl f l) hob (by simp [AObj.at]) hcp
      generalize hv : a.tmps.getD i undef = v at hr ⊢
      generalize hL : l.length = L at hr ⊢
      cases hr with
      | slx e1 e2 => rw [g1] at e1; cases e1; omega
      | sl0 e1 e2 => omega
      | sl e1 e2 e3 e4 e5 e6 =>
        rw [g1] at e1
        cases e1
        rw [g3] at e3
        cases e3
        refine .fz (fun j => arr.getD (oo0 + 0 + j) undef) ⟨?_, fun k hk => (hs.hs.lt id l1 b0 oo0 g1 g3).2 k⟩ e6 (cl_mem fun x _ => AV.oks_iff.1 (h3 x)) (fun j hj => ?_) (fun j c hj => ?_) hcp
        · rintro ⟨id', l', o', q1, q2⟩
          by_cases e : id' = id
          · subst e; rw [upd_same] at q1; cases q1; cases q2
          · rw [upd_other _ _ _ _ e] at q1
            exact e (hs.hs.inj id' id l' l1 b0 o' oo0 q1 g1 q2 g3)
        · have : oo0 + 0 + j < arr.size := by omega
          simp only [World.cell?, g4, Array.getD, this, dif_pos, getElem?_pos]
          rfl
        · obtain ⟨u, q1, q2⟩ := g7 j c hj
          have q3 : arr[oo0 + 0 + j]? = some u := q1
          rw [Array.getD_eq_getD_getElem?, q3]
          exact hc.rep q2
  · rw [upd_other _ _ _ _ hi]
    exact hc.rep (hs.tmps i)
theorem seth_seth (s : AS) (id : Nat) (a b : Option AObj) : (s.seth id a).seth id b = s.seth id b := by
  simp only [AS.seth]
  congr 1
  funext i
  by_cases h : i = id
  · subst h; rw [upd_same, upd_same]
  · rw [upd_other _ _ _ _ h, upd_other _ _ _ _ h, upd_other _ _ _ _ h]
theorem put_put (s : AS) (d : Nat) (x y : AV) : (s.put (some d) x).put (some d) y = s.put (some d) y := by
  simp only [AS.put]
  congr 1
  funext i
  by_cases h : i = d
  · subst h; rw [upd_same, upd_same]
  · rw [upd_other _ _ _ _ h, upd_other _ _ _ _ h, upd_other _ _ _ _ h]
/-- What is appended to an own row is frozen; the row is given up. -/
theorem q_appz {dd : Nat} {t t2 e : TypeId} {x y : Operand} {id ver esz bt : Nat} {α : Type} {f : α → List AV} {l m : List α} {ti tj tk : TI} (ho : o.op = .call { callee := .builtin .append, args := #[x, y], argTypes := #[t, t2] } := by exact rfl)
    (hx : s.ev x = .sl id ver 0 l.length esz := by exact rfl) (hob : s.h id = some (.row (cl f l) esz ver) := by exact rfl) (ht : te.get t = some ti := by exact rfl) (hk : ti.k = .slice e := by exact rfl) (he : te.get e = some tj := by exact rfl)
    (hesz : tj.size = esz := by exact rfl) (hbt : tj.bytes = bt := by conv => lhs; whnf) (ht2 : te.get t2 = some tk := by exact rfl) (hk2 : (match tk.k with | .slice _ | .str => true | _ => false) = true := by exact rfl)
    (hsrc : SrcTo s y f esz m := by first | exact .sl rfl rfl .row (fun _ => rfl) | exact .fz rfl (fun _ => rfl) | exact .str rfl | exact .nil rfl) (hf : ∀ x, (f x).length = esz := by exact fun _ => rfl) (h1 : ∀ x, (f x).all AV.one = true := by exact fun _ => rfl)
    (h3 : ∀ x, AV.oks 0 (f x) = true := by exact fun _ => rfl) (h5 : 0 < esz := by exact Nat.le_of_ble_eq_true rfl)
    (hb : (l.length + m.length) * bt ≤ 140737488355328 := by first | omega | (simp; omega)) (hbp : 0 < bt := by exact Nat.le_of_ble_eq_true rfl)
    (hdd : o.dst = some dd := by conv => lhs; whnf) (hd : (some dd).all (Nat.blt · n) = true := by exact rfl) :
    OpOk Try.prog n o s ((s.seth id (some (.row [] esz (ver + 2)))).put (some dd) (.fz 0 (l ++ m).length (cl f (l ++ m)))) := by
  have h := q_app (n := n) (d := some dd) ho hx hob ht hk he hesz hbt ht2 hk2 hsrc hf h1 hb hbp hdd hd
  have h2 := h.weak (Weak.kill (s := (s.seth id (some (.row (cl f (l ++ m)) esz (ver + 1)))).put (some dd) (.sl id (ver + 1) 0 (l ++ m).length esz)) dd id (ver + 1) esz (f := f) (l := l ++ m) (upd_same _ _ _) (upd_same _ _ _) hf h5 h3)
  have e : ∀ (a b : Option AObj) (u v : AV), (((s.seth id a).put (some dd) u).seth id b).put (some dd) v = (s.seth id b).put (some dd) v := by
    intro a b u v
    have e1 : ((s.seth id a).put (some dd) u).seth id b = ((s.seth id a).seth id b).put (some dd) u := rfl
    rw [e1, seth_seth, put_put]
  rwa [e] at h2
end
end Go.Proofs.Ytaemmklgofddmaa.Fw

/- Walks of layer 8: the reference: entries out of bytes. -/
set_option linter.unusedVariables false
set_option linter.unusedSimpArgs false
namespace Go.Proofs.Ytaemmklgofddmaa.Fw
open Go.RowKit


theorem nbad_small {r : Rd} {w : Nat} (hw : w ≤ 7) : nbad (r.tk w) = false := by
  have h1 : (r.tk w).length ≤ w := by simpa using (Rd.tk_len r (w : Int)).1
  have h2 := beV_bound (l := r.tk w) ((r.tk w).length - 1) (by omega)
  have h3 : (256 : Int) ^ ((r.tk w).length - 1) ≤ 256 ^ 6 := by
    have : ((256 ^ ((r.tk w).length - 1) : Nat) : Int) ≤ ((256 ^ 6 : Nat) : Int) := Int.ofNat_le.2 (Nat.pow_le_pow_right (by decide) (by omega))
    rwa [Int.natCast_pow, Int.natCast_pow] at this
  refine decide_eq_false ?_
  have h4 : (256 : Int) ^ 6 = 281474976710656 := by decide
  omega
theorem rgo_small {r : Rd} {w : Nat} (hw : w ≤ 7) : r.rgo w = r.go w ∧ rnumV (r.tk w) = numV (r.tk w) := by
  have h := nbad_small (r := r) hw
  exact ⟨Rd.rgo_f h, by rw [rnumV_f h, (numV_small hw).1]⟩
def exF (b : List UInt8) : Int := rnumV ((rd7 b).tk 8)
def rf8 (b : List UInt8) : Rd := (rd7 b).rgo 8
theorem Rd.go_bad {r : Rd} {n : Int} (h : r.bad = true) : (r.go n).bad = true := by
  have : r.x n = true := by simp [Rd.x, h]
  rw [Rd.go_no this]
theorem dsD_keeps {m : Nat} {r : Rd} {a : List (List UInt8)} (h : r.bad = true) : (dsD m r a).2.bad = true := by rw [dsD_bad h]; exact h
theorem rf8_cases (b : List UInt8) : (rf8 b = rd8 b ∧ exF b = exE b) ∨ ((rf8 b).bad = true ∧ (exE b = -1 ∨ 1125899906842624 ≤ exE b)) := by
  cases h : nbad ((rd7 b).tk 8) with
  | true =>
    refine .inr ⟨?_, ?_⟩
    · show ((rd7 b).rgo ((8 : Nat) : Int).toNat).bad = true
      have : (rd7 b).rgo 8 = ⟨((rd7 b).go ((8 : Nat) : Int)).l, true⟩ := Rd.rgo_t h
      show ((rd7 b).rgo 8).bad = true
      rw [this]
    · have h1 := of_decide_eq_true h
      have h2 := beV_mono (l := (rd7 b).tk 8) (i := ((rd7 b).tk 8).length - 1) (j := ((rd7 b).tk 8).length) (by omega) (Nat.le_refl _)
      rw [List.take_length] at h2
      show numV ((rd7 b).tk 8) = -1 ∨ _ ≤ numV ((rd7 b).tk 8)
      unfold numV
      split
      · exact .inl rfl
      · exact .inr (by omega)
  | false =>
    refine .inl ⟨Rd.rgo_f h, ?_⟩
    have e : exF b = beV ((rd7 b).tk 8) := rnumV_f h
    rw [e]
    show _ = numV ((rd7 b).tk 8)
    rw [numV, if_neg]
    have hl : ((rd7 b).tk ((8 : Nat) : Int)).length ≤ 8 := by simpa using (Rd.tk_len (rd7 b) ((8 : Nat) : Int)).1
    have hl' : ((rd7 b).tk 8).length ≤ 8 := hl
    have h1 := of_decide_eq_false h
    by_cases hz : ((rd7 b).tk 8).length = 0
    · rw [List.length_eq_zero_iff.1 hz]; decide
    · have h3 := beV_step (l := (rd7 b).tk 8) (i := ((rd7 b).tk 8).length - 1) (by omega)
      rw [show ((rd7 b).tk 8).length - 1 + 1 = ((rd7 b).tk 8).length by omega, List.take_length] at h3
      have h4 := (((rd7 b).tk 8).getD (((rd7 b).tk 8).length - 1) default).toNat_lt
      omega
def rSet (b : List UInt8) : ESet := if kE b = 1 then delS b else putS b (exF b) (rf8 b)
def rRd (b : List UInt8) : Rd := if kE b = 1 then rd5 b else (dsE (rf8 b)).2
def rdecO (b : List UInt8) : Bool := !(rRd b).bad && !decide ((0 : Int) < (rRd b).l.length) && !decide (1 < kE b) && entO (eDel b) (rSet b)
theorem dsE_bad {r : Rd} (h : r.bad = true) : (dsE r).2.bad = true := dsD_keeps (Rd.go_bad (Rd.go_bad (Rd.go_bad h)))
theorem canE_exp {x : ESet} (h : canE x = true) : 0 ≤ x.exp ∧ x.exp ≤ 1099511627776 := by
  simp only [canE, Bool.and_eq_true, Bool.not_eq_true', decide_eq_false_iff_not] at h
  obtain ⟨⟨⟨⟨⟨_, a⟩, b⟩, _⟩, _⟩, _⟩ := h
  omega
theorem rdec_eq (b : List UInt8) : rdecO b = decO b ∧ (decO b = true → rSet b = eSet b) := by
  by_cases hk : kE b = 1
  · have h1 : rSet b = eSet b := by rw [rSet, eSet, if_pos hk, if_pos hk]
    have h2 : rRd b = eRd b := by rw [rRd, eRd, if_pos hk, if_pos hk]
    exact ⟨by rw [rdecO, decO, h1, h2], fun _ => h1⟩
  · rcases rf8_cases b with ⟨h1, h2⟩ | ⟨h1, h2⟩
    · have e1 : rSet b = eSet b := by rw [rSet, eSet, if_neg hk, if_neg hk, h1, h2]
      have e2 : rRd b = eRd b := by rw [rRd, eRd, if_neg hk, if_neg hk, h1]
      exact ⟨by rw [rdecO, decO, e1, e2], fun _ => e1⟩
    · have e0 : decO b = false := by
        rw [Bool.eq_false_iff]
        intro h
        simp only [decO, Bool.and_eq_true] at h
        have h3 := h.2
        rw [eDel, decide_eq_false hk, eSet, if_neg hk] at h3
        have h4 := canE_exp (x := putS b (exE b) (rd8 b)) h3
        have h5 : (putS b (exE b) (rd8 b)).exp = exE b := rfl
        rw [h5] at h4
        omega
      have e1 : (rRd b).bad = true := by rw [rRd, if_neg hk]; exact dsE_bad h1
      exact ⟨by rw [e0, rdecO, e1]; rfl, fun h => by rw [e0] at h; cases h⟩
theorem rf11_len {b : List UInt8} : (rf8 b).l.length ≤ b.length ∧ (rd11 (rf8 b)).l.length ≤ b.length := by
  have h8 : (rd7 b).l.length ≤ b.length := by
    have h1 : (rd1 b).l.length ≤ b.length := Rd.go_len (rd0 b) 1
    have h2 : (rd2 b).l.length ≤ (rd1 b).l.length := Rd.go_len _ _
    have h3 : (rd3 b).l.length ≤ (rd2 b).l.length := Rd.go_len _ _
    have h4 : (rd4 b).l.length ≤ (rd3 b).l.length := Rd.go_len _ _
    have h5 : (rd5 b).l.length ≤ (rd4 b).l.length := Rd.go_len _ _
    have h6 : (rd6 b).l.length ≤ (rd5 b).l.length := Rd.go_len _ _
    have h7 : (rd7 b).l.length ≤ (rd6 b).l.length := Rd.go_len _ _
    omega
  have hf : (rf8 b).l.length ≤ (rd7 b).l.length := by
    show ((rd7 b).rgo 8).l.length ≤ _
    unfold Rd.rgo
    split
    · exact Rd.go_len _ _
    · exact Rd.go_len _ _
  have h9 : (rd9 (rf8 b)).l.length ≤ (rf8 b).l.length := Rd.go_len _ _
  have h10 : (rd10 (rf8 b)).l.length ≤ (rd9 (rf8 b)).l.length := Rd.go_len _ _
  have h11 : (rd11 (rf8 b)).l.length ≤ (rd10 (rf8 b)).l.length := Rd.go_len _ _
  exact ⟨by omega, by omega⟩
theorem c_rnumS (r : Rd) (w : Nat) (hw : w ≤ 7) : AC Try.prog 47 [.ptr 0 0 0, i64 w] (hlook [(0, .box [.fz 0 r.l.length (cl bc r.l), tf r.bad])]) (RetH (i64 (numV (r.tk w))) [(0, .box [.fz 0 (r.go w).l.length (cl bc (r.go w).l), tf (r.go w).bad])]) := by
  have h := rgo_small (r := r) hw
  have := c_rnumber r w (by omega)
  rwa [h.1, h.2] at this
theorem c_RCanA' (d : Bool) (x : ESet) (hx : SetOk x) : AC Try.prog 24 [.agg (tf d :: setC x)] emp (Ret (tf (entO d x))) := c_RCanA d x hx

set_option maxRecDepth 20000 in
set_option maxHeartbeats 2000000 in
theorem c_rDecode (b : List UInt8) (hb : b.length ≤ 140737488351232) : AC Try.prog 23 [.fz 0 b.length (cl bc b)] emp (Ret (.tup [.agg (tf (dDel b) :: setC (dSet b)), i64 (dErr b)])) := by
  obtain ⟨hl5, _, _⟩ := rd11_len (b := b)
  obtain ⟨hl8, hl11⟩ := rf11_len (b := b)
  have hE := rdec_eq b
  have hn1 := numV_1 (rd1 b)
  have hn2 := numV_1 (rf8 b)
  have hn3 := numV_2 (rd10 (rf8 b))
  have hn3' : 0 ≤ cnE (rf8 b) ∧ cnE (rf8 b) < 65536 := hn3
  have hcn : numV ((rd10 (rf8 b)).tk ((2 : Nat) : Int)) = cnE (rf8 b) := rfl
  have hnm := nm_len b
  have hzn := zn_len (rf8 b)
  refine AC.intro te_ok (fn := Try.f23) ⟨Try.func23, rfl, rfl⟩ (Nat.le_of_ble_eq_true rfl) ?_
  refine AWp.seq ?_
  refine AWp.region ?_
  refine AOps.cons rfl rfl (q_alloc 100) ?_
  refine AOps.cons rfl rfl (q_assign) ?_
  refine AOps.nil ?_
  refine AWp.seq ?_
  refine AWp.region ?_
  refine AOps.cons rfl rfl (q_move) ?_
  refine AOps.cons rfl rfl (q_build [(_, _)]) ?_
  refine AOps.cons rfl rfl (q_box 202) ?_
  refine AOps.cons rfl rfl (q_assign) ?_
  refine AOps.nil ?_
  refine AWp.seq ?_
  refine AWp.region ?_
  refine AOps.cons rfl rfl (q_alloc 300) ?_
  refine AOps.nil ?_
  refine AWp.seq ?_
  refine AWp.region ?_
  refine AOps.cons rfl rfl (q_move) ?_
  refine AOps.cons rfl rfl (q_callB (0) [(0, 202)] [] [(_, _)] (hc := (c_rnumS (rd0 b) 1 (by decide)))) ?_
  refine AOps.cons rfl rfl (q_assign) ?_
  refine AOps.nil ?_
  refine AWp.seq ?_
  refine AWp.region ?_
  refine AOps.cons rfl rfl (q_move) ?_
  refine AOps.cons rfl rfl (q_eql) ?_
  refine AOps.cons rfl rfl (q_fa) ?_
  refine AOps.cons rfl rfl (q_store) ?_
  refine AOps.nil ?_
  refine AWp.seq ?_
  refine AWp.region ?_
  refine AOps.cons rfl rfl (q_fa) ?_
  refine AOps.cons rfl rfl (q_assign) ?_
  refine AOps.nil ?_
  refine AWp.seq ?_
  refine AWp.region ?_
  refine AOps.cons rfl rfl (q_move) ?_
  refine AOps.cons rfl rfl (q_move) ?_
  refine AOps.cons rfl rfl (q_move) ?_
  refine AOps.cons rfl rfl (q_callB (0) [(0, 202)] [] [(_, _)] (hc := (c_rnumS (rd1 b) 1 (by decide)))) ?_
  refine AOps.cons rfl rfl (q_callB (0) [(0, 202)] [] [(_, _)] (hc := (c_rtake (rd2 b) (numV ((rd1 b).tk 1)) hn1.1))) ?_
  refine AOps.cons rfl rfl (by first | exact q_conv_zs | exact q_conv_ls) ?_
  refine AOps.cons rfl rfl (q_nil) ?_
  refine AOps.cons rfl rfl (q_fa) ?_
  refine AOps.cons rfl rfl (q_store) ?_
  refine AOps.nil ?_
  refine AWp.seq ?_
  refine AWp.region ?_
  refine AOps.cons rfl rfl (q_move) ?_
  refine AOps.cons rfl rfl (q_move) ?_
  refine AOps.cons rfl rfl (q_move) ?_
  refine AOps.cons rfl rfl (q_callB (0) [(0, 202)] [] [(_, _)] (hc := (c_rnumS (rd3 b) 2 (by decide)))) ?_
  refine AOps.cons rfl rfl (q_move) ?_
  refine AOps.cons rfl rfl (q_callB (0) [(0, 202)] [] [(_, _)] (hc := (c_rnumS (rd4 b) 2 (by decide)))) ?_
  refine AOps.cons rfl rfl (q_nil) ?_
  refine AOps.cons rfl rfl (q_fa) ?_
  refine AOps.cons rfl rfl (q_store) ?_
  refine AOps.cons rfl rfl (q_nil) ?_
  refine AOps.cons rfl rfl (q_fa) ?_
  refine AOps.cons rfl rfl (q_store) ?_
  refine AOps.nil ?_
  refine AWp.seq ?_
  refine AWp.seq ?_
  refine AWp.region ?_
  refine AOps.cons rfl rfl (q_fa) ?_
  refine AOps.bool rfl rfl (q_load) (fun h8_1 => ?_) (fun h8_1 => ?_)
  · skip
    refine AOps.cons rfl rfl (q_not) ?_
    refine AOps.nil ?_
    refine AWp.cond_f rfl ?_
    refine AWp.skip ?_
    refine AWp.seq ?_
    refine AWp.seq ?_
    refine AWp.region ?_
    have hkk : kE b = 1 := of_decide_eq_true h8_1
    have hS : rSet b = delS b := if_pos hkk
    have hR : rRd b = rd5 b := if_pos hkk
    have hso := delS_ok b
    refine AOps.weak (Weak.full 0 [] (t := [(2, .ptr 100 0 0), (4, .ptr 202 0 0), (6, i64 (kE b)), (5, .ptr 300 0 0)]) (hl := [(100, .box [.v (.bool false), .v (.string ⟨#[]⟩), .v (.int .i64 0), .v (.int .i64 0), .v (.int .i64 0), .v (.int .i64 0), .v (.int .i64 0), .v (.string ⟨#[]⟩), .v (.slice none 0 0)]), (202, .box [.fz 0 (rd5 b).l.length (cl bc (rd5 b).l), tf (rd5 b).bad]), (300, .box [tf (eDel b), str (delS b).nm, i64 (delS b).ty, i64 (delS b).cs, i64 (delS b).rank, i64 (delS b).kind, i64 (delS b).exp, str (delS b).zone, .fz 0 (delS b).ds.length (cl (lc 0 bc) (delS b).ds)])])) ?_
    refine AOps.cons rfl rfl (q_move) ?_
    refine AOps.cons rfl rfl (q_nil) ?_
    refine AOps.cons rfl rfl (q_fa) ?_
    refine AOps.bool rfl rfl (q_load) (fun h17_3 => ?_) (fun h17_3 => ?_)
    · skip
      refine AOps.cons rfl rfl (q_move) ?_
      refine AOps.gskip rfl rfl rfl rfl rfl rfl rfl rfl ?_
      refine AOps.gskip rfl rfl rfl rfl rfl rfl rfl rfl ?_
      refine AOps.gskip rfl rfl rfl rfl rfl rfl rfl rfl ?_
      refine AOps.gskip rfl rfl rfl rfl rfl rfl rfl rfl ?_
      refine AOps.gskip rfl rfl rfl rfl rfl rfl rfl rfl ?_
      refine AOps.gskip rfl rfl rfl rfl rfl rfl rfl rfl ?_
      refine AOps.cons rfl rfl (q_pick) ?_
      refine AOps.cons rfl rfl (q_move) ?_
      refine AOps.gskip rfl rfl rfl rfl rfl rfl rfl rfl ?_
      refine AOps.gskip rfl rfl rfl rfl rfl rfl rfl rfl ?_
      refine AOps.cons rfl rfl (q_pick) ?_
      refine AOps.cons rfl rfl (q_move) ?_
      refine AOps.gskip rfl rfl rfl rfl rfl rfl rfl rfl ?_
      refine AOps.gskip rfl rfl rfl rfl rfl rfl rfl rfl ?_
      refine AOps.gskip rfl rfl rfl rfl rfl rfl rfl rfl ?_
      refine AOps.cons rfl rfl (q_pick) ?_
      refine AOps.nil ?_
      refine AWp.cond_t rfl ?_
      refine AWp.seq ?_
      refine AWp.region ?_
      refine AOps.cons rfl rfl (q_build []) ?_
      refine AOps.cons rfl rfl (q_store) ?_
      refine AOps.cons rfl rfl (q_assign) ?_
      refine AOps.nil ?_
      refine AWp.ret ?_
      show Fin te Try.f23 _ _
      have hO : rdecO b = false := by rw [rdecO, hR, hS, h17_3, Bool.not_true, Bool.false_and, Bool.false_and, Bool.false_and]
      rw [hE.1] at hO
      obtain ⟨q1, q2, q3⟩ := dNo hO
      rw [q1, q2, q3]
      refine q_ret 0 [_, _] [.agg (tf false :: setC zeroS), _] ?_ (h2 := by exact ⟨fv_agg ⟨fv_okb rfl rfl, fv_okb rfl rfl, fv_okb rfl rfl, fv_okb rfl rfl, fv_okb rfl rfl, fv_okb rfl rfl, fv_okb rfl rfl, fv_okb rfl rfl, fv_nilz, trivial⟩, fv_okb rfl rfl, trivial⟩)
      rfl
    · skip
      refine AOps.cons rfl rfl (q_move) ?_
      refine AOps.gcons rfl rfl rfl rfl rfl (q_move) ?_
      refine AOps.gcons rfl rfl rfl rfl rfl (q_nil) ?_
      refine AOps.gcons rfl rfl rfl rfl rfl (q_fa) ?_
      refine AOps.gcons rfl rfl rfl rfl rfl (q_load) ?_
      refine AOps.gcons rfl rfl rfl rfl rfl (q_len) ?_
      refine AOps.gdec rfl rfl rfl rfl rfl (q_gtr) (fun h17_10 => ?_) (fun h17_10 => ?_)
      · skip
        refine AOps.cons rfl rfl (q_pick) ?_
        refine AOps.cons rfl rfl (q_move) ?_
        refine AOps.gskip rfl rfl rfl rfl rfl rfl rfl rfl ?_
        refine AOps.gskip rfl rfl rfl rfl rfl rfl rfl rfl ?_
        refine AOps.cons rfl rfl (q_pick) ?_
        refine AOps.cons rfl rfl (q_move) ?_
        refine AOps.gskip rfl rfl rfl rfl rfl rfl rfl rfl ?_
        refine AOps.gskip rfl rfl rfl rfl rfl rfl rfl rfl ?_
        refine AOps.gskip rfl rfl rfl rfl rfl rfl rfl rfl ?_
        refine AOps.cons rfl rfl (q_pick) ?_
        refine AOps.nil ?_
        refine AWp.cond_t rfl ?_
        refine AWp.seq ?_
        refine AWp.region ?_
        refine AOps.cons rfl rfl (q_build []) ?_
        refine AOps.cons rfl rfl (q_store) ?_
        refine AOps.cons rfl rfl (q_assign) ?_
        refine AOps.nil ?_
        refine AWp.ret ?_
        show Fin te Try.f23 _ _
        have hO : rdecO b = false := by rw [rdecO, hR, hS, decide_eq_true h17_10, Bool.not_true, Bool.and_false, Bool.false_and, Bool.false_and]
        rw [hE.1] at hO
        obtain ⟨q1, q2, q3⟩ := dNo hO
        rw [q1, q2, q3]
        refine q_ret 0 [_, _] [.agg (tf false :: setC zeroS), _] ?_ (h2 := by exact ⟨fv_agg ⟨fv_okb rfl rfl, fv_okb rfl rfl, fv_okb rfl rfl, fv_okb rfl rfl, fv_okb rfl rfl, fv_okb rfl rfl, fv_okb rfl rfl, fv_okb rfl rfl, fv_nilz, trivial⟩, fv_okb rfl rfl, trivial⟩)
        rfl
      · skip
        refine AOps.cons rfl rfl (q_pick) ?_
        refine AOps.cons rfl rfl (q_move) ?_
        refine AOps.gcons rfl rfl rfl rfl rfl (q_move) ?_
        refine AOps.gdec rfl rfl rfl rfl rfl (q_gtr) (fun h17_14 => ?_) (fun h17_14 => ?_)
        · skip
          refine AOps.cons rfl rfl (q_pick) ?_
          refine AOps.cons rfl rfl (q_move) ?_
          refine AOps.gskip rfl rfl rfl rfl rfl rfl rfl rfl ?_
          refine AOps.gskip rfl rfl rfl rfl rfl rfl rfl rfl ?_
          refine AOps.gskip rfl rfl rfl rfl rfl rfl rfl rfl ?_
          refine AOps.cons rfl rfl (q_pick) ?_
          refine AOps.nil ?_
          refine AWp.cond_t rfl ?_
          refine AWp.seq ?_
          refine AWp.region ?_
          refine AOps.cons rfl rfl (q_build []) ?_
          refine AOps.cons rfl rfl (q_store) ?_
          refine AOps.cons rfl rfl (q_assign) ?_
          refine AOps.nil ?_
          refine AWp.ret ?_
          show Fin te Try.f23 _ _
          have hO : rdecO b = false := by rw [rdecO, hR, hS, decide_eq_true h17_14, Bool.not_true, Bool.and_false, Bool.false_and]
          rw [hE.1] at hO
          obtain ⟨q1, q2, q3⟩ := dNo hO
          rw [q1, q2, q3]
          refine q_ret 0 [_, _] [.agg (tf false :: setC zeroS), _] ?_ (h2 := by exact ⟨fv_agg ⟨fv_okb rfl rfl, fv_okb rfl rfl, fv_okb rfl rfl, fv_okb rfl rfl, fv_okb rfl rfl, fv_okb rfl rfl, fv_okb rfl rfl, fv_okb rfl rfl, fv_nilz, trivial⟩, fv_okb rfl rfl, trivial⟩)
          rfl
        · skip
          refine AOps.cons rfl rfl (q_pick) ?_
          refine AOps.cons rfl rfl (q_move) ?_
          refine AOps.gcons rfl rfl rfl rfl rfl (q_load) ?_
          refine AOps.gbool rfl rfl rfl rfl rfl (q_call (0) (hc := (c_RCanA (eDel b) (delS b) hso))) (fun h17_18 => ?_) (fun h17_18 => ?_)
          · skip
            refine AOps.gcons rfl rfl rfl rfl rfl (q_not) ?_
            refine AOps.cons rfl rfl (q_pick) ?_
            refine AOps.nil ?_
            refine AWp.cond_f rfl ?_
            refine AWp.skip ?_
            refine AWp.seq ?_
            refine AWp.region ?_
            refine AOps.cons rfl rfl (q_load) ?_
            refine AOps.cons rfl rfl (q_store) ?_
            refine AOps.cons rfl rfl (q_assign) ?_
            refine AOps.nil ?_
            refine AWp.ret ?_
            show Fin te Try.f23 _ _
            have hO : rdecO b = true := by rw [rdecO, hR, hS, h17_3, decide_eq_false h17_10, decide_eq_false h17_14, h17_18]; rfl
            rw [hE.1] at hO
            obtain ⟨q1, q2, q3⟩ := dYes hO
            rw [q1, q2, q3, ← hE.2 hO, hS]
            refine q_ret 0 [_, _] [_, _] ?_
            rfl
          · skip
            refine AOps.gcons rfl rfl rfl rfl rfl (q_not) ?_
            refine AOps.cons rfl rfl (q_pick) ?_
            refine AOps.nil ?_
            refine AWp.cond_t rfl ?_
            refine AWp.seq ?_
            refine AWp.region ?_
            refine AOps.cons rfl rfl (q_build []) ?_
            refine AOps.cons rfl rfl (q_store) ?_
            refine AOps.cons rfl rfl (q_assign) ?_
            refine AOps.nil ?_
            refine AWp.ret ?_
            show Fin te Try.f23 _ _
            have hO : rdecO b = false := by rw [rdecO, hR, hS, h17_18, Bool.and_false]
            rw [hE.1] at hO
            obtain ⟨q1, q2, q3⟩ := dNo hO
            rw [q1, q2, q3]
            refine q_ret 0 [_, _] [.agg (tf false :: setC zeroS), _] ?_ (h2 := by exact ⟨fv_agg ⟨fv_okb rfl rfl, fv_okb rfl rfl, fv_okb rfl rfl, fv_okb rfl rfl, fv_okb rfl rfl, fv_okb rfl rfl, fv_okb rfl rfl, fv_okb rfl rfl, fv_nilz, trivial⟩, fv_okb rfl rfl, trivial⟩)
            rfl
  · skip
    refine AOps.cons rfl rfl (q_not) ?_
    refine AOps.nil ?_
    refine AWp.cond_t rfl ?_
    refine AWp.seq ?_
    refine AWp.region ?_
    refine AOps.weak (Weak.full 0 [] (t := [(2, .ptr 100 0 0), (4, .ptr 202 0 0), (5, .ptr 300 0 0), (6, i64 (kE b)), (7, .ptr 300 0 1)]) (hl := [(100, .box [.v (.bool false), .v (.string ⟨#[]⟩), .v (.int .i64 0), .v (.int .i64 0), .v (.int .i64 0), .v (.int .i64 0), .v (.int .i64 0), .v (.string ⟨#[]⟩), .v (.slice none 0 0)]), (202, .box [.fz 0 (rd5 b).l.length (cl bc (rd5 b).l), tf (rd5 b).bad]), (300, .box [tf (eDel b), str (nmE b), i64 (tyE b), i64 (csE b), .v (.int .i64 0), .v (.int .i64 0), .v (.int .i64 0), .v (.string ⟨#[]⟩), .v (.slice none 0 0)])])) ?_
    refine AOps.cons rfl rfl (q_move) ?_
    refine AOps.cons rfl rfl (q_move) ?_
    refine AOps.cons rfl rfl (q_move) ?_
    refine AOps.cons rfl rfl (q_callB (0) [(0, 202)] [] [(_, _)] (hc := (c_rnumS (rd5 b) 1 (by decide)))) ?_
    refine AOps.cons rfl rfl (q_move) ?_
    refine AOps.cons rfl rfl (q_callB (0) [(0, 202)] [] [(_, _)] (hc := (c_rnumS (rd6 b) 1 (by decide)))) ?_
    refine AOps.cons rfl rfl (q_nil) ?_
    refine AOps.cons rfl rfl (q_fa) ?_
    refine AOps.cons rfl rfl (q_store) ?_
    refine AOps.cons rfl rfl (q_nil) ?_
    refine AOps.cons rfl rfl (q_fa) ?_
    refine AOps.cons rfl rfl (q_store) ?_
    refine AOps.nil ?_
    refine AWp.seq ?_
    refine AWp.region ?_
    refine AOps.cons rfl rfl (q_move) ?_
    refine AOps.cons rfl rfl (q_move) ?_
    refine AOps.cons rfl rfl (q_callB (0) [(0, 202)] [] [(_, _)] (hc := (c_rnumber (rd7 b) 8 (by decide)))) ?_
    refine AOps.cons rfl rfl (q_nil) ?_
    refine AOps.cons rfl rfl (q_fa) ?_
    refine AOps.cons rfl rfl (q_store) ?_
    refine AOps.nil ?_
    refine AWp.seq ?_
    refine AWp.region ?_
    refine AOps.cons rfl rfl (q_move) ?_
    refine AOps.cons rfl rfl (q_move) ?_
    refine AOps.cons rfl rfl (q_move) ?_
    refine AOps.cons rfl rfl (q_callB (0) [(0, 202)] [] [(_, _)] (hc := (c_rnumS (rf8 b) 1 (by decide)))) ?_
    refine AOps.cons rfl rfl (q_callB (0) [(0, 202)] [] [(_, _)] (hc := (c_rtake (rd9 (rf8 b)) (numV ((rf8 b).tk 1)) hn2.1))) ?_
    refine AOps.cons rfl rfl (by first | exact q_conv_zs | exact q_conv_ls) ?_
    refine AOps.cons rfl rfl (q_nil) ?_
    refine AOps.cons rfl rfl (q_fa) ?_
    refine AOps.cons rfl rfl (q_store) ?_
    refine AOps.nil ?_
    refine AWp.seq ?_
    refine AWp.region ?_
    refine AOps.cons rfl rfl (q_move) ?_
    refine AOps.cons rfl rfl (q_callB (0) [(0, 202)] [] [(_, _)] (hc := (c_rnumS (rd10 (rf8 b)) 2 (by decide)))) ?_
    refine AOps.cons rfl rfl (q_move) ?_
    refine AOps.weak (Weak.nilcell 300 700 8 1 (lc 0 bc)) ?_
    refine AOps.nil ?_
    refine AWp.block ?_
    refine AWp.loopR (α := Nat × Rd × List (List UInt8) × Nat) [63, 64, 65, 66, 67, 68, 69, 70, 71, 72, 73, 74, 75, 76, 77, 78, 79, 80, 81, 82, 83, 84] (fun x_ => [(63, i64 (cnE (rf8 b) - (x_.1)))]) (fun x_ => [(202, .box [.fz 0 (x_.2.1).l.length (cl bc (x_.2.1).l), tf (x_.2.1).bad]), (300, .box [tf (eDel b), str (nmE b), i64 (tyE b), i64 (csE b), i64 (rkE b), i64 (kdE b), i64 (exF b), str (znE (rf8 b)), .sl 700 (x_.2.2.2) 0 (x_.2.2.1).length 1]), (700, .row (cl (lc 0 bc) (x_.2.2.1)) 1 (x_.2.2.2))]) (fun x_ => ((x_.1) : Int) ≤ cnE (rf8 b) ∧ dsD (x_.1) (x_.2.1) (x_.2.2.1) = dsE (rf8 b) ∧ DOk b (x_.1) (x_.2.1) (x_.2.2.1)) (fun x_ => (x_.1)) ((cnE (rf8 b)).toNat, rd11 (rf8 b), [], 0) ?_ (Back.mk' (HasT.cons HasT.nil (h1 := by exact i64_eq (by omega)) ) (HasH.cons (HasH.cons (HasH.cons HasH.nil)))) ?_
    · exact ⟨by omega, rfl, by show 0 + (cnE (rf8 b)).toNat ≤ 65535; omega, hl11, by intro d hd; cases hd⟩
    · rintro ⟨m, r, acc, v⟩ hI13
      change (m : Int) ≤ cnE (rf8 b) ∧ dsD m r acc = dsE (rf8 b) ∧ DOk b m r acc at hI13
      obtain ⟨hm, hd, hok⟩ := hI13
      refine AWp.as (s' := AS.over _ [63, 64, 65, 66, 67, 68, 69, 70, 71, 72, 73, 74, 75, 76, 77, 78, 79, 80, 81, 82, 83, 84] [(63, i64 (cnE (rf8 b) - m))] [(202, .box [.fz 0 r.l.length (cl bc r.l), tf r.bad]), (300, .box [tf (eDel b), str (nmE b), i64 (tyE b), i64 (csE b), i64 (rkE b), i64 (kdE b), i64 (exF b), str (znE (rf8 b)), .sl 700 v 0 acc.length 1]), (700, .row (cl (lc 0 bc) acc) 1 v)]) rfl ?_
      obtain ⟨ho1, ho2, ho3⟩ := id hok
      refine AWp.seq ?_
      refine AWp.region ?_
      refine AOps.dec rfl rfl (q_lss) (fun h13_0 => ?_) (fun h13_0 => ?_)
      · skip
        refine AOps.nil ?_
        refine AWp.seq ?_
        refine AWp.cond_t rfl ?_
        refine AWp.skip ?_
        refine AWp.seq ?_
        refine AWp.block ?_
        refine AWp.seq ?_
        refine AWp.seq ?_
        refine AWp.region ?_
        refine AOps.cons rfl rfl (q_move) ?_
        refine AOps.cons rfl rfl (q_nil) ?_
        refine AOps.cons rfl rfl (q_fa) ?_
        refine AOps.bool rfl rfl (q_load) (fun h14_3 => ?_) (fun h14_3 => ?_)
        · skip
          refine AOps.nil ?_
          refine AWp.cond_t rfl ?_
          refine AWp.exit ?_
          refine AWp.seq ?_
          refine AWp.seq ?_
          refine AWp.region ?_
          have he : dsE (rf8 b) = (acc, r) := by rw [← hd, dsD_bad h14_3]
          have hok0 := hok.zero
          have hso := putS_ok (ex := exF b) he hok0
          obtain ⟨rfl, rfl⟩ : acc = (dsE (rf8 b)).1 ∧ r = (dsE (rf8 b)).2 := by rw [he]; exact ⟨rfl, rfl⟩
          have hkk : ¬ kE b = 1 := of_decide_eq_false h8_1
          have hS : rSet b = putS b (exF b) (rf8 b) := if_neg hkk
          have hR : rRd b = (dsE (rf8 b)).2 := if_neg hkk
          refine AOps.weak (Weak.full 0 [] (t := [(2, .ptr 100 0 0), (4, .ptr 202 0 0), (6, i64 (kE b)), (5, .ptr 300 0 0)]) (hl := [(100, .box [.v (.bool false), .v (.string ⟨#[]⟩), .v (.int .i64 0), .v (.int .i64 0), .v (.int .i64 0), .v (.int .i64 0), .v (.int .i64 0), .v (.string ⟨#[]⟩), .v (.slice none 0 0)]), (202, .box [.fz 0 (dsE (rf8 b)).2.l.length (cl bc (dsE (rf8 b)).2.l), tf (dsE (rf8 b)).2.bad]), (300, .box [tf (eDel b), str (putS b (exF b) (rf8 b)).nm, i64 (putS b (exF b) (rf8 b)).ty, i64 (putS b (exF b) (rf8 b)).cs, i64 (putS b (exF b) (rf8 b)).rank, i64 (putS b (exF b) (rf8 b)).kind, i64 (putS b (exF b) (rf8 b)).exp, str (putS b (exF b) (rf8 b)).zone, .fz 0 (putS b (exF b) (rf8 b)).ds.length (cl (lc 0 bc) (putS b (exF b) (rf8 b)).ds)])])) ?_
          refine AOps.cons rfl rfl (q_move) ?_
          refine AOps.cons rfl rfl (q_nil) ?_
          refine AOps.cons rfl rfl (q_fa) ?_
          refine AOps.bool rfl rfl (q_load) (fun h17_3 => ?_) (fun h17_3 => ?_)
          · skip
            refine AOps.cons rfl rfl (q_move) ?_
            refine AOps.gskip rfl rfl rfl rfl rfl rfl rfl rfl ?_
            refine AOps.gskip rfl rfl rfl rfl rfl rfl rfl rfl ?_
            refine AOps.gskip rfl rfl rfl rfl rfl rfl rfl rfl ?_
            refine AOps.gskip rfl rfl rfl rfl rfl rfl rfl rfl ?_
            refine AOps.gskip rfl rfl rfl rfl rfl rfl rfl rfl ?_
            refine AOps.gskip rfl rfl rfl rfl rfl rfl rfl rfl ?_
            refine AOps.cons rfl rfl (q_pick) ?_
            refine AOps.cons rfl rfl (q_move) ?_
            refine AOps.gskip rfl rfl rfl rfl rfl rfl rfl rfl ?_
            refine AOps.gskip rfl rfl rfl rfl rfl rfl rfl rfl ?_
            refine AOps.cons rfl rfl (q_pick) ?_
            refine AOps.cons rfl rfl (q_move) ?_
            refine AOps.gskip rfl rfl rfl rfl rfl rfl rfl rfl ?_
            refine AOps.gskip rfl rfl rfl rfl rfl rfl rfl rfl ?_
            refine AOps.gskip rfl rfl rfl rfl rfl rfl rfl rfl ?_
            refine AOps.cons rfl rfl (q_pick) ?_
            refine AOps.nil ?_
            refine AWp.cond_t rfl ?_
            refine AWp.seq ?_
            refine AWp.region ?_
            refine AOps.cons rfl rfl (q_build []) ?_
            refine AOps.cons rfl rfl (q_store) ?_
            refine AOps.cons rfl rfl (q_assign) ?_
            refine AOps.nil ?_
            refine AWp.ret ?_
            show Fin te Try.f23 _ _
            have hO : rdecO b = false := by rw [rdecO, hR, hS, h17_3, Bool.not_true, Bool.false_and, Bool.false_and, Bool.false_and]
            rw [hE.1] at hO
            obtain ⟨q1, q2, q3⟩ := dNo hO
            rw [q1, q2, q3]
            refine q_ret 0 [_, _] [.agg (tf false :: setC zeroS), _] ?_ (h2 := by exact ⟨fv_agg ⟨fv_okb rfl rfl, fv_okb rfl rfl, fv_okb rfl rfl, fv_okb rfl rfl, fv_okb rfl rfl, fv_okb rfl rfl, fv_okb rfl rfl, fv_okb rfl rfl, fv_nilz, trivial⟩, fv_okb rfl rfl, trivial⟩)
            rfl
          · skip
            refine AOps.cons rfl rfl (q_move) ?_
            refine AOps.gcons rfl rfl rfl rfl rfl (q_move) ?_
            refine AOps.gcons rfl rfl rfl rfl rfl (q_nil) ?_
            refine AOps.gcons rfl rfl rfl rfl rfl (q_fa) ?_
            refine AOps.gcons rfl rfl rfl rfl rfl (q_load) ?_
            refine AOps.gcons rfl rfl rfl rfl rfl (q_len) ?_
            refine AOps.gdec rfl rfl rfl rfl rfl (q_gtr) (fun h17_10 => ?_) (fun h17_10 => ?_)
            · skip
              refine AOps.cons rfl rfl (q_pick) ?_
              refine AOps.cons rfl rfl (q_move) ?_
              refine AOps.gskip rfl rfl rfl rfl rfl rfl rfl rfl ?_
              refine AOps.gskip rfl rfl rfl rfl rfl rfl rfl rfl ?_
              refine AOps.cons rfl rfl (q_pick) ?_
              refine AOps.cons rfl rfl (q_move) ?_
              refine AOps.gskip rfl rfl rfl rfl rfl rfl rfl rfl ?_
              refine AOps.gskip rfl rfl rfl rfl rfl rfl rfl rfl ?_
              refine AOps.gskip rfl rfl rfl rfl rfl rfl rfl rfl ?_
              refine AOps.cons rfl rfl (q_pick) ?_
              refine AOps.nil ?_
              refine AWp.cond_t rfl ?_
              refine AWp.seq ?_
              refine AWp.region ?_
              refine AOps.cons rfl rfl (q_build []) ?_
              refine AOps.cons rfl rfl (q_store) ?_
              refine AOps.cons rfl rfl (q_assign) ?_
              refine AOps.nil ?_
              refine AWp.ret ?_
              show Fin te Try.f23 _ _
              have hO : rdecO b = false := by rw [rdecO, hR, hS, decide_eq_true h17_10, Bool.not_true, Bool.and_false, Bool.false_and, Bool.false_and]
              rw [hE.1] at hO
              obtain ⟨q1, q2, q3⟩ := dNo hO
              rw [q1, q2, q3]
              refine q_ret 0 [_, _] [.agg (tf false :: setC zeroS), _] ?_ (h2 := by exact ⟨fv_agg ⟨fv_okb rfl rfl, fv_okb rfl rfl, fv_okb rfl rfl, fv_okb rfl rfl, fv_okb rfl rfl, fv_okb rfl rfl, fv_okb rfl rfl, fv_okb rfl rfl, fv_nilz, trivial⟩, fv_okb rfl rfl, trivial⟩)
              rfl
            · skip
              refine AOps.cons rfl rfl (q_pick) ?_
              refine AOps.cons rfl rfl (q_move) ?_
              refine AOps.gcons rfl rfl rfl rfl rfl (q_move) ?_
              refine AOps.gdec rfl rfl rfl rfl rfl (q_gtr) (fun h17_14 => ?_) (fun h17_14 => ?_)
              · skip
                refine AOps.cons rfl rfl (q_pick) ?_
                refine AOps.cons rfl rfl (q_move) ?_
                refine AOps.gskip rfl rfl rfl rfl rfl rfl rfl rfl ?_
                refine AOps.gskip rfl rfl rfl rfl rfl rfl rfl rfl ?_
                refine AOps.gskip rfl rfl rfl rfl rfl rfl rfl rfl ?_
                refine AOps.cons rfl rfl (q_pick) ?_
                refine AOps.nil ?_
                refine AWp.cond_t rfl ?_
                refine AWp.seq ?_
                refine AWp.region ?_
                refine AOps.cons rfl rfl (q_build []) ?_
                refine AOps.cons rfl rfl (q_store) ?_
                refine AOps.cons rfl rfl (q_assign) ?_
                refine AOps.nil ?_
                refine AWp.ret ?_
                show Fin te Try.f23 _ _
                have hO : rdecO b = false := by rw [rdecO, hR, hS, decide_eq_true h17_14, Bool.not_true, Bool.and_false, Bool.false_and]
                rw [hE.1] at hO
                obtain ⟨q1, q2, q3⟩ := dNo hO
                rw [q1, q2, q3]
                refine q_ret 0 [_, _] [.agg (tf false :: setC zeroS), _] ?_ (h2 := by exact ⟨fv_agg ⟨fv_okb rfl rfl, fv_okb rfl rfl, fv_okb rfl rfl, fv_okb rfl rfl, fv_okb rfl rfl, fv_okb rfl rfl, fv_okb rfl rfl, fv_okb rfl rfl, fv_nilz, trivial⟩, fv_okb rfl rfl, trivial⟩)
                rfl
              · skip
                refine AOps.cons rfl rfl (q_pick) ?_
                refine AOps.cons rfl rfl (q_move) ?_
                refine AOps.gcons rfl rfl rfl rfl rfl (q_load) ?_
                refine AOps.gbool rfl rfl rfl rfl rfl (q_call (0) (hc := (c_RCanA (eDel b) (putS b (exF b) (rf8 b)) hso))) (fun h17_18 => ?_) (fun h17_18 => ?_)
                · skip
                  refine AOps.gcons rfl rfl rfl rfl rfl (q_not) ?_
                  refine AOps.cons rfl rfl (q_pick) ?_
                  refine AOps.nil ?_
                  refine AWp.cond_f rfl ?_
                  refine AWp.skip ?_
                  refine AWp.seq ?_
                  refine AWp.region ?_
                  refine AOps.cons rfl rfl (q_load) ?_
                  refine AOps.cons rfl rfl (q_store) ?_
                  refine AOps.cons rfl rfl (q_assign) ?_
                  refine AOps.nil ?_
                  refine AWp.ret ?_
                  show Fin te Try.f23 _ _
                  have hO : rdecO b = true := by rw [rdecO, hR, hS, h17_3, decide_eq_false h17_10, decide_eq_false h17_14, h17_18]; rfl
                  rw [hE.1] at hO
                  obtain ⟨q1, q2, q3⟩ := dYes hO
                  rw [q1, q2, q3, ← hE.2 hO, hS]
                  refine q_ret 0 [_, _] [_, _] ?_
                  rfl
                · skip
                  refine AOps.gcons rfl rfl rfl rfl rfl (q_not) ?_
                  refine AOps.cons rfl rfl (q_pick) ?_
                  refine AOps.nil ?_
                  refine AWp.cond_t rfl ?_
                  refine AWp.seq ?_
                  refine AWp.region ?_
                  refine AOps.cons rfl rfl (q_build []) ?_
                  refine AOps.cons rfl rfl (q_store) ?_
                  refine AOps.cons rfl rfl (q_assign) ?_
                  refine AOps.nil ?_
                  refine AWp.ret ?_
                  show Fin te Try.f23 _ _
                  have hO : rdecO b = false := by rw [rdecO, hR, hS, h17_18, Bool.and_false]
                  rw [hE.1] at hO
                  obtain ⟨q1, q2, q3⟩ := dNo hO
                  rw [q1, q2, q3]
                  refine q_ret 0 [_, _] [.agg (tf false :: setC zeroS), _] ?_ (h2 := by exact ⟨fv_agg ⟨fv_okb rfl rfl, fv_okb rfl rfl, fv_okb rfl rfl, fv_okb rfl rfl, fv_okb rfl rfl, fv_okb rfl rfl, fv_okb rfl rfl, fv_okb rfl rfl, fv_nilz, trivial⟩, fv_okb rfl rfl, trivial⟩)
                  rfl
        · skip
          refine AOps.nil ?_
          refine AWp.cond_f rfl ?_
          refine AWp.skip ?_
          obtain ⟨q, rfl⟩ : ∃ q, m = q + 1 := ⟨m - 1, by omega⟩
          have hcl : ((r.go 2).tk (numV (r.tk 2))).length ≤ 140737488351232 := by have := (Rd.tk_len (r.go 2) (numV (r.tk 2))).2; have := Rd.go_len r 2; omega
          refine AWp.draws [⟨0, [7], [], some 69, _, none⟩,
              ⟨1, [7], [], some 70, _, none⟩,
              ⟨2, [70], [300], some 71, _, none⟩,
              ⟨3, [71], [300], some 72, _, none⟩,
              ⟨4, [72], [300], some 73, _, none⟩,
              ⟨5, [], [1605], some 74, _, some (1605, _)⟩,
              ⟨6, [4], [], some 75, _, none⟩,
              ⟨7, [4], [], some 76, _, none⟩,
              ⟨8, [76], [202], some 77, _, some (202, _)⟩,
              ⟨9, [75, 77], [202], some 78, _, some (202, _)⟩,
              ⟨10, [74, 78], [1605], some 79, _, some (1605, _)⟩,
              ⟨11, [79], [1605, 1611], some 80, _, some (1611, _)⟩,
              ⟨12, [73, 80], [700, 1611], some 81, _, some (700, _)⟩,
              ⟨13, [69], [300], some 82, _, none⟩,
              ⟨14, [82], [300], some 83, _, none⟩,
              ⟨15, [81, 83], [300, 700], none, _, some (300, _)⟩]
            [⟨0, [7], [], some 69, .any, none⟩,
                ⟨1, [7], [], some 70, .any, none⟩,
                ⟨2, [70], [300], some 71, .any, none⟩,
                ⟨3, [71], [300], some 72, .any, none⟩,
                ⟨4, [72], [300], some 73, .any, none⟩,
                ⟨5, [], [1605], some 74, .any, some (1605, .box [])⟩,
                ⟨6, [4], [], some 75, .any, none⟩,
                ⟨7, [4], [], some 76, .any, none⟩,
                ⟨8, [76], [202], some 77, .any, some (202, .box [])⟩,
                ⟨9, [75, 77], [202], some 78, .any, some (202, .box [])⟩,
                ⟨10, [74, 78], [1605], some 79, .any, some (1605, .box [])⟩,
                ⟨11, [79], [1605, 1611], some 80, .any, some (1611, .box [])⟩,
                ⟨12, [73, 80], [700, 1611], some 81, .any, some (700, .box [])⟩,
                ⟨13, [69], [300], some 82, .any, none⟩,
                ⟨14, [82], [300], some 83, .any, none⟩,
                ⟨15, [81, 83], [300, 700], none, .any, some (300, .box [])⟩]
            mixed_ok rfl (by kernel_rfl) ⟨DS.ok_over fun s0 => OpAt.go rfl rfl (q_move),
                DS.ok_over fun s0 => OpAt.go rfl rfl (q_move),
                DS.ok_over fun s0 => OpAt.go rfl rfl (q_nil),
                DS.ok_over fun s0 => OpAt.go rfl rfl (q_fa),
                DS.ok_over fun s0 => OpAt.go rfl rfl (q_load),
                DS.ok_over fun s0 => OpAt.go rfl rfl (q_bs 1605 bc [] []),
                DS.ok_over fun s0 => OpAt.go rfl rfl (q_move),
                DS.ok_over fun s0 => OpAt.go rfl rfl (q_move),
                DS.ok_over fun s0 => OpAt.go rfl rfl (q_callB (0) [(0, 202)] [] [(_, _)] (hc := (c_rnumS r 2 (by decide)))),
                DS.ok_over fun s0 => OpAt.go rfl rfl (q_callB (0) [(0, 202)] [] [(_, _)] (hc := (c_rtake (r.go 2) (numV (r.tk 2)) (numV_2 r).1))),
                DS.ok_over fun s0 => OpAt.go rfl rfl (q_appz (l := [])),
                DS.ok_over fun s0 => OpAt.go rfl rfl (q_bs 1611 (lc 0 bc) [_] [(_, _)]),
                DS.ok_over fun s0 => OpAt.go rfl rfl (q_app),
                DS.ok_over fun s0 => OpAt.go rfl rfl (q_nil),
                DS.ok_over fun s0 => OpAt.go rfl rfl (q_fa),
                DS.ok_over fun s0 => OpAt.go rfl rfl (q_store), trivial⟩ ?_
          dsimp only [final, DS.upd, AS.seto]
          refine AWp.region ?_
          refine AOps.cons rfl rfl (q_add) ?_
          refine AOps.cons rfl rfl (q_move) ?_
          refine AOps.nil ?_
          refine ⟨(q, (r.go 2).go (numV (r.tk 2)), acc ++ [(r.go 2).tk (numV (r.tk 2))], v + 1), ?_, Back.mk' (HasT.cons HasT.nil (h1 := by exact i64_eq (by omega)) ) (HasH.cons (HasH.cons (HasH.cons HasH.nil))), ?_⟩
          · try dsimp only
            exact ⟨by omega, by rw [← hd, dsD_step h14_3], dOk_step hok⟩
          · try dsimp only
            first | omega | (simp; omega)
      · skip
        refine AOps.nil ?_
        refine AWp.seq ?_
        refine AWp.cond_f rfl ?_
        refine AWp.exit ?_
        refine AWp.seq ?_
        refine AWp.seq ?_
        refine AWp.region ?_
        obtain rfl : m = 0 := by omega
        have he : dsE (rf8 b) = (acc, r) := hd.symm
        have hok0 := hok.zero
        have hso := putS_ok (ex := exF b) he hok0
        obtain ⟨rfl, rfl⟩ : acc = (dsE (rf8 b)).1 ∧ r = (dsE (rf8 b)).2 := by rw [he]; exact ⟨rfl, rfl⟩
        have hkk : ¬ kE b = 1 := of_decide_eq_false h8_1
        have hS : rSet b = putS b (exF b) (rf8 b) := if_neg hkk
        have hR : rRd b = (dsE (rf8 b)).2 := if_neg hkk
        refine AOps.weak (Weak.full 0 [] (t := [(2, .ptr 100 0 0), (4, .ptr 202 0 0), (6, i64 (kE b)), (5, .ptr 300 0 0)]) (hl := [(100, .box [.v (.bool false), .v (.string ⟨#[]⟩), .v (.int .i64 0), .v (.int .i64 0), .v (.int .i64 0), .v (.int .i64 0), .v (.int .i64 0), .v (.string ⟨#[]⟩), .v (.slice none 0 0)]), (202, .box [.fz 0 (dsE (rf8 b)).2.l.length (cl bc (dsE (rf8 b)).2.l), tf (dsE (rf8 b)).2.bad]), (300, .box [tf (eDel b), str (putS b (exF b) (rf8 b)).nm, i64 (putS b (exF b) (rf8 b)).ty, i64 (putS b (exF b) (rf8 b)).cs, i64 (putS b (exF b) (rf8 b)).rank, i64 (putS b (exF b) (rf8 b)).kind, i64 (putS b (exF b) (rf8 b)).exp, str (putS b (exF b) (rf8 b)).zone, .fz 0 (putS b (exF b) (rf8 b)).ds.length (cl (lc 0 bc) (putS b (exF b) (rf8 b)).ds)])])) ?_
        refine AOps.cons rfl rfl (q_move) ?_
        refine AOps.cons rfl rfl (q_nil) ?_
        refine AOps.cons rfl rfl (q_fa) ?_
        refine AOps.bool rfl rfl (q_load) (fun h17_3 => ?_) (fun h17_3 => ?_)
        · skip
          refine AOps.cons rfl rfl (q_move) ?_
          refine AOps.gskip rfl rfl rfl rfl rfl rfl rfl rfl ?_
          refine AOps.gskip rfl rfl rfl rfl rfl rfl rfl rfl ?_
          refine AOps.gskip rfl rfl rfl rfl rfl rfl rfl rfl ?_
          refine AOps.gskip rfl rfl rfl rfl rfl rfl rfl rfl ?_
          refine AOps.gskip rfl rfl rfl rfl rfl rfl rfl rfl ?_
          refine AOps.gskip rfl rfl rfl rfl rfl rfl rfl rfl ?_
          refine AOps.cons rfl rfl (q_pick) ?_
          refine AOps.cons rfl rfl (q_move) ?_
          refine AOps.gskip rfl rfl rfl rfl rfl rfl rfl rfl ?_
          refine AOps.gskip rfl rfl rfl rfl rfl rfl rfl rfl ?_
          refine AOps.cons rfl rfl (q_pick) ?_
          refine AOps.cons rfl rfl (q_move) ?_
          refine AOps.gskip rfl rfl rfl rfl rfl rfl rfl rfl ?_
          refine AOps.gskip rfl rfl rfl rfl rfl rfl rfl rfl ?_
          refine AOps.gskip rfl rfl rfl rfl rfl rfl rfl rfl ?_
          refine AOps.cons rfl rfl (q_pick) ?_
          refine AOps.nil ?_
          refine AWp.cond_t rfl ?_
          refine AWp.seq ?_
          refine AWp.region ?_
          refine AOps.cons rfl rfl (q_build []) ?_
          refine AOps.cons rfl rfl (q_store) ?_
          refine AOps.cons rfl rfl (q_assign) ?_
          refine AOps.nil ?_
          refine AWp.ret ?_
          show Fin te Try.f23 _ _
          have hO : rdecO b = false := by rw [rdecO, hR, hS, h17_3, Bool.not_true, Bool.false_and, Bool.false_and, Bool.false_and]
          rw [hE.1] at hO
          obtain ⟨q1, q2, q3⟩ := dNo hO
          rw [q1, q2, q3]
          refine q_ret 0 [_, _] [.agg (tf false :: setC zeroS), _] ?_ (h2 := by exact ⟨fv_agg ⟨fv_okb rfl rfl, fv_okb rfl rfl, fv_okb rfl rfl, fv_okb rfl rfl, fv_okb rfl rfl, fv_okb rfl rfl, fv_okb rfl rfl, fv_okb rfl rfl, fv_nilz, trivial⟩, fv_okb rfl rfl, trivial⟩)
          rfl
        · skip
          refine AOps.cons rfl rfl (q_move) ?_
          refine AOps.gcons rfl rfl rfl rfl rfl (q_move) ?_
          refine AOps.gcons rfl rfl rfl rfl rfl (q_nil) ?_
          refine AOps.gcons rfl rfl rfl rfl rfl (q_fa) ?_
          refine AOps.gcons rfl rfl rfl rfl rfl (q_load) ?_
          refine AOps.gcons rfl rfl rfl rfl rfl (q_len) ?_
          refine AOps.gdec rfl rfl rfl rfl rfl (q_gtr) (fun h17_10 => ?_) (fun h17_10 => ?_)
          · skip
            refine AOps.cons rfl rfl (q_pick) ?_
            refine AOps.cons rfl rfl (q_move) ?_
            refine AOps.gskip rfl rfl rfl rfl rfl rfl rfl rfl ?_
            refine AOps.gskip rfl rfl rfl rfl rfl rfl rfl rfl ?_
            refine AOps.cons rfl rfl (q_pick) ?_
            refine AOps.cons rfl rfl (q_move) ?_
            refine AOps.gskip rfl rfl rfl rfl rfl rfl rfl rfl ?_
            refine AOps.gskip rfl rfl rfl rfl rfl rfl rfl rfl ?_
            refine AOps.gskip rfl rfl rfl rfl rfl rfl rfl rfl ?_
            refine AOps.cons rfl rfl (q_pick) ?_
            refine AOps.nil ?_
            refine AWp.cond_t rfl ?_
            refine AWp.seq ?_
            refine AWp.region ?_
            refine AOps.cons rfl rfl (q_build []) ?_
            refine AOps.cons rfl rfl (q_store) ?_
            refine AOps.cons rfl rfl (q_assign) ?_
            refine AOps.nil ?_
            refine AWp.ret ?_
            show Fin te Try.f23 _ _
            have hO : rdecO b = false := by rw [rdecO, hR, hS, decide_eq_true h17_10, Bool.not_true, Bool.and_false, Bool.false_and, Bool.false_and]
            rw [hE.1] at hO
            obtain ⟨q1, q2, q3⟩ := dNo hO
            rw [q1, q2, q3]
            refine q_ret 0 [_, _] [.agg (tf false :: setC zeroS), _] ?_ (h2 := by exact ⟨fv_agg ⟨fv_okb rfl rfl, fv_okb rfl rfl, fv_okb rfl rfl, fv_okb rfl rfl, fv_okb rfl rfl, fv_okb rfl rfl, fv_okb rfl rfl, fv_okb rfl rfl, fv_nilz, trivial⟩, fv_okb rfl rfl, trivial⟩)
            rfl
          · skip
            refine AOps.cons rfl rfl (q_pick) ?_
            refine AOps.cons rfl rfl (q_move) ?_
            refine AOps.gcons rfl rfl rfl rfl rfl (q_move) ?_
            refine AOps.gdec rfl rfl rfl rfl rfl (q_gtr) (fun h17_14 => ?_) (fun h17_14 => ?_)
            · skip
              refine AOps.cons rfl rfl (q_pick) ?_
              refine AOps.cons rfl rfl (q_move) ?_
              refine AOps.gskip rfl rfl rfl rfl rfl rfl rfl rfl ?_
              refine AOps.gskip rfl rfl rfl rfl rfl rfl rfl rfl ?_
              refine AOps.gskip rfl rfl rfl rfl rfl rfl rfl rfl ?_
              refine AOps.cons rfl rfl (q_pick) ?_
              refine AOps.nil ?_
              refine AWp.cond_t rfl ?_
              refine AWp.seq ?_
              refine AWp.region ?_
              refine AOps.cons rfl rfl (q_build []) ?_
              refine AOps.cons rfl rfl (q_store) ?_
              refine AOps.cons rfl rfl (q_assign) ?_
              refine AOps.nil ?_
              refine AWp.ret ?_
              show Fin te Try.f23 _ _
              have hO : rdecO b = false := by rw [rdecO, hR, hS, decide_eq_true h17_14, Bool.not_true, Bool.and_false, Bool.false_and]
              rw [hE.1] at hO
              obtain ⟨q1, q2, q3⟩ := dNo hO
              rw [q1, q2, q3]
              refine q_ret 0 [_, _] [.agg (tf false :: setC zeroS), _] ?_ (h2 := by exact ⟨fv_agg ⟨fv_okb rfl rfl, fv_okb rfl rfl, fv_okb rfl rfl, fv_okb rfl rfl, fv_okb rfl rfl, fv_okb rfl rfl, fv_okb rfl rfl, fv_okb rfl rfl, fv_nilz, trivial⟩, fv_okb rfl rfl, trivial⟩)
              rfl
            · skip
              refine AOps.cons rfl rfl (q_pick) ?_
              refine AOps.cons rfl rfl (q_move) ?_
              refine AOps.gcons rfl rfl rfl rfl rfl (q_load) ?_
              refine AOps.gbool rfl rfl rfl rfl rfl (q_call (0) (hc := (c_RCanA (eDel b) (putS b (exF b) (rf8 b)) hso))) (fun h17_18 => ?_) (fun h17_18 => ?_)
              · skip
                refine AOps.gcons rfl rfl rfl rfl rfl (q_not) ?_
                refine AOps.cons rfl rfl (q_pick) ?_
                refine AOps.nil ?_
                refine AWp.cond_f rfl ?_
                refine AWp.skip ?_
                refine AWp.seq ?_
                refine AWp.region ?_
                refine AOps.cons rfl rfl (q_load) ?_
                refine AOps.cons rfl rfl (q_store) ?_
                refine AOps.cons rfl rfl (q_assign) ?_
                refine AOps.nil ?_
                refine AWp.ret ?_
                show Fin te Try.f23 _ _
                have hO : rdecO b = true := by rw [rdecO, hR, hS, h17_3, decide_eq_false h17_10, decide_eq_false h17_14, h17_18]; rfl
                rw [hE.1] at hO
                obtain ⟨q1, q2, q3⟩ := dYes hO
                rw [q1, q2, q3, ← hE.2 hO, hS]
                refine q_ret 0 [_, _] [_, _] ?_
                rfl
              · skip
                refine AOps.gcons rfl rfl rfl rfl rfl (q_not) ?_
                refine AOps.cons rfl rfl (q_pick) ?_
                refine AOps.nil ?_
                refine AWp.cond_t rfl ?_
                refine AWp.seq ?_
                refine AWp.region ?_
                refine AOps.cons rfl rfl (q_build []) ?_
                refine AOps.cons rfl rfl (q_store) ?_
                refine AOps.cons rfl rfl (q_assign) ?_
                refine AOps.nil ?_
                refine AWp.ret ?_
                show Fin te Try.f23 _ _
                have hO : rdecO b = false := by rw [rdecO, hR, hS, h17_18, Bool.and_false]
                rw [hE.1] at hO
                obtain ⟨q1, q2, q3⟩ := dNo hO
                rw [q1, q2, q3]
                refine q_ret 0 [_, _] [.agg (tf false :: setC zeroS), _] ?_ (h2 := by exact ⟨fv_agg ⟨fv_okb rfl rfl, fv_okb rfl rfl, fv_okb rfl rfl, fv_okb rfl rfl, fv_okb rfl rfl, fv_okb rfl rfl, fv_okb rfl rfl, fv_okb rfl rfl, fv_nilz, trivial⟩, fv_okb rfl rfl, trivial⟩)
                rfl

end Go.Proofs.Ytaemmklgofddmaa.Fw

/- Plain laws of layer 8: an entry's bytes and back. -/
set_option linter.unusedVariables false
set_option linter.unusedSimpArgs false
namespace Go.Proofs.Ytaemmklgofddmaa.Fw
open Go.RowKit

/-! ### Numbers in bytes and back -/
theorem beV_foldl (l : List UInt8) : ∀ n : Int, l.foldl (fun n x => n * 256 + (x.toNat : Int)) n = n * 256 ^ l.length + beV l := by
  induction l with
  | nil => intro n; simp [beV]
  | cons a l ih =>
    intro n
    have h : beV (a :: l) = (a.toNat : Int) * 256 ^ l.length + beV l := by
      show List.foldl _ (0 * 256 + (a.toNat : Int)) l = _
      rw [ih]; simp
    rw [List.foldl_cons, ih, h, List.length_cons, Int.pow_succ, Int.add_mul]
    have : n * 256 * 256 ^ l.length = n * (256 ^ l.length * 256) := by rw [Int.mul_assoc, Int.mul_comm 256]
    omega
theorem beV_cons (a : UInt8) (l : List UInt8) : beV (a :: l) = (a.toNat : Int) * 256 ^ l.length + beV l := by
  show List.foldl _ (0 * 256 + (a.toNat : Int)) l = _
  rw [beV_foldl]; simp
theorem beV_lt (l : List UInt8) : 0 ≤ beV l ∧ beV l < 256 ^ l.length := by
  have := beV_bound (l := l) l.length (Nat.le_refl _)
  rwa [List.take_length] at this
theorem pow8 (w : Nat) : (2 : Int) ^ (8 * w) = 256 ^ w := by rw [Int.pow_mul]; rfl
theorem p256pos (w : Nat) : (0 : Int) < 256 ^ w := Int.pow_pos (by decide)
theorem beV_numW : ∀ (w : Nat) (n : Int), beV (numW w n) = n % 256 ^ w
  | 0, n => by simp [numW, beV]
  | w + 1, n => by
    rw [numW, beV_cons, beV_numW w n, numW_len, byte_toNat, pow8]
    have hp := p256pos w
    have h1 : n % (256 ^ w * 256) = n % 256 ^ w + 256 ^ w * (n / 256 ^ w % 256) := by
      have a1 := Int.emod_add_mul_ediv n (256 ^ w)
      have a2 : n / 256 ^ w = n / 256 ^ w % 256 + 256 * (n / 256 ^ w / 256) := (Int.emod_add_mul_ediv _ _).symm
      have a3 : n = (n % 256 ^ w + 256 ^ w * (n / 256 ^ w % 256)) + (256 ^ w * 256) * (n / 256 ^ w / 256) := by
        have a4 : 256 ^ w * (n / 256 ^ w) = 256 ^ w * (n / 256 ^ w % 256) + 256 ^ w * 256 * (n / 256 ^ w / 256) := by
          rw [Int.mul_assoc, ← Int.mul_add, ← a2]
        omega
      have b1 := Int.emod_nonneg n (by omega : (256 : Int) ^ w ≠ 0)
      have b2 := Int.emod_lt_of_pos n hp
      have b3 : 0 ≤ n / 256 ^ w % 256 ∧ n / 256 ^ w % 256 ≤ 255 := by omega
      have b4 : 0 ≤ 256 ^ w * (n / 256 ^ w % 256) := Int.mul_nonneg (by omega) b3.1
      have b5 : 256 ^ w * (n / 256 ^ w % 256) ≤ 256 ^ w * 255 := Int.mul_le_mul_of_nonneg_left b3.2 (by omega)
      rw [a3, Int.add_mul_emod_self_left, ← a3]
      exact Int.emod_eq_of_lt (by omega) (by omega)
    rw [Int.pow_succ, h1, Int.mul_comm]; omega
theorem numW_beV_add : ∀ (l : List UInt8) (k : Int), numW l.length (beV l + k * 256 ^ l.length) = l
  | [], k => rfl
  | a :: l, k => by
    have hb := beV_lt l
    have hp := p256pos l.length
    have ha := a.toNat_lt
    have e : beV (a :: l) + k * 256 ^ (a :: l).length = beV l + ((a.toNat : Int) + k * 256) * 256 ^ l.length := by
      rw [beV_cons, List.length_cons, Int.pow_succ, Int.add_mul]
      have : k * (256 ^ l.length * 256) = k * 256 * 256 ^ l.length := by rw [Int.mul_assoc, Int.mul_comm 256]
      omega
    rw [e, List.length_cons, numW, numW_beV_add l, pow8, Int.add_mul_ediv_right _ _ (by omega), Int.ediv_eq_zero_of_lt hb.1 hb.2, Int.zero_add]
    congr 1
    apply UInt8.toNat_inj.1
    have := byte_toNat ((a.toNat : Int) + k * 256)
    omega
theorem numW_beV {l : List UInt8} {w : Nat} (h : l.length = w) : numW w (beV l) = l := by
  subst h
  have := numW_beV_add l 0
  simpa using this
theorem numV_numW {w : Nat} {n : Int} (h0 : 0 ≤ n) (h1 : n < 256 ^ w) (h2 : n ≤ 4611686018427387904) : numV (numW w n) = n := by
  have e : beV (numW w n) = n := by rw [beV_numW, Int.emod_eq_of_lt h0 h1]
  rw [numV, e, if_neg (by omega)]
theorem numV_beV {l : List UInt8} (h : 0 ≤ numV l) : numV l = beV l := by
  unfold numV at h ⊢
  split
  · rename_i h1; rw [if_pos h1] at h; omega
  · rfl
/-! ### Reading what was written -/
theorem app_tk {p q : List UInt8} {n : Int} (h : n = p.length) : (⟨p ++ q, false⟩ : Rd).tk n = p ∧ (⟨p ++ q, false⟩ : Rd).go n = ⟨q, false⟩ := by
  have hx : (⟨p ++ q, false⟩ : Rd).x n = false := by simp [Rd.x]; omega
  have e : n.toNat = p.length := by omega
  rw [Rd.tk_yes hx, Rd.go_yes hx, e]
  simp
theorem app_num {w : Nat} {q : List UInt8} {n m : Int} (hm : m = w) : (⟨numW w n ++ q, false⟩ : Rd).tk m = numW w n ∧ (⟨numW w n ++ q, false⟩ : Rd).go m = ⟨q, false⟩ := app_tk (by rw [numW_len]; exact hm)
theorem dsD_app : ∀ (ds : List (List UInt8)) (rest : List UInt8) (a : List (List UInt8)), (∀ d ∈ ds, d.length ≤ 65535) → dsD ds.length ⟨dsB ds ++ rest, false⟩ a = (a ++ ds, ⟨rest, false⟩)
  | [], rest, a, _ => by simp [dsD, dsB]
  | d :: ds, rest, a, h => by
    have hd := h d (by simp)
    have e : dsB (d :: ds) ++ rest = numW 2 (d.length : Int) ++ (d ++ (dsB ds ++ rest)) := by
      have : dsB (d :: ds) = (numL 2 [(d.length : Int)] ++ d) ++ dsB ds := rfl
      rw [this, numL_one]; simp
    have h1 := app_num (w := 2) (n := (d.length : Int)) (q := d ++ (dsB ds ++ rest)) (m := 2) rfl
    have h2 := app_tk (p := d) (q := dsB ds ++ rest) (n := (d.length : Int)) rfl
    have h3 : numV (numW 2 (d.length : Int)) = d.length := numV_numW (by omega) (by simp; omega) (by omega)
    rw [List.length_cons, dsD_step rfl, e, h1.1, h1.2, h3, h2.1, h2.2, dsD_app ds rest _ fun x hx => h x (by simp [hx])]
    simp
def HOk (x : ESet) : Prop := x.nm.length ≤ 255 ∧ (0 ≤ x.ty ∧ x.ty ≤ 65535) ∧ 0 ≤ x.cs ∧ x.cs ≤ 65535
theorem head_app {x : ESet} {k : Int} {q b : List UInt8} (h : HOk x) (hk : 0 ≤ k ∧ k ≤ 1) (hb : b = numW 1 k ++ (numW 1 (x.nm.length : Int) ++ (x.nm ++ (numW 2 x.ty ++ (numW 2 x.cs ++ q))))) :
    kE b = k ∧ nmE b = x.nm ∧ tyE b = x.ty ∧ csE b = x.cs ∧ rd5 b = ⟨q, false⟩ := by
  obtain ⟨h1, h2, h3⟩ := h
  subst hb
  generalize hB : numW 1 k ++ (numW 1 (x.nm.length : Int) ++ (x.nm ++ (numW 2 x.ty ++ (numW 2 x.cs ++ q)))) = b
  have r0 : rd0 b = ⟨numW 1 k ++ (numW 1 (x.nm.length : Int) ++ (x.nm ++ (numW 2 x.ty ++ (numW 2 x.cs ++ q)))), false⟩ := by rw [← hB]; rfl
  have s0 := app_num (w := 1) (n := k) (q := numW 1 (x.nm.length : Int) ++ (x.nm ++ (numW 2 x.ty ++ (numW 2 x.cs ++ q)))) (m := 1) rfl
  have r1 : rd1 b = _ := (congrArg (Rd.go · 1) r0).trans s0.2
  have k1 : kE b = k := by
    show numV ((rd0 b).tk 1) = k
    rw [r0, s0.1]; exact numV_numW hk.1 (by simp; omega) (by omega)
  have s1 := app_num (w := 1) (n := (x.nm.length : Int)) (q := x.nm ++ (numW 2 x.ty ++ (numW 2 x.cs ++ q))) (m := 1) rfl
  have r2 : rd2 b = _ := (congrArg (Rd.go · 1) r1).trans s1.2
  have n1 : numV ((rd1 b).tk 1) = x.nm.length := by
    rw [r1, s1.1]; exact numV_numW (by omega) (by simp; omega) (by omega)
  have s2 := app_tk (p := x.nm) (q := numW 2 x.ty ++ (numW 2 x.cs ++ q)) (n := (x.nm.length : Int)) rfl
  have m1 : nmE b = x.nm := by show (rd2 b).tk (numV ((rd1 b).tk 1)) = _; rw [n1, r2, s2.1]
  have r3 : rd3 b = ⟨numW 2 x.ty ++ (numW 2 x.cs ++ q), false⟩ := by show (rd2 b).go (numV ((rd1 b).tk 1)) = _; rw [n1, r2]; exact s2.2
  have s3 := app_num (w := 2) (n := x.ty) (q := numW 2 x.cs ++ q) (m := 2) rfl
  have t1 : tyE b = x.ty := by
    show numV ((rd3 b).tk 2) = _
    rw [r3, s3.1]; exact numV_numW h2.1 (by simp; omega) (by omega)
  have r4 : rd4 b = _ := (congrArg (Rd.go · 2) r3).trans s3.2
  have s4 := app_num (w := 2) (n := x.cs) (q := q) (m := 2) rfl
  have c1 : csE b = x.cs := by
    show numV ((rd4 b).tk 2) = _
    rw [r4, s4.1]; exact numV_numW h3.1 (by simp; omega) (by omega)
  exact ⟨k1, m1, t1, c1, (congrArg (Rd.go · 2) r4).trans s4.2⟩
theorem del_app {x : ESet} (h : delO x = true) (q : List UInt8) : eDel (delB x ++ q) = true ∧ eSet (delB x ++ q) = x ∧ eRd (delB x ++ q) = ⟨q, false⟩ := by
  have hx : x = bare x := by
    simp only [delO, Bool.and_eq_true, decide_eq_true_eq] at h
    exact h.2
  obtain ⟨a, b, c, d, e⟩ := head_app (x := x) (k := 1) (q := q) (b := delB x ++ q) (delO_iff h) (by omega) (by simp [delB, numL_two])
  refine ⟨by rw [eDel, a]; rfl, ?_, ?_⟩
  · rw [eSet, if_pos a, delS, b, c, d]; exact hx.symm
  · rw [eRd, if_pos a, e]
theorem can_facts {x : ESet} (hx : SetOk x) (h : canE x = true) : HOk x ∧ (0 ≤ x.rank ∧ x.rank ≤ 3) ∧ (0 ≤ x.kind ∧ x.kind ≤ 2) ∧ (0 ≤ x.exp ∧ x.exp ≤ 1099511627776) ∧ x.zone.length ≤ 255 ∧ x.ds.length ≤ 4000 ∧ ∀ d ∈ x.ds, d.length ≤ 65535 := by
  have he := canE_exp h
  have hs := canE_small hx h
  have hb := putB_len x
  have h2 := dsB_two x.ds
  simp only [canE, Bool.and_eq_true, Bool.not_eq_true', decide_eq_false_iff_not] at h
  obtain ⟨⟨⟨⟨⟨⟨⟨⟨hk, r1⟩, r3⟩, _⟩, _⟩, _⟩, _⟩, al⟩, hq⟩ := h
  obtain ⟨a, b, c⟩ := keyO_iff.1 hk
  have hz : x.zone.length ≤ 255 ∧ 0 ≤ x.kind ∧ x.kind ≤ 2 := by
    unfold canK at hq
    split at hq
    · simp only [Bool.and_eq_true, decide_eq_true_eq] at hq
      exact ⟨by rw [hq.1.2]; decide, by omega, by omega⟩
    · split at hq
      · simp only [Bool.and_eq_true, decide_eq_true_eq] at hq
        rename_i k1
        exact ⟨canN_len hq.1.1.1, by omega, by omega⟩
      · cases hq
  refine ⟨⟨canN_len a, shortB_iff.1 b, shortB_iff.1 c⟩, ⟨by omega, by omega⟩, hz.2, he, hz.1, by omega, fun d hd => ?_⟩
  have := List.any_eq_false.1 al d hd
  simp only [Bool.not_eq_true, Bool.not_eq_false'] at this
  exact canS_len this
theorem tail_app {x : ESet} {q : List UInt8} {r : Rd} (hz : x.zone.length ≤ 255) (hd : x.ds.length ≤ 4000) (hds : ∀ d ∈ x.ds, d.length ≤ 65535) (hr : r = ⟨numW 1 (x.zone.length : Int) ++ (x.zone ++ (numW 2 (x.ds.length : Int) ++ (dsB x.ds ++ q))), false⟩) :
    znE r = x.zone ∧ dsE r = (x.ds, ⟨q, false⟩) := by
  have s1 := app_num (w := 1) (n := (x.zone.length : Int)) (q := x.zone ++ (numW 2 (x.ds.length : Int) ++ (dsB x.ds ++ q))) (m := 1) rfl
  have n1 : numV (r.tk 1) = x.zone.length := by rw [hr, s1.1]; exact numV_numW (by omega) (by simp; omega) (by omega)
  have r9 : rd9 r = _ := (congrArg (Rd.go · 1) hr).trans s1.2
  have s2 := app_tk (p := x.zone) (q := numW 2 (x.ds.length : Int) ++ (dsB x.ds ++ q)) (n := (x.zone.length : Int)) rfl
  have z1 : znE r = x.zone := by show (rd9 r).tk (numV (r.tk 1)) = _; rw [n1, r9, s2.1]
  have r10 : rd10 r = ⟨numW 2 (x.ds.length : Int) ++ (dsB x.ds ++ q), false⟩ := by show (rd9 r).go (numV (r.tk 1)) = _; rw [n1, r9]; exact s2.2
  have s3 := app_num (w := 2) (n := (x.ds.length : Int)) (q := dsB x.ds ++ q) (m := 2) rfl
  have c1 : cnE r = x.ds.length := by
    show numV ((rd10 r).tk 2) = _
    rw [r10, s3.1]; exact numV_numW (by omega) (by simp; omega) (by omega)
  have r11 : rd11 r = _ := (congrArg (Rd.go · 2) r10).trans s3.2
  refine ⟨z1, ?_⟩
  rw [dsE, c1, Int.toNat_natCast, r11, dsD_app x.ds q [] hds, List.nil_append]
theorem put_app {x : ESet} (hx : SetOk x) (h : canE x = true) (q : List UInt8) : eDel (putB x ++ q) = false ∧ eSet (putB x ++ q) = x ∧ eRd (putB x ++ q) = ⟨q, false⟩ := by
  obtain ⟨f1, f2, f3, f4, f5, f6, f7⟩ := can_facts hx h
  generalize hB : putB x ++ q = b
  obtain ⟨a1, a2, a3, a4, a5⟩ := head_app (x := x) (k := 0) (q := numW 1 x.rank ++ (numW 1 x.kind ++ (numW 8 x.exp ++ (numW 1 (x.zone.length : Int) ++ (x.zone ++ (numW 2 (x.ds.length : Int) ++ (dsB x.ds ++ q))))))) (b := b) f1 (by omega) (by rw [← hB]; simp [putB, putP, putH, numL_two, numL_one])
  have s5 := app_num (w := 1) (n := x.rank) (q := numW 1 x.kind ++ (numW 8 x.exp ++ (numW 1 (x.zone.length : Int) ++ (x.zone ++ (numW 2 (x.ds.length : Int) ++ (dsB x.ds ++ q)))))) (m := 1) rfl
  have k5 : rkE b = x.rank := by show numV ((rd5 b).tk 1) = _; rw [a5, s5.1]; exact numV_numW f2.1 (by simp; omega) (by omega)
  have r6 : rd6 b = _ := (congrArg (Rd.go · 1) a5).trans s5.2
  have s6 := app_num (w := 1) (n := x.kind) (q := numW 8 x.exp ++ (numW 1 (x.zone.length : Int) ++ (x.zone ++ (numW 2 (x.ds.length : Int) ++ (dsB x.ds ++ q))))) (m := 1) rfl
  have k6 : kdE b = x.kind := by show numV ((rd6 b).tk 1) = _; rw [r6, s6.1]; exact numV_numW f3.1 (by simp; omega) (by omega)
  have r7 : rd7 b = _ := (congrArg (Rd.go · 1) r6).trans s6.2
  have s7 := app_num (w := 8) (n := x.exp) (q := numW 1 (x.zone.length : Int) ++ (x.zone ++ (numW 2 (x.ds.length : Int) ++ (dsB x.ds ++ q)))) (m := 8) rfl
  have k7 : exE b = x.exp := by show numV ((rd7 b).tk 8) = _; rw [r7, s7.1]; exact numV_numW f4.1 (by simp; omega) (by omega)
  have r8 : rd8 b = _ := (congrArg (Rd.go · 8) r7).trans s7.2
  obtain ⟨t1, t2⟩ := tail_app (x := x) (q := q) (r := rd8 b) f5 f6 f7 r8
  have hk : ¬ kE b = 1 := by omega
  refine ⟨decide_eq_false hk, ?_, ?_⟩
  · rw [eSet, if_neg hk, putS, a2, a3, a4, k5, k6, k7, t1, t2]
  · rw [eRd, if_neg hk, t2]
theorem ent_app {d : Bool} {x : ESet} (hx : SetOk x) (h : entO d x = true) (q : List UInt8) : eDel (entB d x ++ q) = d ∧ eSet (entB d x ++ q) = x ∧ eRd (entB d x ++ q) = ⟨q, false⟩ := by
  cases d with
  | true => exact del_app h q
  | false => exact put_app hx h q
theorem kE_of {b : List UInt8} (h : decO b = true) : kE b = 0 ∨ kE b = 1 := by
  simp only [decO, Bool.and_eq_true, Bool.not_eq_true', decide_eq_false_iff_not] at h
  have := numV_1 (rd0 b)
  have e : numV ((rd0 b).tk 1) = kE b := rfl
  omega
theorem dec_ent {d : Bool} {x : ESet} (hx : SetOk x) (h : entO d x = true) : decO (entB d x) = true ∧ dDel (entB d x) = d ∧ dSet (entB d x) = x := by
  obtain ⟨a, b, c⟩ := ent_app hx h []
  rw [List.append_nil] at a b c
  have hk : ¬ 1 < kE (entB d x) := by
    cases d with
    | true =>
      have : kE (entB true x) = 1 := of_decide_eq_true a
      omega
    | false =>
      obtain ⟨f1, _⟩ := can_facts hx h
      have := (head_app (x := x) (k := 0) (q := numW 1 x.rank ++ (numW 1 x.kind ++ (numW 8 x.exp ++ (numW 1 (x.zone.length : Int) ++ (x.zone ++ (numW 2 (x.ds.length : Int) ++ dsB x.ds)))))) (b := putB x) f1 (by omega) (by simp [putB, putP, putH, numL_two, numL_one])).1
      show ¬ 1 < kE (putB x)
      omega
  have ho : decO (entB d x) = true := by
    rw [decO, a, b, c, h, decide_eq_false hk]; rfl
  obtain ⟨y1, y2, _⟩ := dYes ho
  exact ⟨ho, by rw [y1, a], by rw [y2, b]⟩
theorem dec_more {d : Bool} {x : ESet} (hx : SetOk x) (h : entO d x = true) {q : List UInt8} (hq : q ≠ []) : decO (entB d x ++ q) = false := by
  obtain ⟨a, b, c⟩ := ent_app hx h q
  have : decide ((0 : Int) < q.length) = true := decide_eq_true (by have := List.length_pos_iff.2 hq; omega)
  rw [decO, c]
  show (!false && !decide ((0 : Int) < q.length) && _ && _) = false
  rw [this]; rfl
/-! ### Writing what was read -/
theorem go_ok {r : Rd} {n : Int} (h : (r.go n).bad = false) : r = ⟨r.tk n ++ (r.go n).l, false⟩ ∧ (n ≤ r.l.length) ∧ (r.tk n).length = n.toNat := by
  have hx : r.x n = false := by
    cases e : r.x n with
    | false => rfl
    | true => rw [Rd.go_no e] at h; cases h
  have hb : r.bad = false := by
    cases e : r.bad with
    | false => rfl
    | true => simp [Rd.x, e] at hx
  have hn : n ≤ r.l.length := by
    simp [Rd.x, hb] at hx; exact hx
  rw [Rd.tk_yes hx, Rd.go_yes hx]
  refine ⟨?_, hn, by rw [List.length_take]; omega⟩
  obtain ⟨l, bd⟩ := r
  simp only at hb
  subst hb
  simp
theorem go_l {r : Rd} {n : Int} (h : (r.go n).bad = false) : r.bad = false ∧ r.l = r.tk n ++ (r.go n).l ∧ (r.tk n).length = n.toNat := by
  obtain ⟨h1, h2, h3⟩ := go_ok h
  exact ⟨by rw [h1], (congrArg Rd.l h1), h3⟩
theorem go_num {r : Rd} {w : Nat} {m : Int} (hm : m = w) (h : (r.go m).bad = false) (h0 : 0 ≤ numV (r.tk m)) : r.bad = false ∧ r.l = numW w (numV (r.tk m)) ++ (r.go m).l := by
  subst hm
  obtain ⟨h1, h2, h3⟩ := go_l h
  refine ⟨h1, ?_⟩
  rw [numV_beV h0, numW_beV (by simpa using h3)]; exact h2
theorem dsD_back : ∀ (m : Nat) (r : Rd) (a : List (List UInt8)), (dsD m r a).2.bad = false → ∃ ds, (dsD m r a).1 = a ++ ds ∧ ds.length = m ∧ r.l = dsB ds ++ (dsD m r a).2.l ∧ r.bad = false
  | 0, r, a, h => ⟨[], by simp [dsD], rfl, by simp [dsD, dsB], h⟩
  | m + 1, r, a, h => by
    cases hb : r.bad with
    | true => rw [dsD_bad hb, hb] at h; cases h
    | false =>
      rw [dsD_step hb] at h ⊢
      obtain ⟨ds, h1, h2, h3, h4⟩ := dsD_back m _ _ h
      have g1 := go_l h4
      have g2 := go_num (w := 2) (m := 2) rfl g1.1 (numV_2 r).1
      have g2' : r.l = numW 2 (numV (r.tk 2)) ++ (r.go 2).l := g2.2
      have hn := numV_2 r
      have e : ((r.go 2).tk (numV (r.tk 2))).length = (numV (r.tk 2)).toNat := g1.2.2
      refine ⟨(r.go 2).tk (numV (r.tk 2)) :: ds, by rw [h1]; simp, by simp [h2], ?_, rfl⟩
      have d1 : dsB ((r.go 2).tk (numV (r.tk 2)) :: ds) = (numL 2 [(((r.go 2).tk (numV (r.tk 2))).length : Int)] ++ (r.go 2).tk (numV (r.tk 2))) ++ dsB ds := rfl
      rw [d1, numL_one, e, show (((numV (r.tk 2)).toNat : Nat) : Int) = numV (r.tk 2) by omega, g2', g1.2.1, h3]
      simp
theorem ent_dec {b : List UInt8} (h : decO b = true) : entB (eDel b) (eSet b) = b ∧ entO (eDel b) (eSet b) = true := by
  have hk01 := kE_of h
  simp only [decO, Bool.and_eq_true, Bool.not_eq_true', decide_eq_false_iff_not] at h
  obtain ⟨⟨⟨h1, h2⟩, h3⟩, h4⟩ := h
  refine ⟨?_, h4⟩
  have hl : (eRd b).l = [] := List.length_eq_zero_iff.1 (by omega)
  have head : (rd5 b).bad = false → b = numW 1 (kE b) ++ (numW 1 ((nmE b).length : Int) ++ (nmE b ++ (numW 2 (tyE b) ++ (numW 2 (csE b) ++ (rd5 b).l)))) := by
    intro h5
    have g4 := go_num (r := rd4 b) (w := 2) (m := 2) rfl h5 (numV_2 _).1
    have g3 := go_num (r := rd3 b) (w := 2) (m := 2) rfl g4.1 (numV_2 _).1
    have g2 := go_l (r := rd2 b) (n := numV ((rd1 b).tk 1)) g3.1
    have g1 := go_num (r := rd1 b) (w := 1) (m := 1) rfl g2.1 (numV_1 _).1
    have g0 := go_num (r := rd0 b) (w := 1) (m := 1) rfl g1.1 (numV_1 _).1
    have hn := numV_1 (rd1 b)
    have e1 : ((nmE b).length : Int) = numV ((rd1 b).tk 1) := by
      have : (nmE b).length = (numV ((rd1 b).tk 1)).toNat := g2.2.2
      omega
    rw [e1]
    have q4 : (rd4 b).l = numW 2 (csE b) ++ (rd5 b).l := g4.2
    have q3 : (rd3 b).l = numW 2 (tyE b) ++ (rd4 b).l := g3.2
    have q2 : (rd2 b).l = nmE b ++ (rd3 b).l := g2.2.1
    have q1 : (rd1 b).l = numW 1 (numV ((rd1 b).tk 1)) ++ (rd2 b).l := g1.2
    have q0 : b = numW 1 (kE b) ++ (rd1 b).l := g0.2
    rw [← q4, ← q3, ← q2, ← q1]; exact q0
  rcases hk01 with hk | hk
  · have hk1 : ¬ kE b = 1 := by omega
    have e1 : eDel b = false := decide_eq_false hk1
    have e2 : eSet b = putS b (exE b) (rd8 b) := if_neg hk1
    have e3 : eRd b = (dsE (rd8 b)).2 := if_neg hk1
    rw [e3] at h1 hl
    rw [e1, e2] at h4
    have hx := canE_exp (x := putS b (exE b) (rd8 b)) h4
    have hx0 : 0 ≤ exE b := hx.1
    obtain ⟨ds, d1, d2, d3, d4⟩ := dsD_back (cnE (rd8 b)).toNat (rd11 (rd8 b)) [] h1
    have d1' : (dsE (rd8 b)).1 = ds := d1
    have d3' : (rd11 (rd8 b)).l = dsB ds ++ (dsE (rd8 b)).2.l := d3
    rw [hl, List.append_nil] at d3'
    have g10 := go_num (r := rd10 (rd8 b)) (w := 2) (m := 2) rfl d4 (numV_2 _).1
    have g9 := go_l (r := rd9 (rd8 b)) (n := numV ((rd8 b).tk 1)) g10.1
    have g8 := go_num (r := rd8 b) (w := 1) (m := 1) rfl g9.1 (numV_1 _).1
    have g7 := go_num (r := rd7 b) (w := 8) (m := 8) rfl g8.1 hx0
    have g6 := go_num (r := rd6 b) (w := 1) (m := 1) rfl g7.1 (numV_1 _).1
    have g5 := go_num (r := rd5 b) (w := 1) (m := 1) rfl g6.1 (numV_1 _).1
    have hn := numV_1 (rd8 b)
    have hc := numV_2 (rd10 (rd8 b))
    have z1 : ((znE (rd8 b)).length : Int) = numV ((rd8 b).tk 1) := by
      have : (znE (rd8 b)).length = (numV ((rd8 b).tk 1)).toNat := g9.2.2
      omega
    have c1 : ((dsE (rd8 b)).1.length : Int) = cnE (rd8 b) := by
      have e : cnE (rd8 b) = numV ((rd10 (rd8 b)).tk 2) := rfl
      rw [d1', d2]; omega
    have q10 : (rd10 (rd8 b)).l = numW 2 (cnE (rd8 b)) ++ (rd11 (rd8 b)).l := g10.2
    have q9 : (rd9 (rd8 b)).l = znE (rd8 b) ++ (rd10 (rd8 b)).l := g9.2.1
    have q8 : (rd8 b).l = numW 1 (numV ((rd8 b).tk 1)) ++ (rd9 (rd8 b)).l := g8.2
    have q7 : (rd7 b).l = numW 8 (exE b) ++ (rd8 b).l := g7.2
    have q6 : (rd6 b).l = numW 1 (kdE b) ++ (rd7 b).l := g6.2
    have q5 : (rd5 b).l = numW 1 (rkE b) ++ (rd6 b).l := g5.2
    have hh := head g5.1
    rw [q5, q6, q7, q8, q9, q10, d3', ← d1'] at hh
    rw [e1, e2]
    show putB (putS b (exE b) (rd8 b)) = b
    refine Eq.trans ?_ hh.symm
    rw [← z1, ← c1, hk]
    simp [putB, putP, putH, numL_two, numL_one, putS]
  · have e1 : eDel b = true := decide_eq_true hk
    have e2 : eSet b = delS b := if_pos hk
    have e3 : eRd b = rd5 b := if_pos hk
    rw [e3] at h1 hl
    have hh := head h1
    rw [hl, List.append_nil, hk] at hh
    rw [e1, e2]
    show delB (delS b) = b
    refine Eq.trans ?_ hh.symm
    simp [delB, numL_two, delS]
theorem eSet_ok (b : List UInt8) (hb : b.length ≤ 140737488351232) : SetOk (eSet b) := by
  unfold eSet
  split
  · exact delS_ok b
  · have h1 := nm_len b
    have h2 := zn_len (rd8 b)
    have hd : ∀ (m : Nat) (r : Rd) (a : List (List UInt8)), DOk b m r a → DOk b 0 (dsD m r a).2 (dsD m r a).1 := by
      intro m
      induction m with
      | zero => intro r a h; exact h
      | succ m ih =>
        intro r a h
        cases hb : r.bad with
        | true => rw [dsD_bad hb]; exact h.zero
        | false => rw [dsD_step hb]; exact ih _ _ (dOk_step h)
    have hn3 := numV_2 (rd10 (rd8 b))
    have e : cnE (rd8 b) = numV ((rd10 (rd8 b)).tk 2) := rfl
    exact putS_ok (ex := exE b) rfl (hd (cnE (rd8 b)).toNat (rd11 (rd8 b)) [] ⟨by show 0 + (cnE (rd8 b)).toNat ≤ 65535; omega, (rd11_len (b := b)).2.2, by intro d hd; cases hd⟩)
theorem dSet_ok (b : List UInt8) (hb : b.length ≤ 140737488351232) : SetOk (dSet b) := by
  unfold dSet
  split
  · exact eSet_ok b hb
  · exact ⟨Nat.zero_le _, Nat.zero_le _, Nat.zero_le _, fun d hd => by cases hd⟩
theorem dec_less {d : Bool} {x : ESet} (hx : SetOk x) (h : entO d x = true) {k : Nat} (hk : k < (entB d x).length) (hl : (entB d x).length ≤ 140737488351232) : decO ((entB d x).take k) = false := by
  rw [Bool.eq_false_iff]
  intro hd
  obtain ⟨g1, g2⟩ := ent_dec hd
  have hs := eSet_ok ((entB d x).take k) (by rw [List.length_take]; omega)
  have hm := dec_more hs g2 (q := (entB d x).drop k) (by
    intro e
    have := congrArg List.length e
    rw [List.length_drop, List.length_nil] at this
    omega)
  rw [g1, List.take_append_drop] at hm
  have := (dec_ent hx h).1
  rw [this] at hm; cases hm

end Go.Proofs.Ytaemmklgofddmaa.Fw

/- Walk of layer 8's law EntrySame. -/
set_option linter.unusedVariables false
set_option linter.unusedSimpArgs false
namespace Go.Proofs.Ytaemmklgofddmaa.Fw
open Go.RowKit


theorem has_set {d : Nat} {t s n y z u : TypeId} {it is in' iy iz iu : TI} {cs : List AV} (h : Has te (d + 3) t cs) (ht : te.get t = some it) (kt : it.k = .struct [(0, s), (1, n), (2, n), (3, n), (4, n), (5, n), (6, s), (7, y)]) (hs : te.get s = some is) (ks : is.k = .str) (hn : te.get n = some in') (kn : in'.k = .int .i64)
    (hy : te.get y = some iy) (ky : iy.k = .slice z) (hz : te.get z = some iz) (kz : iz.k = .slice u) (hu : te.get u = some iu) (ku : iu.k = .int .u8) (bu : iu.bytes = 1) (bz : iz.bytes = 24) : ∃ x : ESet, cs = setC x ∧ SetOk x := by
  obtain ⟨_, w, rfl, q, hh⟩ := has_struct h ht kt
  obtain ⟨a1, rfl, b1⟩ := has_str q hs ks
  obtain ⟨_, w, rfl, q, hh⟩ := hh
  obtain ⟨a2, rfl, _⟩ := has_int q hn kn
  obtain ⟨_, w, rfl, q, hh⟩ := hh
  obtain ⟨a3, rfl, _⟩ := has_int q hn kn
  obtain ⟨_, w, rfl, q, hh⟩ := hh
  obtain ⟨a4, rfl, _⟩ := has_int q hn kn
  obtain ⟨_, w, rfl, q, hh⟩ := hh
  obtain ⟨a5, rfl, _⟩ := has_int q hn kn
  obtain ⟨_, w, rfl, q, hh⟩ := hh
  obtain ⟨a6, rfl, _⟩ := has_int q hn kn
  obtain ⟨_, w, rfl, q, hh⟩ := hh
  obtain ⟨a7, rfl, b7⟩ := has_str q hs ks
  obtain ⟨_, w, rfl, q, hh⟩ := hh
  obtain ⟨a8, rfl, b8, c8⟩ := has_bytess q hy ky hz kz hu ku bu bz
  cases hh
  exact ⟨⟨a1, a2, a3, a4, a5, a6, a7, a8⟩, rfl, b1, b7, b8, c8⟩

set_option maxRecDepth 20000 in
theorem c_ciceronelaw08_EntrySame (a b : ESet) (ha : SetOk a) (hb : SetOk b) : AC Try.prog 5 [.agg (setC a), .agg (setC b)] emp (Ret (tf true)) := by
  refine AC.intro te_ok (fn := Try.f5) ⟨Try.func5, rfl, rfl⟩ (Nat.le_of_ble_eq_true rfl) ?_
  refine AWp.seq ?_
  refine AWp.region ?_
  refine AOps.cons rfl rfl (q_box 100) ?_
  refine AOps.cons rfl rfl (q_box 101) ?_
  refine AOps.cons rfl rfl (q_assign) ?_
  refine AOps.nil ?_
  refine AWp.seq ?_
  refine AWp.draws [⟨0, [2], [100], some 5, _, none⟩,
      ⟨1, [3], [101], some 6, _, none⟩,
      ⟨2, [5, 6], [], some 7, _, none⟩,
      ⟨3, [2], [100], some 8, _, none⟩,
      ⟨4, [3], [101], some 9, _, none⟩,
      ⟨5, [8, 9], [], some 10, _, none⟩,
      ⟨6, [7, 10], [], some 11, _, none⟩,
      ⟨7, [11], [], some 12, _, none⟩,
      ⟨8, [2, 12], [100], some 13, _, none⟩,
      ⟨9, [2, 12], [100], some 14, _, none⟩,
      ⟨10, [12, 14], [], some 15, _, none⟩,
      ⟨11, [12, 13, 15], [], some 16, _, none⟩,
      ⟨12, [12, 16], [], some 17, _, none⟩,
      ⟨13, [17], [], some 18, _, none⟩,
      ⟨14, [18], [], some 19, _, none⟩,
      ⟨15, [18, 19], [], some 20, _, none⟩,
      ⟨16, [20], [], some 4, _, none⟩]
    [⟨0, [2], [100], some 5, .any, none⟩,
        ⟨1, [3], [101], some 6, .any, none⟩,
        ⟨2, [5, 6], [], some 7, .any, none⟩,
        ⟨3, [2], [100], some 8, .any, none⟩,
        ⟨4, [3], [101], some 9, .any, none⟩,
        ⟨5, [8, 9], [], some 10, .any, none⟩,
        ⟨6, [7, 10], [], some 11, .any, none⟩,
        ⟨7, [11], [], some 12, .any, none⟩,
        ⟨8, [2, 12], [100], some 13, .any, none⟩,
        ⟨9, [2, 12], [100], some 14, .any, none⟩,
        ⟨10, [12, 14], [], some 15, .any, none⟩,
        ⟨11, [12, 13, 15], [], some 16, .any, none⟩,
        ⟨12, [12, 16], [], some 17, .any, none⟩,
        ⟨13, [17], [], some 18, .any, none⟩,
        ⟨14, [18], [], some 19, .any, none⟩,
        ⟨15, [18, 19], [], some 20, .any, none⟩,
        ⟨16, [20], [], some 4, .any, none⟩]
    mixed_ok rfl (by kernel_rfl) ⟨DS.ok_over fun s0 => OpAt.go rfl rfl (q_load),
        DS.ok_over fun s0 => OpAt.go rfl rfl (q_load),
        DS.ok_over fun s0 => OpAt.go rfl rfl (q_call (0) (hc := (c_entry_Same a b ha))),
        DS.ok_over fun s0 => OpAt.go rfl rfl (q_load),
        DS.ok_over fun s0 => OpAt.go rfl rfl (q_load),
        DS.ok_over fun s0 => OpAt.go rfl rfl (q_call (0) (hc := (c_ciceroneref08_Same a b ha))),
        DS.ok_over fun s0 => OpAt.go rfl rfl ((OpOk.bool_is (c := true) (q_beql) (by simp))),
        DS.ok_over fun s0 => OpAt.go rfl rfl (q_move),
        DS.ok_over fun s0 => OpAt.ggo rfl rfl rfl rfl rfl (q_load),
        DS.ok_over fun s0 => OpAt.ggo rfl rfl rfl rfl rfl (q_load),
        DS.ok_over fun s0 => OpAt.ggo rfl rfl rfl rfl rfl (q_call (0) (hc := (c_ciceroneref08_Copy a ha))),
        DS.ok_over fun s0 => OpAt.ggo rfl rfl rfl rfl rfl ((OpOk.bool_is (c := true) (q_call (0) (hc := (c_entry_Same a a ha))) (decide_eq_true rfl))),
        DS.ok_over fun s0 => OpAt.go rfl rfl (q_pick),
        DS.ok_over fun s0 => OpAt.go rfl rfl (q_move),
        DS.ok_over fun s0 => OpAt.ggo rfl rfl rfl rfl rfl ((OpOk.bool_is (c := true) (q_call (0) (hc := c_ciceronelaw08_awake)) (rfl))),
        DS.ok_over fun s0 => OpAt.go rfl rfl (q_pick),
        DS.ok_over fun s0 => OpAt.go rfl rfl (q_assign), trivial⟩ ?_
  dsimp only [final, DS.upd, AS.seto]
  refine AWp.ret ?_
  show Fin te Try.f5 _ _
  refine q_ret (0) [_] [_] ?_
  rfl

end Go.Proofs.Ytaemmklgofddmaa.Fw

/- Walk of layer 8's law EntryTells. -/
set_option linter.unusedVariables false
set_option linter.unusedSimpArgs false
namespace Go.Proofs.Ytaemmklgofddmaa.Fw
open Go.RowKit


theorem has_ent {d : Nat} {w b t s n y z u : TypeId} {iw ib it is in' iy iz iu : TI} {cs : List AV} (h : Has te (d + 4) w cs) (hw : te.get w = some iw) (kw : iw.k = .struct [(0, b), (1, t)]) (hb : te.get b = some ib) (kb : ib.k = .bool)
    (ht : te.get t = some it) (kt : it.k = .struct [(0, s), (1, n), (2, n), (3, n), (4, n), (5, n), (6, s), (7, y)]) (hs : te.get s = some is) (ks : is.k = .str) (hn : te.get n = some in') (kn : in'.k = .int .i64)
    (hy : te.get y = some iy) (ky : iy.k = .slice z) (hz : te.get z = some iz) (kz : iz.k = .slice u) (hu : te.get u = some iu) (ku : iu.k = .int .u8) (bu : iu.bytes = 1) (bz : iz.bytes = 24) : ∃ (q : Bool) (x : ESet), cs = tf q :: setC x ∧ SetOk x := by
  obtain ⟨_, w, rfl, q, hh⟩ := has_struct h hw kw
  obtain ⟨a1, rfl⟩ := has_bool q hb kb
  obtain ⟨_, w, rfl, q, hh⟩ := hh
  obtain ⟨x, rfl, hx⟩ := has_set q ht kt hs ks hn kn hy ky hz kz hu ku bu bz
  cases hh
  exact ⟨a1, x, by simp, hx⟩
theorem encB_len {d : Bool} {x : ESet} (hx : SetOk x) : (encB d x).length ≤ 4000 := by
  unfold encB
  split
  · rename_i h
    cases d with
    | false => exact (canE_small hx h).2
    | true =>
      have := (delO_iff h).1
      simp only [entB, if_true, delB, List.length_append, numL_len, List.length_nil, List.length_cons]; omega
  · exact Nat.zero_le _

set_option maxRecDepth 20000 in
theorem c_ciceronelaw08_EntryTells (d : Bool) (x : ESet) (hx : SetOk x) : AC Try.prog 4 [.agg (tf d :: setC x)] emp (Ret (tf true)) := by
  have hl := encB_len (d := d) hx
  refine AC.intro te_ok (fn := Try.f4) ⟨Try.func4, rfl, rfl⟩ (Nat.le_of_ble_eq_true rfl) ?_
  refine AWp.seq ?_
  refine AWp.region ?_
  refine AOps.cons rfl rfl (q_box 100) ?_
  refine AOps.cons rfl rfl (q_assign) ?_
  refine AOps.nil ?_
  refine AWp.seq ?_
  refine AWp.draws [⟨0, [1], [100], some 8, _, none⟩,
      ⟨1, [8], [100], some 9, _, none⟩,
      ⟨2, [1], [100], some 10, _, none⟩,
      ⟨3, [10], [100], some 11, _, none⟩,
      ⟨4, [11], [], some 12, _, none⟩,
      ⟨5, [9, 12], [], some 13, _, none⟩,
      ⟨6, [], [206], some 3, _, some (206, _)⟩,
      ⟨7, [3, 13], [206], none, _, some (206, _)⟩]
    [⟨0, [1], [100], some 8, .any, none⟩,
        ⟨1, [8], [100], some 9, .any, none⟩,
        ⟨2, [1], [100], some 10, .any, none⟩,
        ⟨3, [10], [100], some 11, .any, none⟩,
        ⟨4, [11], [], some 12, .any, none⟩,
        ⟨5, [9, 12], [], some 13, .any, none⟩,
        ⟨6, [], [206], some 3, .any, some (206, .box [])⟩,
        ⟨7, [3, 13], [206], none, .any, some (206, .box [])⟩]
    mixed_ok rfl (by kernel_rfl) ⟨DS.ok_over fun s0 => OpAt.go rfl rfl (q_fa),
        DS.ok_over fun s0 => OpAt.go rfl rfl (q_load),
        DS.ok_over fun s0 => OpAt.go rfl rfl (q_fa),
        DS.ok_over fun s0 => OpAt.go rfl rfl (q_load),
        DS.ok_over fun s0 => OpAt.go rfl rfl (q_call (0) (hc := (c_ciceroneref08_Copy x hx))),
        DS.ok_over fun s0 => OpAt.go rfl rfl (q_build [(_, _), (_, _)]),
        DS.ok_over fun s0 => OpAt.go rfl rfl (q_alloc 206),
        DS.ok_over fun s0 => OpAt.go rfl rfl (q_store), trivial⟩ ?_
  dsimp only [final, DS.upd, AS.seto]
  refine AWp.seq ?_
  refine AWp.region ?_
  refine AOps.cons rfl rfl (q_load) ?_
  refine AOps.cons rfl rfl (q_call (0) (hc := (c_EncodeA d x hx))) ?_
  refine AOps.cons rfl rfl (q_move) ?_
  refine AOps.cons rfl rfl (q_extract) ?_
  refine AOps.cons rfl rfl (q_extract) ?_
  refine AOps.cons rfl rfl (q_assign) ?_
  refine AOps.cons rfl rfl (q_assign) ?_
  refine AOps.nil ?_
  refine AWp.seq ?_
  refine AWp.region ?_
  refine AOps.cons rfl rfl (q_load) ?_
  refine AOps.cons rfl rfl (q_call (0) (hc := (c_REncodeA d x hx))) ?_
  refine AOps.cons rfl rfl (q_move) ?_
  refine AOps.cons rfl rfl (q_extract) ?_
  refine AOps.cons rfl rfl (q_extract) ?_
  refine AOps.cons rfl rfl (q_assign) ?_
  refine AOps.cons rfl rfl (q_assign) ?_
  refine AOps.nil ?_
  refine AWp.seq ?_
  refine AWp.draws [⟨0, [5], [], some 24, _, none⟩,
      ⟨1, [7], [], some 25, _, none⟩,
      ⟨2, [24, 25], [], some 26, _, none⟩,
      ⟨3, [26], [], some 27, _, none⟩,
      ⟨4, [4, 27], [], some 28, _, none⟩,
      ⟨5, [6, 27], [], some 29, _, none⟩,
      ⟨6, [27, 28, 29], [], some 30, _, none⟩,
      ⟨7, [27, 30], [], some 31, _, none⟩,
      ⟨8, [31], [], some 32, _, none⟩,
      ⟨9, [3, 32], [206], some 33, _, none⟩,
      ⟨10, [32, 33], [206], some 34, _, none⟩,
      ⟨11, [32, 34], [], some 35, _, none⟩,
      ⟨12, [1, 32], [100], some 36, _, none⟩,
      ⟨13, [32, 36], [100], some 37, _, none⟩,
      ⟨14, [32, 37], [], some 38, _, none⟩,
      ⟨15, [32, 35, 38], [], some 39, _, none⟩,
      ⟨16, [32, 39], [], some 40, _, none⟩,
      ⟨17, [40], [], some 41, _, none⟩,
      ⟨18, [3, 41], [206], some 42, _, none⟩,
      ⟨19, [41, 42], [206], some 43, _, none⟩,
      ⟨20, [1, 41], [100], some 44, _, none⟩,
      ⟨21, [41, 44], [100], some 45, _, none⟩,
      ⟨22, [41, 43, 45], [], some 46, _, none⟩,
      ⟨23, [41, 46], [], some 47, _, none⟩,
      ⟨24, [47], [], some 48, _, none⟩,
      ⟨25, [48], [], some 49, _, none⟩,
      ⟨26, [48, 49], [], some 50, _, none⟩,
      ⟨27, [50], [], some 2, _, none⟩]
    [⟨0, [5], [], some 24, .any, none⟩,
        ⟨1, [7], [], some 25, .any, none⟩,
        ⟨2, [24, 25], [], some 26, .any, none⟩,
        ⟨3, [26], [], some 27, .any, none⟩,
        ⟨4, [4, 27], [], some 28, .any, none⟩,
        ⟨5, [6, 27], [], some 29, .any, none⟩,
        ⟨6, [27, 28, 29], [], some 30, .any, none⟩,
        ⟨7, [27, 30], [], some 31, .any, none⟩,
        ⟨8, [31], [], some 32, .any, none⟩,
        ⟨9, [3, 32], [206], some 33, .any, none⟩,
        ⟨10, [32, 33], [206], some 34, .any, none⟩,
        ⟨11, [32, 34], [], some 35, .any, none⟩,
        ⟨12, [1, 32], [100], some 36, .any, none⟩,
        ⟨13, [32, 36], [100], some 37, .any, none⟩,
        ⟨14, [32, 37], [], some 38, .any, none⟩,
        ⟨15, [32, 35, 38], [], some 39, .any, none⟩,
        ⟨16, [32, 39], [], some 40, .any, none⟩,
        ⟨17, [40], [], some 41, .any, none⟩,
        ⟨18, [3, 41], [206], some 42, .any, none⟩,
        ⟨19, [41, 42], [206], some 43, .any, none⟩,
        ⟨20, [1, 41], [100], some 44, .any, none⟩,
        ⟨21, [41, 44], [100], some 45, .any, none⟩,
        ⟨22, [41, 43, 45], [], some 46, .any, none⟩,
        ⟨23, [41, 46], [], some 47, .any, none⟩,
        ⟨24, [47], [], some 48, .any, none⟩,
        ⟨25, [48], [], some 49, .any, none⟩,
        ⟨26, [48, 49], [], some 50, .any, none⟩,
        ⟨27, [50], [], some 2, .any, none⟩]
    mixed_ok rfl (by kernel_rfl) ⟨DS.ok_over fun s0 => OpAt.go rfl rfl (q_move),
        DS.ok_over fun s0 => OpAt.go rfl rfl (q_move),
        DS.ok_over fun s0 => OpAt.go rfl rfl ((OpOk.dec_t (q_eql) (rfl))),
        DS.ok_over fun s0 => OpAt.go rfl rfl (q_move),
        DS.ok_over fun s0 => OpAt.ggo rfl rfl rfl rfl rfl (q_move),
        DS.ok_over fun s0 => OpAt.ggo rfl rfl rfl rfl rfl (q_move),
        DS.ok_over fun s0 => OpAt.ggo rfl rfl rfl rfl rfl ((OpOk.bool_is (c := true) (q_call (0) (hc := (c_bytes_Equal (encB d x) (encB d x) 0 0))) (by simp))),
        DS.ok_over fun s0 => OpAt.go rfl rfl (q_pick),
        DS.ok_over fun s0 => OpAt.go rfl rfl (q_move),
        DS.ok_over fun s0 => OpAt.ggo rfl rfl rfl rfl rfl (q_fa),
        DS.ok_over fun s0 => OpAt.ggo rfl rfl rfl rfl rfl (q_load),
        DS.ok_over fun s0 => OpAt.ggo rfl rfl rfl rfl rfl (q_call (0) (hc := (c_entry_Can x hx))),
        DS.ok_over fun s0 => OpAt.ggo rfl rfl rfl rfl rfl (q_fa),
        DS.ok_over fun s0 => OpAt.ggo rfl rfl rfl rfl rfl (q_load),
        DS.ok_over fun s0 => OpAt.ggo rfl rfl rfl rfl rfl (q_call (0) (hc := (c_ciceroneref08_Can x hx))),
        DS.ok_over fun s0 => OpAt.ggo rfl rfl rfl rfl rfl ((OpOk.bool_is (c := true) (q_beql) (by simp))),
        DS.ok_over fun s0 => OpAt.go rfl rfl (q_pick),
        DS.ok_over fun s0 => OpAt.go rfl rfl (q_move),
        DS.ok_over fun s0 => OpAt.ggo rfl rfl rfl rfl rfl (q_fa),
        DS.ok_over fun s0 => OpAt.ggo rfl rfl rfl rfl rfl (q_load),
        DS.ok_over fun s0 => OpAt.ggo rfl rfl rfl rfl rfl (q_fa),
        DS.ok_over fun s0 => OpAt.ggo rfl rfl rfl rfl rfl (q_load),
        DS.ok_over fun s0 => OpAt.ggo rfl rfl rfl rfl rfl ((OpOk.bool_is (c := true) (q_call (0) (hc := (c_entry_Same x x hx))) (decide_eq_true rfl))),
        DS.ok_over fun s0 => OpAt.go rfl rfl (q_pick),
        DS.ok_over fun s0 => OpAt.go rfl rfl (q_move),
        DS.ok_over fun s0 => OpAt.ggo rfl rfl rfl rfl rfl ((OpOk.bool_is (c := true) (q_call (0) (hc := c_ciceronelaw08_awake)) (rfl))),
        DS.ok_over fun s0 => OpAt.go rfl rfl (q_pick),
        DS.ok_over fun s0 => OpAt.go rfl rfl (q_assign), trivial⟩ ?_
  dsimp only [final, DS.upd, AS.seto]
  refine AWp.ret ?_
  show Fin te Try.f4 _ _
  refine q_ret (0) [_] [_] ?_
  rfl

end Go.Proofs.Ytaemmklgofddmaa.Fw

/- Walks of layer 8's laws EntryReads, EntryBack. -/
set_option linter.unusedVariables false
set_option linter.unusedSimpArgs false
namespace Go.Proofs.Ytaemmklgofddmaa.Fw
open Go.RowKit


theorem dErr_80 {b : List UInt8} (h : ¬ dErr b = 0) : dErr b = 80 := by
  unfold dErr at h ⊢
  split
  · rename_i h1; rw [if_pos h1] at h; exact absurd rfl h
  · rfl
theorem dErr_no {b : List UInt8} (h : decO b = false) : dErr b = 80 := (dNo h).2.2
theorem dErr_ok {b : List UInt8} (h : dErr b = 0) : decO b = true := by
  cases e : decO b with
  | true => rfl
  | false => rw [dErr_no e] at h; cases h
theorem encE_ok {d : Bool} {x : ESet} (h : encE d x = 0) : entO d x = true := by
  cases e : entO d x with
  | true => rfl
  | false => rw [encE, e] at h; cases h
theorem encE_iff (d : Bool) (x : ESet) : decide (encE d x = 0) = entO d x := by
  cases e : entO d x <;> simp [encE, e]
theorem enc_dec {d : Bool} {x : ESet} (hx : SetOk x) (h : entO d x = true) : dErr (encB d x) = 0 ∧ dDel (encB d x) = d ∧ dSet (encB d x) = x := by
  have e : encB d x = entB d x := if_pos h
  obtain ⟨a, b, c⟩ := dec_ent hx h
  rw [e]
  exact ⟨(dYes a).2.2, b, c⟩
theorem dec_enc {b : List UInt8} (h : decO b = true) : encE (dDel b) (dSet b) = 0 ∧ encB (dDel b) (dSet b) = b := by
  obtain ⟨y1, y2, _⟩ := dYes h
  obtain ⟨e1, e2⟩ := ent_dec h
  rw [y1, y2]
  exact ⟨by rw [encE, e2]; rfl, by rw [encB, e2]; exact e1⟩
theorem canN_pos {l : List UInt8} (h : canN l = true) : 1 ≤ l.length := by
  obtain ⟨ls, g, e, hl⟩ := canN_iff.1 h
  rw [e]
  simp [joinN]
theorem ent_len {d : Bool} {x : ESet} (h : entO d x = true) : 7 ≤ (entB d x).length := by
  cases d with
  | false => have := putB_len x; show 7 ≤ (putB x).length; omega
  | true =>
    have h1 : canN x.nm = true := by
      have : delO x = true := h
      simp only [delO, Bool.and_eq_true] at this
      exact (keyO_iff.1 this.1).1
    have := canN_pos h1
    show 7 ≤ (delB x).length
    simp only [delB, List.length_append, numL_len, List.length_nil, List.length_cons]; omega

set_option maxRecDepth 20000 in
set_option maxHeartbeats 2000000 in
theorem c_ciceronelaw08_EntryReads  (b : List UInt8) (hb : b.length ≤ 140737488351232) : AC Try.prog 6 [.fz 0 b.length (cl bc b)] emp (Ret (tf true)) := by
  have hs := dSet_ok b hb
  refine AC.intro te_ok (fn := Try.f6) ⟨Try.func6, rfl, rfl⟩ (Nat.le_of_ble_eq_true rfl) ?_
  refine AWp.seq ?_
  refine AWp.region ?_
  refine AOps.cons rfl rfl (q_assign) ?_
  refine AOps.nil ?_
  refine AWp.seq ?_
  refine AWp.region ?_
  refine AOps.cons rfl rfl (q_move) ?_
  refine AOps.cons rfl rfl (q_call (0) (hc := (c_bytes_Clone b 0 hb))) ?_
  refine AOps.cons rfl rfl (q_assign) ?_
  refine AOps.nil ?_
  refine AWp.seq ?_
  refine AWp.region ?_
  refine AOps.cons rfl rfl (q_move) ?_
  refine AOps.cons rfl rfl (q_call (0) (hc := (c_Decode b hb))) ?_
  refine AOps.cons rfl rfl (q_move) ?_
  refine AOps.cons rfl rfl (q_extract) ?_
  refine AOps.cons rfl rfl (q_extract) ?_
  refine AOps.cons rfl rfl (q_alloc 305) ?_
  refine AOps.cons rfl rfl (q_store) ?_
  refine AOps.cons rfl rfl (q_assign) ?_
  refine AOps.nil ?_
  refine AWp.seq ?_
  refine AWp.region ?_
  refine AOps.cons rfl rfl (q_move) ?_
  refine AOps.cons rfl rfl (q_call (0) (hc := (c_rDecode b hb))) ?_
  refine AOps.cons rfl rfl (q_move) ?_
  refine AOps.cons rfl rfl (q_extract) ?_
  refine AOps.cons rfl rfl (q_extract) ?_
  refine AOps.cons rfl rfl (q_alloc 405) ?_
  refine AOps.cons rfl rfl (q_store) ?_
  refine AOps.cons rfl rfl (q_assign) ?_
  refine AOps.nil ?_
  refine AWp.seq ?_
  refine AWp.region ?_
  refine AOps.cons rfl rfl (q_move) ?_
  refine AOps.cons rfl rfl (q_move) ?_
  refine AOps.cons rfl rfl ((OpOk.dec_t (q_eql) (rfl))) ?_
  refine AOps.cons rfl rfl (q_move) ?_
  refine AOps.gcons rfl rfl rfl rfl rfl (q_fa) ?_
  refine AOps.gcons rfl rfl rfl rfl rfl (q_load) ?_
  refine AOps.gcons rfl rfl rfl rfl rfl (q_fa) ?_
  refine AOps.gcons rfl rfl rfl rfl rfl (q_load) ?_
  refine AOps.gcons rfl rfl rfl rfl rfl ((OpOk.bool_is (c := true) (q_beql) (by simp))) ?_
  refine AOps.cons rfl rfl (q_pick) ?_
  refine AOps.cons rfl rfl (q_move) ?_
  refine AOps.gcons rfl rfl rfl rfl rfl (q_fa) ?_
  refine AOps.gcons rfl rfl rfl rfl rfl (q_load) ?_
  refine AOps.gcons rfl rfl rfl rfl rfl (q_fa) ?_
  refine AOps.gcons rfl rfl rfl rfl rfl (q_load) ?_
  refine AOps.gcons rfl rfl rfl rfl rfl ((OpOk.bool_is (c := true) (q_call (0) (hc := (c_ciceroneref08_Same (dSet b) (dSet b) hs))) (decide_eq_true rfl))) ?_
  refine AOps.cons rfl rfl (q_pick) ?_
  refine AOps.cons rfl rfl (q_move) ?_
  refine AOps.gcons rfl rfl rfl rfl rfl (q_move) ?_
  refine AOps.gcons rfl rfl rfl rfl rfl (q_move) ?_
  refine AOps.gcons rfl rfl rfl rfl rfl ((OpOk.bool_is (c := true) (q_call (0) (hc := (c_bytes_Equal b b 0 0))) (by simp))) ?_
  refine AOps.cons rfl rfl (q_pick) ?_
  refine AOps.cons rfl rfl (q_move) ?_
  refine AOps.gcons rfl rfl rfl rfl rfl ((OpOk.bool_is (c := true) (q_call (0) (hc := c_ciceronelaw08_awake)) (rfl))) ?_
  refine AOps.cons rfl rfl (q_pick) ?_
  refine AOps.cons rfl rfl (q_assign) ?_
  refine AOps.nil ?_
  refine AWp.ret ?_
  show Fin te Try.f6 _ _
  refine q_ret (0) [_] [_] ?_
  rfl

set_option maxRecDepth 20000 in
set_option maxHeartbeats 2000000 in
theorem c_ciceronelaw08_EntryBack (d : Bool) (x : ESet) (hx : SetOk x) (b : List UInt8) (hb : b.length ≤ 140737488351232) : AC Try.prog 7 [.agg (tf d :: setC x), .fz 0 b.length (cl bc b)] emp (Ret (tf true)) := by
  have hl := encB_len (d := d) hx
  have hs := dSet_ok b hb
  refine AC.intro te_ok (fn := Try.f7) ⟨Try.func7, rfl, rfl⟩ (Nat.le_of_ble_eq_true rfl) ?_
  refine AWp.seq ?_
  refine AWp.region ?_
  refine AOps.cons rfl rfl (q_box 100) ?_
  refine AOps.cons rfl rfl (q_assign) ?_
  refine AOps.nil ?_
  refine AWp.seq ?_
  refine AWp.region ?_
  refine AOps.cons rfl rfl (q_load) ?_
  refine AOps.cons rfl rfl (q_call (0) (hc := (c_EncodeA d x hx))) ?_
  refine AOps.cons rfl rfl (q_move) ?_
  refine AOps.cons rfl rfl (q_extract) ?_
  refine AOps.cons rfl rfl (q_extract) ?_
  refine AOps.cons rfl rfl (q_assign) ?_
  refine AOps.cons rfl rfl (q_assign) ?_
  refine AOps.nil ?_
  refine AWp.seq ?_
  refine AWp.seq ?_
  refine AWp.region ?_
  refine AOps.cons rfl rfl (q_move) ?_
  refine AOps.cons rfl rfl (q_eql) ?_
  refine AOps.cons rfl rfl (q_load) ?_
  refine AOps.cons rfl rfl (q_call (0) (hc := (c_RCanA d x hx))) ?_
  refine AOps.cons rfl rfl ((OpOk.bool_is (c := false) (q_bneq) (by rw [encE_iff]; simp))) ?_
  refine AOps.nil ?_
  refine AWp.cond_f rfl ?_
  refine AWp.skip ?_
  refine AWp.seq ?_
  refine AWp.seq ?_
  refine AWp.region ?_
  refine AOps.cons rfl rfl (q_move) ?_
  refine AOps.dec rfl rfl (q_eql) (fun h4_1 => ?_) (fun h4_1 => ?_)
  · skip
    refine AOps.nil ?_
    refine AWp.cond_t rfl ?_
    refine AWp.seq ?_
    refine AWp.region ?_
    have hd := enc_dec hx (encE_ok h4_1)
    refine AOps.cons rfl rfl (q_move) ?_
    refine AOps.cons rfl rfl (q_call (0) (hc := (c_Decode (encB d x) (by omega)))) ?_
    refine AOps.cons rfl rfl (q_move) ?_
    refine AOps.cons rfl rfl (q_extract) ?_
    refine AOps.cons rfl rfl (q_extract) ?_
    refine AOps.cons rfl rfl (q_alloc 605) ?_
    refine AOps.cons rfl rfl (q_store) ?_
    refine AOps.cons rfl rfl (q_assign) ?_
    refine AOps.nil ?_
    refine AWp.seq ?_
    refine AWp.region ?_
    refine AOps.cons rfl rfl (q_move) ?_
    refine AOps.cons rfl rfl ((OpOk.dec_f (q_neq) (fun h => h hd.1))) ?_
    refine AOps.cons rfl rfl (q_move) ?_
    refine AOps.gcons rfl rfl rfl rfl rfl (q_fa) ?_
    refine AOps.gcons rfl rfl rfl rfl rfl (q_load) ?_
    refine AOps.gcons rfl rfl rfl rfl rfl (q_fa) ?_
    refine AOps.gcons rfl rfl rfl rfl rfl (q_load) ?_
    refine AOps.gcons rfl rfl rfl rfl rfl ((OpOk.bool_is (c := false) (q_bneq) (by rw [hd.2.1]; simp))) ?_
    refine AOps.cons rfl rfl (q_pick) ?_
    refine AOps.cons rfl rfl (q_move) ?_
    refine AOps.gcons rfl rfl rfl rfl rfl (q_fa) ?_
    refine AOps.gcons rfl rfl rfl rfl rfl (q_load) ?_
    refine AOps.gcons rfl rfl rfl rfl rfl (q_fa) ?_
    refine AOps.gcons rfl rfl rfl rfl rfl (q_load) ?_
    refine AOps.gcons rfl rfl rfl rfl rfl ((OpOk.bool_is (c := true) (q_call (0) (hc := (c_ciceroneref08_Same (dSet (encB d x)) x (dSet_ok _ (by omega))))) (decide_eq_true hd.2.2))) ?_
    refine AOps.gcons rfl rfl rfl rfl rfl (q_not) ?_
    refine AOps.cons rfl rfl (q_pick) ?_
    refine AOps.nil ?_
    refine AWp.cond_f rfl ?_
    refine AWp.skip ?_
    refine AWp.seq ?_
    refine AWp.region ?_
    refine AOps.cons rfl rfl (q_move) ?_
    refine AOps.cons rfl rfl (q_call (0) (hc := (c_Decode b hb))) ?_
    refine AOps.cons rfl rfl (q_move) ?_
    refine AOps.cons rfl rfl (q_extract) ?_
    refine AOps.cons rfl rfl (q_extract) ?_
    refine AOps.cons rfl rfl (q_alloc 905) ?_
    refine AOps.cons rfl rfl (q_store) ?_
    refine AOps.cons rfl rfl (q_assign) ?_
    refine AOps.nil ?_
    refine AWp.seq ?_
    refine AWp.seq ?_
    refine AWp.region ?_
    refine AOps.cons rfl rfl (q_move) ?_
    refine AOps.dec rfl rfl (q_neq) (fun h9_1 => ?_) (fun h9_1 => ?_)
    · skip
      refine AOps.nil ?_
      refine AWp.cond_t rfl ?_
      refine AWp.seq ?_
      refine AWp.region ?_
      refine AOps.cons rfl rfl (q_move) ?_
      refine AOps.cons rfl rfl ((OpOk.dec_t (q_eql) (dErr_80 h9_1))) ?_
      refine AOps.cons rfl rfl (q_move) ?_
      refine AOps.gcons rfl rfl rfl rfl rfl ((OpOk.bool_is (c := true) (q_call (0) (hc := c_ciceronelaw08_awake)) (rfl))) ?_
      refine AOps.cons rfl rfl (q_pick) ?_
      refine AOps.cons rfl rfl (q_assign) ?_
      refine AOps.nil ?_
      refine AWp.ret ?_
      show Fin te Try.f7 _ _
      refine q_ret (0) [_] [_] ?_
      rfl
    · skip
      refine AOps.nil ?_
      refine AWp.cond_f rfl ?_
      refine AWp.skip ?_
      refine AWp.seq ?_
      refine AWp.region ?_
      have he := dec_enc (dErr_ok (b := b) (by omega))
      have hl2 := encB_len (d := dDel b) hs
      refine AOps.cons rfl rfl (q_load) ?_
      refine AOps.cons rfl rfl (q_call (0) (hc := (c_EncodeA (dDel b) (dSet b) hs))) ?_
      refine AOps.cons rfl rfl (q_move) ?_
      refine AOps.cons rfl rfl (q_extract) ?_
      refine AOps.cons rfl rfl (q_extract) ?_
      refine AOps.cons rfl rfl (q_assign) ?_
      refine AOps.cons rfl rfl (q_assign) ?_
      refine AOps.nil ?_
      refine AWp.seq ?_
      refine AWp.region ?_
      refine AOps.cons rfl rfl (q_move) ?_
      refine AOps.cons rfl rfl ((OpOk.dec_t (q_eql) (he.1))) ?_
      refine AOps.cons rfl rfl (q_move) ?_
      refine AOps.gcons rfl rfl rfl rfl rfl (q_move) ?_
      refine AOps.gcons rfl rfl rfl rfl rfl (q_move) ?_
      refine AOps.gcons rfl rfl rfl rfl rfl ((OpOk.bool_is (c := true) (q_call (0) (hc := (c_bytes_Equal (encB (dDel b) (dSet b)) b 0 0))) (decide_eq_true he.2))) ?_
      refine AOps.cons rfl rfl (q_pick) ?_
      refine AOps.cons rfl rfl (q_assign) ?_
      refine AOps.nil ?_
      refine AWp.ret ?_
      show Fin te Try.f7 _ _
      refine q_ret (0) [_] [_] ?_
      rfl
  · skip
    refine AOps.nil ?_
    refine AWp.cond_f rfl ?_
    refine AWp.skip ?_
    refine AWp.seq ?_
    refine AWp.region ?_
    refine AOps.cons rfl rfl (q_move) ?_
    refine AOps.cons rfl rfl (q_call (0) (hc := (c_Decode b hb))) ?_
    refine AOps.cons rfl rfl (q_move) ?_
    refine AOps.cons rfl rfl (q_extract) ?_
    refine AOps.cons rfl rfl (q_extract) ?_
    refine AOps.cons rfl rfl (q_alloc 905) ?_
    refine AOps.cons rfl rfl (q_store) ?_
    refine AOps.cons rfl rfl (q_assign) ?_
    refine AOps.nil ?_
    refine AWp.seq ?_
    refine AWp.seq ?_
    refine AWp.region ?_
    refine AOps.cons rfl rfl (q_move) ?_
    refine AOps.dec rfl rfl (q_neq) (fun h9_1 => ?_) (fun h9_1 => ?_)
    · skip
      refine AOps.nil ?_
      refine AWp.cond_t rfl ?_
      refine AWp.seq ?_
      refine AWp.region ?_
      refine AOps.cons rfl rfl (q_move) ?_
      refine AOps.cons rfl rfl ((OpOk.dec_t (q_eql) (dErr_80 h9_1))) ?_
      refine AOps.cons rfl rfl (q_move) ?_
      refine AOps.gcons rfl rfl rfl rfl rfl ((OpOk.bool_is (c := true) (q_call (0) (hc := c_ciceronelaw08_awake)) (rfl))) ?_
      refine AOps.cons rfl rfl (q_pick) ?_
      refine AOps.cons rfl rfl (q_assign) ?_
      refine AOps.nil ?_
      refine AWp.ret ?_
      show Fin te Try.f7 _ _
      refine q_ret (0) [_] [_] ?_
      rfl
    · skip
      refine AOps.nil ?_
      refine AWp.cond_f rfl ?_
      refine AWp.skip ?_
      refine AWp.seq ?_
      refine AWp.region ?_
      have he := dec_enc (dErr_ok (b := b) (by omega))
      have hl2 := encB_len (d := dDel b) hs
      refine AOps.cons rfl rfl (q_load) ?_
      refine AOps.cons rfl rfl (q_call (0) (hc := (c_EncodeA (dDel b) (dSet b) hs))) ?_
      refine AOps.cons rfl rfl (q_move) ?_
      refine AOps.cons rfl rfl (q_extract) ?_
      refine AOps.cons rfl rfl (q_extract) ?_
      refine AOps.cons rfl rfl (q_assign) ?_
      refine AOps.cons rfl rfl (q_assign) ?_
      refine AOps.nil ?_
      refine AWp.seq ?_
      refine AWp.region ?_
      refine AOps.cons rfl rfl (q_move) ?_
      refine AOps.cons rfl rfl ((OpOk.dec_t (q_eql) (he.1))) ?_
      refine AOps.cons rfl rfl (q_move) ?_
      refine AOps.gcons rfl rfl rfl rfl rfl (q_move) ?_
      refine AOps.gcons rfl rfl rfl rfl rfl (q_move) ?_
      refine AOps.gcons rfl rfl rfl rfl rfl ((OpOk.bool_is (c := true) (q_call (0) (hc := (c_bytes_Equal (encB (dDel b) (dSet b)) b 0 0))) (decide_eq_true he.2))) ?_
      refine AOps.cons rfl rfl (q_pick) ?_
      refine AOps.cons rfl rfl (q_assign) ?_
      refine AOps.nil ?_
      refine AWp.ret ?_
      show Fin te Try.f7 _ _
      refine q_ret (0) [_] [_] ?_
      rfl

end Go.Proofs.Ytaemmklgofddmaa.Fw

/- Walks of layer 8's laws EntryShort, EntryKeys. -/
set_option linter.unusedVariables false
set_option linter.unusedSimpArgs false
namespace Go.Proofs.Ytaemmklgofddmaa.Fw
open Go.RowKit


theorem bare_ok {x : ESet} (hx : SetOk x) : SetOk (bare x) := ⟨hx.1, Nat.zero_le _, Nat.zero_le _, fun d hd => by cases hd⟩
theorem delO_bare (x : ESet) : delO (bare x) = keyO x := by
  have e : bare (bare x) = bare x := rfl
  have k : keyO (bare x) = keyO x := rfl
  rw [delO, e, k, decide_eq_true rfl, Bool.and_true]
theorem delB_len (x : ESet) : (delB x).length = 6 + x.nm.length := by
  simp only [delB, List.length_append, numL_len, List.length_nil, List.length_cons]; omega

set_option maxRecDepth 20000 in
set_option maxHeartbeats 2000000 in
theorem c_ciceronelaw08_EntryShort (d : Bool) (x : ESet) (hx : SetOk x) (n : Int) (c : UInt8) : AC Try.prog 8 [.agg (tf d :: setC x), i64 n, u8 c.toNat] emp (Ret (tf true)) := by
  have hl := encB_len (d := d) hx
  refine AC.intro te_ok (fn := Try.f8) ⟨Try.func8, rfl, rfl⟩ (Nat.le_of_ble_eq_true rfl) ?_
  refine AWp.seq ?_
  refine AWp.region ?_
  refine AOps.cons rfl rfl (q_box 100) ?_
  refine AOps.cons rfl rfl (q_assign) ?_
  refine AOps.nil ?_
  refine AWp.seq ?_
  refine AWp.region ?_
  refine AOps.cons rfl rfl (q_load) ?_
  refine AOps.cons rfl rfl (q_call (0) (hc := (c_EncodeA d x hx))) ?_
  refine AOps.cons rfl rfl (q_move) ?_
  refine AOps.cons rfl rfl (q_extract) ?_
  refine AOps.cons rfl rfl (q_extract) ?_
  refine AOps.cons rfl rfl (q_assign) ?_
  refine AOps.cons rfl rfl (q_assign) ?_
  refine AOps.nil ?_
  refine AWp.seq ?_
  refine AWp.seq ?_
  refine AWp.region ?_
  refine AOps.cons rfl rfl (q_move) ?_
  refine AOps.dec rfl rfl (q_neq) (fun h2_1 => ?_) (fun h2_1 => ?_)
  · skip
    refine AOps.nil ?_
    refine AWp.cond_t rfl ?_
    refine AWp.seq ?_
    refine AWp.region ?_
    refine AOps.cons rfl rfl (q_load) ?_
    refine AOps.cons rfl rfl ((OpOk.bool_is (c := false) (q_call (0) (hc := (c_RCanA d x hx))) (by cases h : entO d x <;> simp_all [encE]))) ?_
    refine AOps.cons rfl rfl (q_not) ?_
    refine AOps.cons rfl rfl (q_move) ?_
    refine AOps.gcons rfl rfl rfl rfl rfl ((OpOk.bool_is (c := true) (q_call (0) (hc := c_ciceronelaw08_awake)) (rfl))) ?_
    refine AOps.cons rfl rfl (q_pick) ?_
    refine AOps.cons rfl rfl (q_assign) ?_
    refine AOps.nil ?_
    refine AWp.ret ?_
    show Fin te Try.f8 _ _
    refine q_ret (0) [_] [_] ?_
    rfl
  · skip
    refine AOps.nil ?_
    refine AWp.cond_f rfl ?_
    refine AWp.skip ?_
    refine AWp.seq ?_
    refine AWp.region ?_
    have ho := encE_ok (d := d) (x := x) (by omega)
    have he : encB d x = entB d x := if_pos ho
    have h7 := ent_len ho
    rw [← he] at h7
    have hM : max ((encB d x).length : Int) 1 % 18446744073709551616 = (encB d x).length := by omega
    have hm0 : 0 ≤ (n % 18446744073709551616 % (max ((encB d x).length : Int) 1 % 18446744073709551616)) := by rw [hM]; exact Int.emod_nonneg _ (by omega)
    have hm1 : (n % 18446744073709551616 % (max ((encB d x).length : Int) 1 % 18446744073709551616)) < (encB d x).length := by rw [hM]; exact Int.emod_lt_of_pos _ (by omega)
    have hp1 : dErr ((encB d x).take (n % 18446744073709551616 % (max ((encB d x).length : Int) 1 % 18446744073709551616)).toNat) = 80 := dErr_no (by rw [he]; exact dec_less hx ho (by rw [← he]; omega) (by rw [← he]; omega))
    have hp2 : dErr (encB d x ++ [c]) = 80 := dErr_no (by rw [he]; exact dec_more hx ho (by simp))
    refine AOps.cons rfl rfl (q_move) ?_
    refine AOps.cons rfl rfl (q_move) ?_
    refine AOps.cons rfl rfl (q_conv_u64) ?_
    refine AOps.cons rfl rfl (q_move) ?_
    refine AOps.cons rfl rfl (q_len) ?_
    refine AOps.cons rfl rfl (q_max) ?_
    refine AOps.cons rfl rfl (q_conv_u64) ?_
    refine AOps.cons rfl rfl (q_rem) ?_
    refine AOps.cons rfl rfl (q_conv_i64) ?_
    refine AOps.cons rfl rfl (q_sl) ?_
    refine AOps.cons rfl rfl (q_call (0) (hc := (c_Decode ((encB d x).take (n % 18446744073709551616 % (max ((encB d x).length : Int) 1 % 18446744073709551616)).toNat) (by rw [List.length_take]; omega)))) ?_
    refine AOps.cons rfl rfl (q_move) ?_
    refine AOps.cons rfl rfl (q_extract) ?_
    refine AOps.cons rfl rfl (q_extract) ?_
    refine AOps.cons rfl rfl (q_alloc 514) ?_
    refine AOps.cons rfl rfl (q_store) ?_
    refine AOps.cons rfl rfl (q_assign) ?_
    refine AOps.nil ?_
    refine AWp.seq ?_
    refine AWp.region ?_
    refine AOps.cons rfl rfl (q_move) ?_
    refine AOps.cons rfl rfl (q_callB (0) [] [(8, 6018)] [(_, _)] (hc := (co_Clone (encB d x) 0 (by omega)))) ?_
    refine AOps.cons rfl rfl (q_move) ?_
    refine AOps.cons rfl rfl (q_bs 603 bc [_] [(_, _)]) ?_
    refine AOps.cons rfl rfl (q_appz (l := encB d x) (m := [c])) ?_
    refine AOps.cons rfl rfl (q_call (0) (hc := (c_Decode (encB d x ++ [c]) (by simp; omega)))) ?_
    refine AOps.cons rfl rfl (q_move) ?_
    refine AOps.cons rfl rfl (q_extract) ?_
    refine AOps.cons rfl rfl (q_extract) ?_
    refine AOps.cons rfl rfl (q_alloc 609) ?_
    refine AOps.cons rfl rfl (q_store) ?_
    refine AOps.cons rfl rfl (q_assign) ?_
    refine AOps.nil ?_
    refine AWp.seq ?_
    refine AWp.region ?_
    refine AOps.cons rfl rfl (q_move) ?_
    refine AOps.cons rfl rfl ((OpOk.dec_t (q_eql) (hp1))) ?_
    refine AOps.cons rfl rfl (q_move) ?_
    refine AOps.gcons rfl rfl rfl rfl rfl (q_move) ?_
    refine AOps.gcons rfl rfl rfl rfl rfl ((OpOk.dec_t (q_eql) (hp2))) ?_
    refine AOps.cons rfl rfl (q_pick) ?_
    refine AOps.cons rfl rfl (q_move) ?_
    refine AOps.gcons rfl rfl rfl rfl rfl (q_move) ?_
    refine AOps.gcons rfl rfl rfl rfl rfl (q_len) ?_
    refine AOps.gcons rfl rfl rfl rfl rfl ((OpOk.dec_t (q_geq) (by omega))) ?_
    refine AOps.cons rfl rfl (q_pick) ?_
    refine AOps.cons rfl rfl (q_assign) ?_
    refine AOps.nil ?_
    refine AWp.ret ?_
    show Fin te Try.f8 _ _
    refine q_ret (0) [_] [_] ?_
    rfl

set_option maxRecDepth 20000 in
set_option maxHeartbeats 2000000 in
theorem c_ciceronelaw08_EntryKeys (x : ESet) (hx : SetOk x) : AC Try.prog 9 [.agg (setC x)] emp (Ret (tf true)) := by
  have hb := bare_ok hx
  have hl := encB_len (d := true) hb
  obtain ⟨hn, _⟩ := id hx
  refine AC.intro te_ok (fn := Try.f9) ⟨Try.func9, rfl, rfl⟩ (Nat.le_of_ble_eq_true rfl) ?_
  refine AWp.seq ?_
  refine AWp.region ?_
  refine AOps.cons rfl rfl (q_box 100) ?_
  refine AOps.cons rfl rfl (q_assign) ?_
  refine AOps.nil ?_
  refine AWp.seq ?_
  refine AWp.region ?_
  refine AOps.cons rfl rfl (q_fa) ?_
  refine AOps.cons rfl rfl (q_load) ?_
  refine AOps.cons rfl rfl (q_fa) ?_
  refine AOps.cons rfl rfl (q_load) ?_
  refine AOps.cons rfl rfl (q_fa) ?_
  refine AOps.cons rfl rfl (q_load) ?_
  refine AOps.cons rfl rfl (q_build [(_, _), (_, _), (_, _)]) ?_
  refine AOps.cons rfl rfl (q_alloc 207) ?_
  refine AOps.cons rfl rfl (q_store) ?_
  refine AOps.nil ?_
  refine AWp.seq ?_
  refine AWp.region ?_
  refine AOps.weak (Weak.full 0 [] (t := [(1, .ptr 100 0 0), (3, .ptr 207 0 0)]) (hl := [(100, .box [str x.nm, i64 x.ty, i64 x.cs, i64 x.rank, i64 x.kind, i64 x.exp, str x.zone, .fz 0 x.ds.length (cl (lc 0 bc) x.ds)]), (207, .box [str x.nm, i64 x.ty, i64 x.cs, .v (.int .i64 0), .v (.int .i64 0), .v (.int .i64 0), .v (.string ⟨#[]⟩), .fz 0 ([] : List (List UInt8)).length (cl (lc 0 bc) [])])])) ?_
  refine AOps.cons rfl rfl (q_load) ?_
  refine AOps.cons rfl rfl (q_build [(_, _), (_, _)]) ?_
  refine AOps.cons rfl rfl (q_call (0) (hc := (c_EncodeA true (bare x) hb))) ?_
  refine AOps.cons rfl rfl (q_move) ?_
  refine AOps.cons rfl rfl (q_extract) ?_
  refine AOps.cons rfl rfl (q_extract) ?_
  refine AOps.cons rfl rfl (q_assign) ?_
  refine AOps.cons rfl rfl (q_assign) ?_
  refine AOps.nil ?_
  refine AWp.seq ?_
  refine AWp.seq ?_
  refine AWp.region ?_
  refine AOps.cons rfl rfl (q_load) ?_
  refine AOps.cons rfl rfl (q_build [(_, _), (_, _)]) ?_
  refine AOps.bool rfl rfl (q_call (0) (hc := (c_RCan_del (bare x) hb))) (fun h3_2 => ?_) (fun h3_2 => ?_)
  · skip
    refine AOps.cons rfl rfl (q_not) ?_
    refine AOps.nil ?_
    refine AWp.cond_f rfl ?_
    refine AWp.skip ?_
    refine AWp.seq ?_
    refine AWp.region ?_
    have hyes : entO true (bare x) = true := h3_2
    have hd := enc_dec hb hyes
    have hE : encE true (bare x) = 0 := if_pos hyes
    have hB : encB true (bare x) = delB (bare x) := if_pos hyes
    have hBl := delB_len (bare x)
    rw [← hB] at hBl
    have hk : keyO x = true := by rw [← delO_bare]; exact h3_2
    refine AOps.cons rfl rfl (q_move) ?_
    refine AOps.cons rfl rfl (q_call (0) (hc := (c_Decode (encB true (bare x)) (by omega)))) ?_
    refine AOps.cons rfl rfl (q_move) ?_
    refine AOps.cons rfl rfl (q_extract) ?_
    refine AOps.cons rfl rfl (q_extract) ?_
    refine AOps.cons rfl rfl (q_alloc 605) ?_
    refine AOps.cons rfl rfl (q_store) ?_
    refine AOps.cons rfl rfl (q_assign) ?_
    refine AOps.nil ?_
    refine AWp.seq ?_
    refine AWp.region ?_
    refine AOps.cons rfl rfl (q_load) ?_
    refine AOps.cons rfl rfl (q_build [(_, _), (_, _)]) ?_
    refine AOps.cons rfl rfl (q_call (0) (hc := (c_EncodeA true x hx))) ?_
    refine AOps.cons rfl rfl (q_move) ?_
    refine AOps.cons rfl rfl (q_extract) ?_
    refine AOps.cons rfl rfl (q_extract) ?_
    refine AOps.cons rfl rfl (q_assign) ?_
    refine AOps.cons rfl rfl (q_assign) ?_
    refine AOps.nil ?_
    refine AWp.seq ?_
    refine AWp.region ?_
    refine AOps.cons rfl rfl (q_move) ?_
    refine AOps.cons rfl rfl ((OpOk.dec_t (q_eql) (hE))) ?_
    refine AOps.cons rfl rfl (q_move) ?_
    refine AOps.gcons rfl rfl rfl rfl rfl (q_move) ?_
    refine AOps.gcons rfl rfl rfl rfl rfl ((OpOk.dec_t (q_eql) (hd.1))) ?_
    refine AOps.cons rfl rfl (q_pick) ?_
    refine AOps.cons rfl rfl (q_move) ?_
    refine AOps.gcons rfl rfl rfl rfl rfl (q_fa) ?_
    refine AOps.gcons rfl rfl rfl rfl rfl ((OpOk.bool_is (c := true) (q_load) (hd.2.1))) ?_
    refine AOps.cons rfl rfl (q_pick) ?_
    refine AOps.cons rfl rfl (q_move) ?_
    refine AOps.gcons rfl rfl rfl rfl rfl (q_fa) ?_
    refine AOps.gcons rfl rfl rfl rfl rfl (q_load) ?_
    refine AOps.gcons rfl rfl rfl rfl rfl (q_load) ?_
    refine AOps.gcons rfl rfl rfl rfl rfl ((OpOk.bool_is (c := true) (q_call (0) (hc := (c_entry_Same (dSet (encB true (bare x))) (bare x) (dSet_ok _ (by omega))))) (decide_eq_true hd.2.2))) ?_
    refine AOps.cons rfl rfl (q_pick) ?_
    refine AOps.cons rfl rfl (q_move) ?_
    refine AOps.gcons rfl rfl rfl rfl rfl (q_move) ?_
    refine AOps.gcons rfl rfl rfl rfl rfl (q_len) ?_
    refine AOps.gcons rfl rfl rfl rfl rfl (q_fa) ?_
    refine AOps.gcons rfl rfl rfl rfl rfl (q_load) ?_
    refine AOps.gcons rfl rfl rfl rfl rfl (q_len_str) ?_
    refine AOps.gcons rfl rfl rfl rfl rfl (q_add) ?_
    refine AOps.gcons rfl rfl rfl rfl rfl ((OpOk.dec_t (q_eql) (by rw [hBl]; show ((6 + x.nm.length : Nat) : Int) = 6 + (x.nm.length : Int); omega))) ?_
    refine AOps.cons rfl rfl (q_pick) ?_
    refine AOps.cons rfl rfl (q_move) ?_
    refine AOps.gcons rfl rfl rfl rfl rfl (q_move) ?_
    refine AOps.gcons rfl rfl rfl rfl rfl (q_eql) ?_
    refine AOps.gcons rfl rfl rfl rfl rfl (q_load) ?_
    refine AOps.gcons rfl rfl rfl rfl rfl (q_load) ?_
    refine AOps.gcons rfl rfl rfl rfl rfl (q_call (0) (hc := (c_entry_Same x (bare x) hx))) ?_
    refine AOps.gcons rfl rfl rfl rfl rfl ((OpOk.bool_is (c := true) (q_beql) (by rw [encE_iff]; show (delO x == decide (x = bare x)) = true; rw [delO, hk]; simp))) ?_
    refine AOps.cons rfl rfl (q_pick) ?_
    refine AOps.cons rfl rfl (q_assign) ?_
    refine AOps.nil ?_
    refine AWp.ret ?_
    show Fin te Try.f9 _ _
    refine q_ret (0) [_] [_] ?_
    rfl
  · skip
    refine AOps.cons rfl rfl (q_not) ?_
    refine AOps.nil ?_
    refine AWp.cond_t rfl ?_
    refine AWp.seq ?_
    refine AWp.region ?_
    have hno : entO true (bare x) = false := h3_2
    have hB : encB true (bare x) = [] := if_neg (by simp [hno])
    have hE : encE true (bare x) = 1 := if_neg (by simp [hno])
    refine AOps.cons rfl rfl (q_move) ?_
    refine AOps.cons rfl rfl ((OpOk.dec_t (q_eql) (hE))) ?_
    refine AOps.cons rfl rfl (q_move) ?_
    refine AOps.gcons rfl rfl rfl rfl rfl (q_move) ?_
    refine AOps.gcons rfl rfl rfl rfl rfl (q_len) ?_
    refine AOps.gcons rfl rfl rfl rfl rfl ((OpOk.dec_t (q_eql) (by rw [hB]; rfl))) ?_
    refine AOps.cons rfl rfl (q_pick) ?_
    refine AOps.cons rfl rfl (q_move) ?_
    refine AOps.gcons rfl rfl rfl rfl rfl ((OpOk.bool_is (c := true) (q_call (0) (hc := c_ciceronelaw08_awake)) (rfl))) ?_
    refine AOps.cons rfl rfl (q_pick) ?_
    refine AOps.cons rfl rfl (q_assign) ?_
    refine AOps.nil ?_
    refine AWp.ret ?_
    show Fin te Try.f9 _ _
    refine q_ret (0) [_] [_] ?_
    rfl

end Go.Proofs.Ytaemmklgofddmaa.Fw

