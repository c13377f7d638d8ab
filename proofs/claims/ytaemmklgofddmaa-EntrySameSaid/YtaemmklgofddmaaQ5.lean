/- Q5: calls that borrow objects, ends that hand objects over, cells that are nil; no condition. -/
import Derived.Test.YtaemmklgofddmaaQ4
import Derived.Test.YtaemmklgofddmaaFwX
set_option linter.unusedVariables false
set_option linter.unusedSimpArgs false
namespace Go.Proofs.Ytaemmklgofddmaa.Fw
open Go.RowKit

section
variable {ρ : Nat → Bool} {σ : IdMap} {h : Heap} {lo hi : Nat}
theorem lv_nilz {l k : Nat} {α : Type} {f : α → List AV} : LVal ρ σ h lo hi (.v (.slice none 0 k)) (.fz l ([] : List α).length (cl f [])) := lv_nil
theorem lv_row0 {id ver esz : Nat} {α : Type} {f : α → List AV} {l : List α} {ob : AObj} (hi' : σ.inv id = none) (h1 : h id = some ob) (h2 : ObAt ob ver (cl f l)) (hf : ∀ x, (f x).length = esz) (h5 : 0 < esz) (h3 : ∀ x, AV.oks lo (f x) = true) :
    LVal ρ σ h lo hi (.sl id ver 0 l.length esz) (.fz hi l.length (cl f l)) :=
  lv_row hi' h1 h2.at (cl_oks h3) (by rw [cl_length hf]; omega) h5 (by rw [List.drop_zero, List.take_of_length_le (by rw [cl_length hf]; omega)])
theorem lv_row1 {id ver a m : Nat} {α : Type} {f : α → List AV} {l : List α} {ob : AObj} (hi' : σ.inv id = none) (h1 : h id = some ob) (h2 : ObAt ob ver (cl f l)) (hf : ∀ x, (f x).length = 1) (h3 : ∀ x, AV.oks lo (f x) = true) (hm : a + m ≤ l.length) :
    LVal ρ σ h lo hi (.sl id ver a m 1) (.fz hi ((l.drop a).take m).length (cl f ((l.drop a).take m))) := by
  have e : ((l.drop a).take m).length = m := by simp; omega
  rw [e]
  refine lv_row hi' h1 h2.at (cl_oks h3) (by rw [cl_length hf]; omega) (by decide) ?_
  have e1 := cl_drop hf l a
  have e2 := cl_take hf (l.drop a) m
  rw [Nat.mul_one] at e1 e2 ⊢
  rw [e1, e2]
theorem lv_rn {c k ver off len esz : Nat} {ob : AObj} {cells : List AV} (e : σ.get c = some k) (ho : h k = some ob) (hc : ObAt ob ver cells) (hρ : ρ c = true) : LVal ρ σ h lo hi (.sl k ver off len esz) (.sl c 0 off len esz) := lv_sl0 e ho hc.at hρ
theorem lobj_row {α : Type} {f : α → List AV} {l : List α} {e v : Nat} (h3 : ∀ x, AV.oks lo (f x) = true) : LObj ρ σ h lo hi false (.row (cl f l) e v) (.row (cl f l) e v) := ⟨rfl, rfl, lvs_ok (cl_oks h3)⟩
theorem lobj_rown {α : Type} {f : α → List AV} {l : List α} {e v : Nat} (h3 : ∀ x, AV.oks lo (f x) = true) : LObj ρ σ h lo hi true (.row (cl f l) e v) (.row (cl f l) e 0) := ⟨rfl, rfl, lvs_ok (cl_oks h3)⟩
theorem lobj_box {cs cs' : List AV} {rn : Bool} (e : LVals ρ σ h lo hi cs cs') : LObj ρ σ h lo hi rn (.box cs) (.box cs') := e
end
theorem hb_rowc {f : Nat → Nat} {α : Type} {g : α → List AV} {l : List α} {e v : Nat} {lv : Nat} (h : ∀ x, AV.oks lv (g x) = true) : (AObj.row (cl g l) e v).ren f = .row (cl g l) e v := hb_row (cl_oks (lv := lv) h)
theorem hl_row {lv : Nat} {S : Nat → Bool} {α : Type} {g : α → List AV} {l : List α} {e v : Nat} (h : ∀ x, AV.oks lv (g x) = true) : (AObj.row (cl g l) e v).lev lv = true ∧ ObjIn S (.row (cl g l) e v) :=
  ⟨AV.levs_ok (cl_oks h), AV.refss_ok (cl_oks h)⟩
section
variable {n : Nat} {s : AS} {o : Oper} {d : Option Tmp} {Q : APost}
theorem q_callB (lv : Nat) (σ ν : IdMap) (hl' : List (Nat × AObj)) {f : FuncId} {A : List AV} {r r' : AV} {hb hl : List (Nat × AObj)} {fop : Operand} {argops : Array Operand} {tys : Array TypeId} {first caps : List AV}
    (ho : o.op = .call { callee := .value fop, args := argops, argTypes := tys } := by exact rfl) (hf : s.ev fop = .fn (.func f) first caps := by exact rfl)
    (hwf : (σ ++ ν : IdMap).wf = true := by exact rfl) (hwf1 : σ.wf = true := by exact rfl) (h8 : (σ.all fun p => Nat.blt p.1 8) = true := by exact rfl) (hfresh : (ν.all fun p => (s.h p.2).isNone) = true := by exact rfl)
    (hobj : BObjs (fun _ => false) σ s.h lv (lv + 1) σ hb := by repeat' (first | exact trivial | exact lv_ok rfl | exact lv_sl rfl rfl | exact lv_ptr rfl rfl | exact lv_mp rfl rfl | exact lobj_row (fun _ => rfl) | refine lobj_box ?_ | refine ⟨rfl, ⟨_, rfl, ?_⟩, ?_⟩ | refine ⟨?_, ?_⟩))
    (hA : LVals (fun _ => false) σ s.h lv (lv + 1) (first ++ argops.toList.map s.ev ++ caps) A := by repeat' (first | exact trivial | exact lv_ok rfl | exact lv_ptr rfl rfl | exact lv_sl rfl rfl | exact lv_mp rfl rfl | exact lv_nilz | exact lv_row0 rfl rfl .row (fun _ => rfl) (Nat.le_of_ble_eq_true rfl) (fun _ => rfl) | refine ⟨?_, ?_⟩ | exact lv_row1 rfl rfl .row (fun _ => rfl) (fun _ => rfl) (by first | omega | (simp; omega))))
    (hB : HB (IdMap.to (σ ++ ν)) (σ ++ ν) hl hl' := by repeat' (first | exact trivial | exact hb_rowc (lv := 0) (fun _ => rfl) | exact rfl | refine ⟨rfl, rfl, ?_, ?_⟩))
    (hL : HL lv (IdMap.has (σ ++ ν)) hl := by repeat' (first | exact trivial | exact hl_row (fun _ => rfl) | exact ⟨rfl, rfl⟩ | refine ⟨?_, ?_⟩))
    (hr : r.lev lv = true := by exact rfl) (hr2 : r.refs (IdMap.has (σ ++ ν)) = true := by exact rfl) (hr3 : r.ren (IdMap.to (σ ++ ν)) = r' := by conv => lhs; whnf) (hdd : o.dst = d := by conv => lhs; whnf) (hd : d.all (Nat.blt · n) = true := by exact rfl) (hc : AC Try.prog f A (hlook hb) (RetH r hl)) :
    OpOk Try.prog n o s ((s.setl hl').put d r') := ok_callB lv σ ν hb hl' ho hf hc hwf hwf1 h8 hfresh hobj hA hB hL hr hr2 hr3 hdd hd
theorem q_retH (lv : Nat) (rn : List Nat) (xs ys : List AV) (hl : List (Nat × AObj)) {fn : Func} {r : AV} (h3 : resVal ys = r) (h1 : ResOks te s fn.results.toList xs := by repeat' (first | exact trivial | exact res_tmp' | exact res_cell' | refine ⟨?_, ?_⟩))
    (hobj : BObjs (inl rn) (idm hl) s.h lv lv (idm hl) hl := by repeat' (first | exact trivial | exact lv_ok rfl | exact lv_sl rfl rfl | exact lv_rn rfl rfl .row rfl | exact lv_ptr rfl rfl | exact lv_mp rfl rfl | exact lv_nilz | exact lv_row0 rfl rfl .row (fun _ => rfl) (Nat.le_of_ble_eq_true rfl) (fun _ => rfl) | exact lobj_row (fun _ => rfl) | exact lobj_rown (fun _ => rfl) | refine lobj_box ?_ | refine ⟨rfl, ⟨_, rfl, ?_⟩, ?_⟩ | refine ⟨?_, ?_⟩))
    (h2 : LVals (inl rn) (idm hl) s.h lv lv xs ys := by repeat' (first | exact trivial | exact lv_ok rfl | exact lv_ptr rfl rfl | exact lv_sl rfl rfl | exact lv_rn rfl rfl .row rfl | exact lv_mp rfl rfl | exact lv_nilz | exact lv_row0 rfl rfl .row (fun _ => rfl) (Nat.le_of_ble_eq_true rfl) (fun _ => rfl) | refine ⟨?_, ?_⟩))
    (hrn : (rn.all fun c => Nat.ble 8 c) = true := by exact rfl) (hp : pinKept s.h (keys hl) = true := by exact rfl) : Fin te fn (RetH r hl) s := Fin.retH lv rn hl h1 hobj h2 h3 hrn hp

/-- A result that is handed over may be seen as frozen. -/
theorem AC.fz {f : FuncId} {A : List AV} {h : Heap} {r r' : AV} {hl : List (Nat × AObj)} (hc : AC Try.prog f A h (RetH r hl)) (lv : Nat) (e : FVal (hlook hl) lv lv r r') (hp : pinFree (hlook hl) = true := by exact rfl) : AC Try.prog f A h (Ret r') := by
  refine ⟨hc.1, fun Λ w φ vals hs ha QQ h1 h2 => hc.2 Λ w φ vals hs ha QQ (fun r1 h' w' φ' v k hs' g hr => ?_) (fun x h' w' φ' k => absurd k.1 (by simp))⟩
  obtain ⟨k1, k2⟩ := k
  cases k1
  subst k2
  obtain ⟨φ2, g1, g2, g3⟩ := Sees.fv e hp w' φ' Λ v hs' hr
  exact h1 r' emp w' φ2 v ⟨rfl, rfl⟩ g1 (g.trans g3) g2

/-- A slice beside nil: one that is nil is empty. -/
inductive NilTo (s : AS) : AV → Nat → Prop
  | fz {lv m cs} : NilTo s (.fz lv m cs) m
  | sl {id ver off len esz ob cells} (hob : s.h id = some ob) (hat : ObAt ob ver cells) : NilTo s (.sl id ver off len esz) len
theorem AOps.snil {ops : Array Oper} {i : Nat} {rest : List Nat} {op : BinOp} {t u e : TypeId} {x y : Operand} {a : AV} {m l : Nat} {ti : TI} {r : Bool} (ht' : m = 0 → AOps Try.prog n ops Q rest (s.put d (tf r))) (hf' : AOps Try.prog n ops Q rest (s.put d (tf (!r))))
    (hi : ops[i]? = some o := by exact rfl) (hg : o.guard = none := by exact rfl) (ho : o.op = .binOp op t x y u := by exact rfl) (hx : s.ev x = a := by conv => lhs; whnf) (ha : NilTo s a m := by first | exact .fz | exact .sl rfl .row) (hy : s.ev y = .v (.slice none 0 l) := by exact rfl)
    (ht : te.get t = some ti := by exact rfl) (hk : ti.k = .slice e := by exact rfl) (hop : (op = .eql ∧ r = true) ∨ (op = .neq ∧ r = false) := by first | exact .inl ⟨rfl, rfl⟩ | exact .inr ⟨rfl, rfl⟩)
    (hdd : o.dst = d := by conv => lhs; whnf) (hd : d.all (Nat.blt · n) = true := by exact rfl) : AOps Try.prog n ops Q (i :: rest) s := by
  refine AOps.consx hi hg fun Λ w φ ac hs next QQ hN hP => ?_
  have hr := hs.ev x
  rw [hx] at hr
  have hlen : ∃ ad cap, ac.eval x = .slice ad m cap ∧ (ad = none → m = 0) := by
    generalize ac.eval x = v at hr
    cases ha with
    | fz =>
      cases hr with
      | fz0 => exact ⟨_, _, rfl, fun _ => rfl⟩
      | fz => exact ⟨_, _, rfl, fun h => by cases h⟩
    | sl hob hat =>
      obtain ⟨l1, g1, g2⟩ := hs.hs.ver hob hat.at
      cases hr with
      | sl => exact ⟨_, _, rfl, fun h => by cases h⟩
      | sl0 => exact ⟨_, _, rfl, fun _ => rfl⟩
      | slx h1 h2 => rw [g1] at h1; cases h1; omega
  obtain ⟨ad, cap, e1, e0⟩ := hlen
  have e3 := run_equal_snil (a := ad) (k := m) (m := cap) (l := l) ((te_ok.tells ht).slice hk) w
  subst hdd
  have hrun : ∀ q, (op = .eql → q = ad.isNone) → (op = .neq → q = !ad.isNone) → (execOp ac.eval o).run Try.prog w = .ok (.value (.bool q)) w := by
    intro q h1 h2
    rcases hop with ⟨rfl, _⟩ | ⟨rfl, _⟩
    · rw [h1 rfl]; simp [execOp, ho, e1, ev_v hs hy, eqGuard, binOp, e3]
    · rw [h2 rfl]; simp [execOp, ho, e1, ev_v hs hy, eqGuard, binOp, e3]
  cases hn : ad with
  | none =>
    have hq := hrun r (fun h => by rcases hop with ⟨_, h2⟩ | ⟨h1, _⟩; rw [h2, hn]; rfl; rw [h] at h1; cases h1) (fun h => by rcases hop with ⟨h1, _⟩ | ⟨_, h2⟩; rw [h] at h1; cases h1; rw [h2, hn]; rfl)
    unfold Oper.wp
    rw [hq]
    exact hN _ w φ _ (ht' (e0 hn)) (hs.put o.dst hd .v) (Goes.refl w φ)
  | some b =>
    have hq := hrun (!r) (fun h => by rcases hop with ⟨_, h2⟩ | ⟨h1, _⟩; rw [h2, hn]; rfl; rw [h] at h1; cases h1) (fun h => by rcases hop with ⟨h1, _⟩ | ⟨_, h2⟩; rw [h] at h1; cases h1; rw [h2, hn]; rfl)
    unfold Oper.wp
    rw [hq]
    exact hN _ w φ _ hf' (hs.put o.dst hd .v) (Goes.refl w φ)

/-- A state by all of its parts; rows may be frozen. -/
theorem Weak.full (lv : Nat) (rn : List Nat) {t : List (Nat × AV)} {hl : List (Nat × AObj)} (h1 : HasL s (inl rn) (idm hl) lv t := by repeat' (first | exact trivial | exact lv_ok rfl | exact lv_ptr rfl rfl | exact lv_sl rfl rfl | exact lv_rn rfl rfl .row rfl | exact lv_mp rfl rfl | exact lv_nilz | exact lv_row0 rfl rfl .row (fun _ => rfl) (Nat.le_of_ble_eq_true rfl) (fun _ => rfl) | refine ⟨?_, ?_⟩))
    (hobj : BObjs (inl rn) (idm hl) s.h lv lv (idm hl) hl := by repeat' (first | exact trivial | exact lv_ok rfl | exact lv_sl rfl rfl | exact lv_rn rfl rfl .row rfl | exact lv_ptr rfl rfl | exact lv_mp rfl rfl | exact lv_nilz | exact lv_row0 rfl rfl .row (fun _ => rfl) (Nat.le_of_ble_eq_true rfl) (fun _ => rfl) | exact lobj_row (fun _ => rfl) | exact lobj_rown (fun _ => rfl) | refine lobj_box ?_ | refine ⟨rfl, ⟨_, rfl, ?_⟩, ?_⟩ | refine ⟨?_, ?_⟩))
    (hrn : (rn.all fun c => Nat.ble 8 c) = true := by exact rfl) (hp : pinKept s.h (keys hl) = true := by exact rfl) : Weak s (mkS t hl) := Weak.lv lv rn h1 hobj hrn hp
theorem q_arrPtr {t e : TypeId} {x : Operand} {id ver off len esz m : Nat} {ob : AObj} {cells : List AV} {ti : TI} (ho : o.op = .sliceToArrayPointer t x := by exact rfl) (hx : s.ev x = .sl id ver off len esz := by exact rfl)
    (ht : te.get t = some ti := by exact rfl) (hk : ti.k = .arr m e := by exact rfl) (hm : m ≤ len := by first | exact Nat.le_of_ble_eq_true rfl | omega | (simp; omega)) (hm0 : 0 < m := by exact Nat.le_of_ble_eq_true rfl) (hob : s.h id = some ob := by exact rfl)
    (hat : ObAt ob ver cells := by first | exact .box | exact .row) (hdd : o.dst = d := by conv => lhs; whnf) (hd : d.all (Nat.blt · n) = true := by exact rfl) : OpOk Try.prog n o s (s.put d (.ptr id ver off)) := ok_arrPtr te_ok ho hx ht hk hm hm0 hob hat.at hdd hd
theorem AOps.weak {P : Program} {ops : Array Oper} {l : List Nat} {s' : AS} (hw : Weak s s') (h : AOps P n ops Q l s') : AOps P n ops Q l s := by
  intro Λ w φ a hs QQ hQ
  obtain ⟨φ1, hs1, g1⟩ := hw n Λ w φ a hs
  exact h Λ w φ1 a hs1 QQ fun ae s2 w2 φ2 a2 q2 hs2 g2 => hQ ae s2 w2 φ2 a2 q2 hs2 (g1.trans g2)
/-- A cell of an object of one's own that is nil: an empty row of one's own. -/
theorem Weak.nilcell (k id j esz : Nat) {α : Type} (f : α → List AV) {cells cells' : List AV} (hk : s.h k = some (.box cells) := by exact rfl) (hid : s.h id = none := by exact rfl) (hj : cells[j]? = some (.v (.slice none 0 0)) := by exact rfl)
    (hc' : cells.set j (.sl id 0 0 ([] : List α).length esz) = cells' := by first | (simp only [List.set_cons_zero, List.set_cons_succ]; rfl) | exact rfl) :
    Weak s ((s.seth id (some (.row (cl f []) esz 0))).seth k (some (.box cells'))) := by
  subst hc'
  intro n Λ w φ a hs
  have hn := hs.hs.dom id hid
  have hc : Chg w φ Λ s.h id ⟨none, 0⟩ w := ⟨hs.hs, Nat.le_refl _, rfl, rfl, rfl, fun _ _ _ => rfl, (fun b' o' h => by cases h), (fun l hl => by rw [hn] at hl; cases hl), (fun l hl => by rw [hn] at hl; cases hl)⟩
  have h1 : HSim w (upd φ id (some ⟨none, 0⟩)) Λ (upd s.h id (some (.row (cl f []) esz 0))) := hc.hsim ⟨rfl, .inl ⟨rfl, rfl⟩⟩
  have hne : k ≠ id := fun e => by rw [e, hid] at hk; cases hk
  refine ⟨upd φ id (some ⟨none, 0⟩), ⟨hs.defs, hs.size, fun i => hc.rep (hs.tmps i), ?_⟩, hc.goes⟩
  refine ⟨fun i ob hi => ?_, fun i hi => ?_, h1.lt, h1.inj, h1.lent⟩
  · by_cases he : i = k
    · subst he
      replace hi : upd (upd s.h id (some (.row (cl f []) esz 0))) i (some (.box (cells.set j (.sl id 0 0 0 esz)))) i = some ob := hi
      rw [upd_same] at hi
      cases hi
      obtain ⟨l, g1, b, arr, T, g2, g3, g4, g5, g6⟩ := h1.heap i (.box cells) (by rw [upd_other _ _ _ _ hne]; exact hk)
      refine ⟨l, g1, b, arr, T, g2, g3, g4, by simpa using g5, fun m c hm => ?_⟩
      rw [List.getElem?_set] at hm
      split at hm
      · rename_i e
        subst e
        obtain ⟨v, e1, e2⟩ := g6 j _ hj
        cases e2
        split at hm
        · cases hm
          exact ⟨_, e1, .sl0 (upd_same _ _ _) rfl⟩
        · cases hm
      · exact g6 m c hm
    · exact h1.heap i ob (by
        have : upd (upd s.h id (some (.row (cl f []) esz 0))) k (some (.box (cells.set j (.sl id 0 0 0 esz)))) i = some ob := hi
        rwa [upd_other _ _ _ _ he] at this)
  · refine h1.dom i ?_
    replace hi : upd (upd s.h id (some (.row (cl f []) esz 0))) k (some (.box (cells.set j (.sl id 0 0 0 esz)))) i = none := hi
    by_cases he : i = k
    · subst he
      rw [upd_same] at hi
      cases hi
    · rwa [upd_other _ _ _ _ he] at hi
end
end Go.Proofs.Ytaemmklgofddmaa.Fw
