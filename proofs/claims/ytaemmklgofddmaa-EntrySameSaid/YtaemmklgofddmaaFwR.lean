/- Fw18: more rules for scripts that a program prints; no condition. -/
import Derived.Test.YtaemmklgofddmaaFwQ
set_option linter.unusedVariables false
set_option linter.unusedSimpArgs false
namespace Go.Proofs.Ytaemmklgofddmaa.Fw
open Go.RowKit

theorem AV.oks_append {lv : Nat} {l m : List AV} : AV.oks lv (l ++ m) = (AV.oks lv l && AV.oks lv m) := by
  induction l with
  | nil => simp [AV.oks]
  | cons c l ih => simp [AV.oks, ih, Bool.and_assoc]
theorem AV.oks_nil {lv : Nat} : AV.oks lv [] = true := rfl
theorem AV.oks_cons {lv : Nat} {c : AV} {l : List AV} : AV.oks lv (c :: l) = (c.ok lv && AV.oks lv l) := rfl
theorem AV.ok_v {lv : Nat} {x : Value} : AV.ok lv (.v x) = true := rfl
theorem AV.ok_fz {lv l n : Nat} {c : List AV} : AV.ok lv (.fz l n c) = Nat.ble l lv := rfl
theorem AV.ok_fp {lv l : Nat} {c : List AV} : AV.ok lv (.fp l c) = Nat.ble l lv := rfl
theorem bs_oks {lv : Nat} {l : List UInt8} : AV.oks lv (cl bc l) = true := AV.oks_of (bs_okl lv l)
theorem AV.oks_map {α : Type} {lv : Nat} {f : α → AV} {l : List α} (h : ∀ x ∈ l, (f x).ok lv = true) : AV.oks lv (l.map f) = true := AV.oks_of fun c hc => by
  obtain ⟨x, h1, rfl⟩ := List.mem_map.1 hc
  exact h x h1
theorem AV.oks_drop {lv k : Nat} {l : List AV} (h : AV.oks lv l = true) : AV.oks lv (l.drop k) = true := AV.oks_of fun c hc => AV.oks_iff.1 h c (List.mem_of_mem_drop hc)
theorem AV.oks_take {lv k : Nat} {l : List AV} (h : AV.oks lv l = true) : AV.oks lv (l.take k) = true := AV.oks_of fun c hc => AV.oks_iff.1 h c (List.mem_of_mem_take hc)
theorem AV.refss_append {S : Nat → Bool} {l m : List AV} : AV.refss S (l ++ m) = (AV.refss S l && AV.refss S m) := by
  induction l with
  | nil => simp [AV.refss]
  | cons c l ih => simp [AV.refss, ih, Bool.and_assoc]
theorem bs_refs {S : Nat → Bool} {l : List UInt8} : AV.refss S (cl bc l) = true := AV.refss_ok (lv := 0) bs_oks
theorem AV.refss_of_oks {S : Nat → Bool} {lv : Nat} {l : List AV} (h : AV.oks lv l = true) : AV.refss S l = true := AV.refss_ok h

section
variable {P : Program} {n : Nat} {Q : APost} {s : AS} {ops : Array Oper} {te : TE} {o : Oper} {d : Option Tmp}

theorem getD_some {α : Type} {l : List α} {i : Nat} {x : α} (h : i < l.length) : l[i]? = some (l.getD i x) := by
  rw [List.getElem?_eq_getElem h, List.getD_eq_getElem?_getD, List.getElem?_eq_getElem h]
  rfl
theorem fv_nil {h : Heap} {lo hi l k : Nat} : FVal h lo hi (.v (.slice none 0 k)) (.fz l 0 []) := fun _ _ _ _ _ _ _ _ _ hr => by
  cases hr
  exact .fz0
theorem res_tmp {t : Tmp} {x : AV} (h : s.t t = x) : ResOk te s (.tmp t) x := h
theorem ok_index_strD (hte : TEok P te) {t : TypeId} {x y : Operand} {l : List UInt8} {k : IntKind} {i : Int} {ti : TI} (ho : o.op = .index t x y) (hx : s.ev x = str l) (hy : s.ev y = .v (.int k i))
    (ht : te.get t = some ti) (hk : ti.k = .str) (h0 : 0 ≤ i) (hc : i < l.length) (hdd : o.dst = d) (hd : d.all (Nat.blt · n) = true) : OpOk P n o s (s.put d (u8 (l.getD i.toNat 0).toNat)) :=
  ok_index_str hte ho hx hy ht hk h0 (getD_some (by omega)) hdd hd

/-! ### Values built out of evaluated parts -/
def EvL (s : AS) : List (Nat × Operand) → List (Nat × AV) → Prop
  | [], [] => True
  | (i, x) :: r, (j, v) :: q => i = j ∧ s.ev x = v ∧ EvL s r q
  | _, _ => False
theorem EvL.eq : ∀ {l : List (Nat × Operand)} {m : List (Nat × AV)}, EvL s l m → l.map (fun p => (p.1, s.ev p.2)) = m
  | [], [], _ => rfl
  | (i, x) :: r, (j, v) :: q, h => by
    obtain ⟨h1, h2, h3⟩ := h
    simp only [List.map_cons, h1, h2, EvL.eq h3]
  | [], _ :: _, h => h.elim
  | _ :: _, [], h => h.elim
theorem ok_build_struct2 (hte : TEok P te) {t : TypeId} {parts : Array (Nat × Operand)} {l : List (Nat × TypeId)} {ti : TI} {cs cs' : List AV} {vals : List (Nat × AV)} (ho : o.op = .build t parts) (hv : EvL s parts.toList vals) (ht : te.get t = some ti) (hk : ti.k = .struct l)
    (hall : (l.all fun p => (te.get p.2).isSome) = true) (hcs : fillAV (structPlace te l) (ti.zero.map fun z => AV.v z.val) vals = some cs) (hc' : cs = cs')
    (hdd : o.dst = d) (hd : d.all (Nat.blt · n) = true) : OpOk P n o s (s.put d (.agg cs')) :=
  hc' ▸ ok_build_struct hte ho ht hk hall (by rw [hv.eq]; exact hcs) hdd hd
theorem ok_build_arr2 (hte : TEok P te) {t e : TypeId} {m : Nat} {parts : Array (Nat × Operand)} {ti tj : TI} {cs cs' : List AV} {vals : List (Nat × AV)} (ho : o.op = .build t parts) (hv : EvL s parts.toList vals) (ht : te.get t = some ti) (hk : ti.k = .arr m e) (he : te.get e = some tj)
    (hcs : fillAV (arrPlace tj.size) (ti.zero.map fun z => AV.v z.val) vals = some cs) (hc' : cs = cs')
    (hdd : o.dst = d) (hd : d.all (Nat.blt · n) = true) : OpOk P n o s (s.put d (.agg cs')) :=
  hc' ▸ ok_build_arr hte ho ht hk he (by rw [hv.eq]; exact hcs) hdd hd
theorem ok_buildSlice2 (hte : TEok P te) {t e : TypeId} {m id : Nat} {parts : Array (Nat × Operand)} {ti tj : TI} {cs cs' : List AV} {vals : List (Nat × AV)} (ho : o.op = .buildSlice t m parts) (hv : EvL s parts.toList vals) (ht : te.get t = some ti) (hk : ti.k = .slice e) (he : te.get e = some tj)
    (hid : s.h id = none) (hcs : fillAV (arrPlace tj.size) (repZ tj.zero m) vals = some cs) (hc' : cs = cs') (hz : Nat.beq tj.zero.length tj.size = true) (hsm : Nat.ble (m * tj.size) 1000 = true)
    (hdd : o.dst = d) (hd : d.all (Nat.blt · n) = true) : OpOk P n o s ((s.seth id (some (.row cs' tj.size 0))).put d (.sl id 0 0 m tj.size)) :=
  hc' ▸ ok_buildSlice hte ho ht hk he hid (by rw [hv.eq]; exact hcs) hz hsm hdd hd

/-- A frozen row whose elements are one cell each. -/
theorem ok_indexAddr_map (hte : TEok P te) {t e : TypeId} {x y : Operand} {α : Type} [Inhabited α] {lv m : Nat} {l : List α} {f : α → AV} {k : IntKind} {i : Int} {ti tj : TI} (ho : o.op = .indexAddr t x y) (hx : s.ev x = .fz lv m (l.map f))
    (hy : s.ev y = .v (.int k i)) (ht : te.get t = some ti) (hk : ti.k = .slice e) (he : te.get e = some tj) (hj : tj.size = 1) (h0 : 0 ≤ i) (h1 : i < m ∧ m ≤ l.length)
    (hdd : o.dst = d) (hd : d.all (Nat.blt · n) = true) : OpOk P n o s (s.put d (.fp lv [f (l.getD i.toNat default)])) := by
  refine ok_indexAddr_fz hte ho hx hy ht hk he h0 h1.1 (cs := [f (l.getD i.toNat default)]) ?_ (by rw [hj]; rfl) (by rw [hj]; decide) hdd hd
  have hlt : i.toNat < l.length := by omega
  rw [hj, Nat.mul_one, ← List.map_drop, ← List.map_take]
  have : (l.drop i.toNat).take 1 = [l.getD i.toNat default] := by
    rw [List.drop_eq_getElem_cons hlt, List.getD_eq_getElem?_getD, List.getElem?_eq_getElem hlt]
    rfl
  rw [this]
  rfl
end
end Go.Proofs.Ytaemmklgofddmaa.Fw
