/- Q2: the rules of single operations on memory, for scripts that a program prints; no condition. -/
import Derived.Test.YtaemmklgofddmaaQ1
set_option linter.unusedVariables false
set_option linter.unusedSimpArgs false
namespace Go.Proofs.Ytaemmklgofddmaa.Fw
open Go.RowKit

/-! ### Lists in cells -/
theorem cl_at {α : Type} [Inhabited α] {f : α → List AV} {e : Nat} (hf : ∀ x, (f x).length = e) : ∀ {l : List α} {i : Nat}, i < l.length → ((cl f l).drop (i * e)).take e = f (l.getD i default)
  | [], i, h => by simp at h
  | a :: l, 0, _ => by
    rw [cl_cons, Nat.zero_mul, List.drop_zero, List.take_append_of_le_length (by rw [hf]; omega), List.take_of_length_le (by rw [hf]; omega)]
    rfl
  | a :: l, i + 1, h => by
    have := cl_at (l := l) (i := i) hf (by simpa using h)
    rw [cl_cons, Nat.add_mul, Nat.one_mul, Nat.add_comm (i * e) e, ← List.drop_drop, List.drop_append_of_le_length (by rw [hf]; omega), List.drop_of_length_le (l := f a) (by rw [hf]; omega), List.nil_append, this]
    rfl
theorem cl_set {α : Type} {f : α → List AV} {e : Nat} (hf : ∀ x, (f x).length = e) (a : α) : ∀ {l : List α} {i : Nat}, i < l.length → (cl f l).take (i * e) ++ f a ++ (cl f l).drop (i * e + (f a).length) = cl f (l.set i a)
  | [], i, h => by simp at h
  | b :: l, 0, _ => by
    rw [List.set_cons_zero, cl_cons, cl_cons, Nat.zero_mul, List.take_zero, List.nil_append, Nat.zero_add, hf, List.drop_append_of_le_length (by rw [hf]; omega), List.drop_of_length_le (l := f b) (by rw [hf]; omega), List.nil_append]
  | b :: l, i + 1, h => by
    have := cl_set (l := l) (i := i) hf a (by simpa using h)
    have e1 : (i + 1) * e = e + i * e := by rw [Nat.add_mul]; omega
    rw [List.set_cons_succ, cl_cons, cl_cons, e1, ← this, List.take_append, hf, List.take_of_length_le (by rw [hf]; omega), Nat.add_sub_cancel_left, Nat.add_assoc, ← List.drop_drop, List.drop_append_of_le_length (by rw [hf]; omega), List.drop_of_length_le (l := f b) (by rw [hf]; omega), List.nil_append]
    simp [List.append_assoc]
theorem cl_oks {α : Type} {f : α → List AV} {l : List α} {lv : Nat} (h : ∀ x, AV.oks lv (f x) = true) : AV.oks lv (cl f l) = true := AV.oks_of fun c hc => cl_mem (p := fun c => c.ok lv = true) (fun x _ c hc => AV.oks_iff.1 (h x) c hc) c hc
theorem cl_all {α : Type} {f : α → List AV} {l : List α} {p : AV → Bool} (h : ∀ x, (f x).all p = true) : ∀ c ∈ cl f l, p c = true := cl_mem fun x _ => List.all_eq_true.1 (h x)

inductive ObAt : AObj → Nat → List AV → Prop
  | box {c} : ObAt (.box c) 0 c
  | row {c e v} : ObAt (.row c e v) v c
theorem ObAt.at {ob : AObj} {v : Nat} {c : List AV} (h : ObAt ob v c) : ob.at v = some c := by
  cases h with
  | box => rfl
  | row =>
    simp only [AObj.at]
    rw [show Nat.beq v v = true from by simp]
    rfl

section
variable {n : Nat} {s : AS} {o : Oper} {d : Option Tmp} {Q : APost}

theorem q_conv_ls {src dst e id ver len : Nat} {x : Operand} {l : List UInt8} {i j tj : TI} {ob : AObj} (ho : o.op = .convert src dst x := by exact rfl) (hx : s.ev x = .sl id ver 0 len 1 := by exact rfl) (hob : s.h id = some ob := by exact rfl)
    (hat : ObAt ob ver (cl bc l) := by exact .row) (hlen : len = l.length := by first | exact rfl | (simp; done) | omega) (hi : te.get src = some i := by exact rfl) (hk : i.k = .slice e := by exact rfl)
    (he : te.get e = some tj := by exact rfl) (hk2 : tj.k = .int .u8 := by exact rfl) (hj : te.get dst = some j := by exact rfl) (hk3 : j.k = .str := by exact rfl)
    (hdd : o.dst = d := by conv => lhs; whnf) (hd : d.all (Nat.blt · n) = true := by exact rfl) : OpOk Try.prog n o s (s.put d (str l)) := by
  subst hlen
  exact ok_conv_bytes te_ok ho hx (.inr (.inr ⟨id, ver, 0, ob, _, rfl, hob, hat.at, by rw [List.drop_zero, List.take_of_length_le (by rw [bs_length]; omega)]⟩)) hi hk he hk2 hj hk3 hdd hd

/-! ### Places -/
inductive PtrTo (s : AS) (off sz : Nat) : AV → AV → Prop
  | fp {lv cells} (h : ((cells.drop off).take sz).length = sz) : PtrTo s off sz (.fp lv cells) (.fp lv ((cells.drop off).take sz))
  | ptr {id ver po ob cells} (hob : s.h id = some ob) (hat : ObAt ob ver cells) : PtrTo s off sz (.ptr id ver po) (.ptr id ver (po + off))
theorem q_fa {t ft : TypeId} {x : Operand} {f off : Nat} {l : List (Nat × TypeId)} {ti tj : TI} {y z z' : AV} (ho : o.op = .fieldAddr t x f := by exact rfl) (hx : s.ev x = y := by conv => lhs; whnf)
    (ht : te.get t = some ti := by exact rfl) (hk : ti.k = .struct l := by exact rfl) (hf : l[f]? = some (off, ft) := by exact rfl) (hj : te.get ft = some tj := by exact rfl) (hp : 0 < tj.size := by exact Nat.le_of_ble_eq_true rfl)
    (hz : PtrTo s off tj.size y z := by first | exact .fp rfl | exact .ptr rfl .box | exact .ptr rfl .row) (hz' : z = z' := by conv => lhs; whnf)
    (hdd : o.dst = d := by conv => lhs; whnf) (hd : d.all (Nat.blt · n) = true := by exact rfl) : OpOk Try.prog n o s (s.put d z') := by
  subst hz'
  cases hz with
  | fp h => exact ok_fieldAddr_fp te_ok ho hx ht hk hf hj hp rfl h hdd hd
  | ptr hob hat => exact ok_fieldAddr_ptr te_ok ho hx ht hk hf hj hp ⟨_, hob, by cases hat <;> rfl⟩ hdd hd
inductive LoadTo (s : AS) (sz : Nat) : AV → List AV → Prop
  | fp {lv cells} (h : cells.length = sz) : LoadTo s sz (.fp lv cells) cells
  | ptr {id ver po ob cells} (hob : s.h id = some ob) (hat : ObAt ob ver cells) (h : ((cells.drop po).take sz).length = sz) : LoadTo s sz (.ptr id ver po) ((cells.drop po).take sz)
  | el {α : Type} [Inhabited α] {id ver j ob} {f : α → List AV} {l : List α} (hob : s.h id = some ob) (hat : ObAt ob ver (cl f l)) (hf : ∀ x, (f x).length = sz) (hj : j < l.length) : LoadTo s sz (.ptr id ver (j * sz)) (f (l.getD j default))
  | el1 {α : Type} [Inhabited α] {id ver j ob} {f : α → List AV} {l : List α} (hsz : sz = 1) (hob : s.h id = some ob) (hat : ObAt ob ver (cl f l)) (hf : ∀ x, (f x).length = 1) (hj : j < l.length) : LoadTo s sz (.ptr id ver j) (f (l.getD j default))
theorem q_load {t : TypeId} {x : Operand} {ti : TI} {y z : AV} {cs : List AV} (ho : o.op = .load t x := by exact rfl) (hx : s.ev x = y := by conv => lhs; whnf) (ht : te.get t = some ti := by exact rfl) (hp : 0 < ti.size := by exact Nat.le_of_ble_eq_true rfl)
    (hz : LoadTo s ti.size y cs := by first | exact .fp rfl | exact .ptr rfl .box rfl | exact .ptr rfl .row rfl | exact .el rfl .row (fun _ => rfl) (by first | omega | (simp; omega)) | exact .el rfl .box (fun _ => rfl) (by first | omega | (simp; omega)) | exact .el1 rfl rfl .row (fun _ => rfl) (by first | omega | (simp; omega)) | exact .el1 rfl rfl .box (fun _ => rfl) (by first | omega | (simp; omega)))
    (hy : mkAV ti.k.agg cs = z := by conv => lhs; whnf) (hdd : o.dst = d := by conv => lhs; whnf) (hd : d.all (Nat.blt · n) = true := by exact rfl) : OpOk Try.prog n o s (s.put d z) := by
  cases hz with
  | fp h => exact ok_load_fp te_ok ho hx ht h hp hy hdd hd
  | ptr hob hat h => exact ok_load_ptr te_ok ho hx hob hat.at ht rfl h hp hy hdd hd
  | el hob hat hf hj =>
    have e := cl_at hf hj
    exact ok_load_ptr te_ok ho hx hob hat.at ht e (hf _) hp hy hdd hd
  | @el1 α _ id ver j ob f l hsz hob hat hf hj =>
    have e := cl_at (i := j) hf hj
    rw [Nat.mul_one] at e
    exact ok_load_ptr te_ok ho hx hob hat.at ht (by rw [hsz]; exact e) (by rw [hsz]; exact hf _) hp hy hdd hd
inductive IxTo (s : AS) (i e : Nat) : AV → AV → Prop
  | fz {α : Type} [Inhabited α] {lv} {f : α → List AV} {l : List α} (hf : ∀ x, (f x).length = e) : IxTo s i e (.fz lv l.length (cl f l)) (.fp lv (f (l.getD i default)))
  | sl0 {id ver len ob cells} (hob : s.h id = some ob) (hat : ObAt ob ver cells) : IxTo s i e (.sl id ver 0 len e) (.ptr id ver (i * e))
  | sl {id ver off len ob cells} (hob : s.h id = some ob) (hat : ObAt ob ver cells) : IxTo s i e (.sl id ver off len e) (.ptr id ver (off + i * e))
theorem q_ix {t e : TypeId} {x y : Operand} {k : IntKind} {i : Int} {ti tj : TI} {a z : AV} {m : Nat} (ho : o.op = .indexAddr t x y := by exact rfl) (hx : s.ev x = a := by conv => lhs; whnf) (hy : s.ev y = .v (.int k i) := by exact rfl)
    (ht : te.get t = some ti := by exact rfl) (hk : ti.k = .slice e := by exact rfl) (he : te.get e = some tj := by exact rfl) (hm : a.len? = some m := by exact rfl)
    (h0 : 0 ≤ i := by first | omega | decide | (simp; omega)) (h1 : i < m := by first | omega | decide | (simp; omega)) (hp : 0 < tj.size := by exact Nat.le_of_ble_eq_true rfl)
    (hz : IxTo s i.toNat tj.size a z := by first | exact .fz (fun _ => rfl) | exact .sl0 rfl .row | exact .sl0 rfl .box | exact .sl rfl .row | exact .sl rfl .box)
    (hdd : o.dst = d := by conv => lhs; whnf) (hd : d.all (Nat.blt · n) = true := by exact rfl) : OpOk Try.prog n o s (s.put d z) := by
  cases hz with
  | fz hf =>
    simp only [AV.len?, Option.some.injEq] at hm
    subst hm
    exact ok_indexAddr_fz te_ok ho hx hy ht hk he h0 h1 (cl_at hf (by omega)) (hf _) hp hdd hd
  | sl0 hob hat =>
    simp only [AV.len?, Option.some.injEq] at hm
    subst hm
    have := ok_indexAddr_sl (P := Try.prog) (n := n) (s := s) te_ok ho hx hy ht hk he h0 h1 hob hat.at hdd hd
    simpa using this
  | sl hob hat =>
    simp only [AV.len?, Option.some.injEq] at hm
    subst hm
    exact ok_indexAddr_sl te_ok ho hx hy ht hk he h0 h1 hob hat.at hdd hd
/-- A place in an array of one's own. -/
theorem q_ixa {t e : TypeId} {x y : Operand} {id ver po po' len : Nat} {k : IntKind} {i : Int} {ob : AObj} {cells : List AV} {ti tj : TI} (ho : o.op = .indexAddr t x y := by exact rfl)
    (hx : s.ev x = .ptr id ver po := by exact rfl) (hy : s.ev y = .v (.int k i) := by exact rfl) (ht : te.get t = some ti := by exact rfl) (hk : ti.k = .arr len e := by exact rfl) (he : te.get e = some tj := by exact rfl)
    (h0 : 0 ≤ i := by first | omega | decide | (simp; omega)) (h1 : i < len := by first | omega | decide | (simp; omega)) (hob : s.h id = some ob := by exact rfl) (hat : ObAt ob ver cells := by first | exact .box | exact .row)
    (hpo : po + i.toNat * tj.size = po' := by first | (conv => lhs; rw [Nat.zero_add]) | exact rfl)
    (hdd : o.dst = d := by conv => lhs; whnf) (hd : d.all (Nat.blt · n) = true := by exact rfl) : OpOk Try.prog n o s (s.put d (.ptr id ver po')) :=
  hpo ▸ ok_indexAddr_ptr te_ok ho hx hy ht hk he h0 h1 hob hat.at hdd hd
/-- An element of an array of one-cell elements. -/
theorem q_ixagg {α : Type} [Inhabited α] {t e : TypeId} {m : Nat} {x y : Operand} {f : α → List AV} {l : List α} {k : IntKind} {i : Int} {ti tj : TI} {v : AV} (ho : o.op = .index t x y := by exact rfl) (hx : s.ev x = .agg (cl f l) := by exact rfl)
    (hy : s.ev y = .v (.int k i) := by exact rfl) (ht : te.get t = some ti := by exact rfl) (hk : ti.k = .arr m e := by exact rfl) (he : te.get e = some tj := by exact rfl) (hj : tj.k.agg = false := by exact rfl) (h1 : tj.size = 1 := by exact rfl)
    (hf : ∀ x, f x = [(f x).headD .any] := by exact fun _ => rfl) (h0 : 0 ≤ i := by first | omega | decide | (simp; omega)) (hm : i < m := by first | omega | decide | (simp; omega)) (hl : i < l.length := by first | omega | decide | (simp; omega))
    (hv : (f (l.getD i.toNat default)).headD .any = v := by conv => lhs; whnf)
    (hdd : o.dst = d := by conv => lhs; whnf) (hd : d.all (Nat.blt · n) = true := by exact rfl) : OpOk Try.prog n o s (s.put d v) := by
  refine ok_index_agg te_ok ho hx hy ht hk he hj h1 ?_ h0 hm hdd hd
  have e1 := cl_at (f := f) (e := 1) (fun x => by rw [hf x]; rfl) (l := l) (i := i.toNat) (by omega)
  rw [Nat.mul_one, hf, hv] at e1
  have : ((cl f l).drop i.toNat)[0]? = some v := by
    have h2 : (((cl f l).drop i.toNat).take 1)[0]? = some v := by rw [e1]; rfl
    rwa [List.getElem?_take, if_pos (by omega)] at h2
  rwa [List.getElem?_drop, Nat.add_zero] at this

/-! ### Stores -/
inductive StoreTo (s : AS) : AV → List AV → AObj → Nat → Prop
  | ptr {id ver po ob cells cs c'} (hob : s.h id = some ob) (hat : ObAt ob ver cells) (hb : po + cs.length ≤ cells.length) (hp : 0 < cells.length) (hc : cells.take po ++ cs ++ cells.drop (po + cs.length) = c') :
      StoreTo s (.ptr id ver po) cs (ob.withCells c') id
  | whole {id ver ob cells cs} (hob : s.h id = some ob) (hat : ObAt ob ver cells) (hl : cs.length = cells.length) (hp : 0 < cells.length) : StoreTo s (.ptr id ver 0) cs (ob.withCells cs) id
  | el {α : Type} {id ver j sz ob cs} {f : α → List AV} {l : List α} {a : α} (hob : s.h id = some ob) (hat : ObAt ob ver (cl f l)) (hcs : f a = cs) (hf : ∀ x, (f x).length = sz) (h0 : 0 < sz) (hj : j < l.length) : StoreTo s (.ptr id ver (j * sz)) cs (ob.withCells (cl f (l.set j a))) id
  | el1 {α : Type} {id ver j ob cs} {f : α → List AV} {l : List α} {a : α} (hob : s.h id = some ob) (hat : ObAt ob ver (cl f l)) (hcs : f a = cs) (hf : ∀ x, (f x).length = 1) (hj : j < l.length) : StoreTo s (.ptr id ver j) cs (ob.withCells (cl f (l.set j a))) id
theorem q_store {t : TypeId} {x y : Operand} {id : Nat} {ob' ob'' : AObj} {ti : TI} {p v : AV} {cs : List AV} (ho : o.op = .store t x y := by exact rfl) (hx : s.ev x = p := by conv => lhs; whnf) (hy : s.ev y = v := by conv => lhs; whnf)
    (hf : v.flat = some cs := by exact rfl) (h1 : cs.all AV.one = true := by exact rfl) (ht : te.get t = some ti := by exact rfl) (hl : cs.length = ti.size := by exact rfl)
    (hs : StoreTo s p cs ob' id := by first | exact .whole rfl .box rfl (Nat.le_of_ble_eq_true rfl) | exact .ptr rfl .box (Nat.le_of_ble_eq_true rfl) (Nat.le_of_ble_eq_true rfl) (by first | (simp only [List.take_succ_cons, List.take_zero, List.drop_succ_cons, List.drop_zero, List.drop_nil, List.take_nil, List.nil_append, List.cons_append, List.append_nil]; rfl) | exact rfl) | exact .el rfl .row rfl (fun _ => rfl) (Nat.le_of_ble_eq_true rfl) (by first | omega | (simp; omega)) | exact .el rfl .box rfl (fun _ => rfl) (Nat.le_of_ble_eq_true rfl) (by first | omega | (simp; omega)) | exact .el1 rfl .row rfl (fun _ => rfl) (by first | omega | (simp; omega)) | exact .el1 rfl .box rfl (fun _ => rfl) (by first | omega | (simp; omega)))
    (hw : ob' = ob'' := by conv => lhs; whnf) (hdd : o.dst = d := by conv => lhs; whnf) (hd : d.all (Nat.blt · n) = true := by exact rfl) : OpOk Try.prog n o s ((s.seth id (some ob'')).put d (.v undef)) := by
  subst hw
  cases hs with
  | ptr hob hat hb hp hc => exact ok_store_ptr te_ok ho hx hy hf h1 hob hat.at ht hl hb hp hc hdd hd
  | @whole _ ver ob cells _ hob hat hl2 hp => exact ok_store_ptr te_ok ho hx hy hf h1 hob hat.at ht hl (by omega) hp (by rw [List.take_zero, List.nil_append, List.drop_of_length_le (by omega), List.append_nil]) hdd hd
  | @el α _ ver j sz ob _ f l a hob hat hcs hf2 h0 hj =>
    subst hcs
    have h3 := cl_length hf2 l
    have h4 : (j + 1) * sz ≤ l.length * sz := Nat.mul_le_mul_right sz hj
    rw [Nat.add_mul, Nat.one_mul] at h4
    exact ok_store_ptr te_ok ho hx hy hf h1 hob hat.at ht hl (by rw [hf2, h3]; omega) (by rw [h3]; omega) (cl_set hf2 a hj) hdd hd
  | @el1 α _ ver j ob _ f l a hob hat hcs hf2 hj =>
    subst hcs
    have h3 := cl_length hf2 l
    have h4 := cl_set hf2 a hj
    rw [Nat.mul_one] at h4
    exact ok_store_ptr te_ok ho hx hy hf h1 hob hat.at ht hl (by rw [hf2, h3]; omega) (by rw [h3]; omega) h4 hdd hd

/-! ### New objects -/
theorem q_alloc (id : Nat) {t : TypeId} {ti : TI} {zs : List AV} (ho : o.op = .alloc t := by exact rfl) (ht : te.get t = some ti := by exact rfl) (hid : s.h id = none := by exact rfl)
    (hz : ti.zero.map (fun z => AV.v z.val) = zs := by first | (simp only [List.map_cons, List.map_nil, ZC.val]; rfl) | exact rfl) (hdd : o.dst = d := by conv => lhs; whnf) (hd : d.all (Nat.blt · n) = true := by exact rfl) :
    OpOk Try.prog n o s ((s.seth id (some (.box zs))).put d (.ptr id 0 0)) := ok_alloc te_ok ho ht hid hz hdd hd
theorem q_box (id : Nat) {t : TypeId} {x : Operand} {y : AV} {cs : List AV} (ho : o.op = .box t x := by exact rfl) (hx : s.ev x = y := by conv => lhs; whnf) (hf : y.flat = some cs := by exact rfl) (hid : s.h id = none := by exact rfl)
    (hdd : o.dst = d := by conv => lhs; whnf) (hd : d.all (Nat.blt · n) = true := by exact rfl) : OpOk Try.prog n o s ((s.seth id (some (.box cs))).put d (.ptr id 0 0)) := ok_box te_ok ho hx hf hid hdd hd
theorem q_build (vals : List (Nat × AV)) {t : TypeId} {parts : Array (Nat × Operand)} {l : List (Nat × TypeId)} {ti : TI} {cs cs' : List AV} (ho : o.op = .build t parts := by exact rfl)
    (hv : EvL s parts.toList vals := by repeat' (first | exact trivial | refine ⟨rfl, ?_, ?_⟩ | (conv => lhs; whnf))) (ht : te.get t = some ti := by exact rfl) (hk : ti.k = .struct l := by exact rfl)
    (hall : (l.all fun p => (te.get p.2).isSome) = true := by exact rfl) (hcs : fillAV (structPlace te l) (ti.zero.map fun z => AV.v z.val) vals = some cs := by exact rfl)
    (hc' : cs = cs' := by first | (simp only [List.take_succ_cons, List.take_zero, List.drop_succ_cons, List.drop_zero, List.drop_nil, List.take_nil, List.nil_append, List.cons_append, List.append_nil, List.map_cons, List.map_nil, ZC.val, repZ]; rfl) | exact rfl)
    (hdd : o.dst = d := by conv => lhs; whnf) (hd : d.all (Nat.blt · n) = true := by exact rfl) : OpOk Try.prog n o s (s.put d (.agg cs')) := ok_build_struct2 te_ok ho hv ht hk hall hcs hc' hdd hd
/-- An array out of its elements. -/
theorem q_buildA {α : Type} (f : α → List AV) (xs : List α) (vals : List (Nat × AV)) {t e : TypeId} {m : Nat} {parts : Array (Nat × Operand)} {ti tj : TI} {cs : List AV} (ho : o.op = .build t parts := by exact rfl)
    (hv : EvL s parts.toList vals := by repeat' (first | exact trivial | refine ⟨rfl, ?_, ?_⟩ | (conv => lhs; whnf))) (ht : te.get t = some ti := by exact rfl) (hk : ti.k = .arr m e := by exact rfl) (he : te.get e = some tj := by exact rfl)
    (hcs : fillAV (arrPlace tj.size) (ti.zero.map fun z => AV.v z.val) vals = some cs := by exact rfl) (hc' : cs = cl f xs := by first | (simp only [List.take_succ_cons, List.take_zero, List.drop_succ_cons, List.drop_zero, List.drop_nil, List.take_nil, List.nil_append, List.cons_append, List.append_nil, List.map_cons, List.map_nil, ZC.val, repZ]; exact rfl) | exact rfl)
    (hdd : o.dst = d := by conv => lhs; whnf) (hd : d.all (Nat.blt · n) = true := by exact rfl) : OpOk Try.prog n o s (s.put d (.agg (cl f xs))) := hc' ▸ ok_build_arr2 te_ok ho hv ht hk he hcs rfl hdd hd
/-- A slice out of its elements. -/
theorem q_bs (id : Nat) {α : Type} (f : α → List AV) (xs : List α) (vals : List (Nat × AV)) {t e : TypeId} {m : Nat} {parts : Array (Nat × Operand)} {ti tj : TI} {cs : List AV} (ho : o.op = .buildSlice t m parts := by exact rfl)
    (hv : EvL s parts.toList vals := by repeat' (first | exact trivial | refine ⟨rfl, ?_, ?_⟩ | (conv => lhs; whnf))) (ht : te.get t = some ti := by exact rfl) (hk : ti.k = .slice e := by exact rfl) (he : te.get e = some tj := by exact rfl)
    (hid : s.h id = none := by exact rfl) (hcs : fillAV (arrPlace tj.size) (repZ tj.zero m) vals = some cs := by exact rfl)
    (hc' : cs = cl f xs := by first | (simp only [List.take_succ_cons, List.take_zero, List.drop_succ_cons, List.drop_zero, List.drop_nil, List.take_nil, List.nil_append, List.cons_append, List.append_nil, List.map_cons, List.map_nil, ZC.val, repZ]; exact rfl) | exact rfl)
    (hz : Nat.beq tj.zero.length tj.size = true := by exact rfl) (hsm : Nat.ble (m * tj.size) 1000 = true := by exact rfl) (hm : m = xs.length := by exact rfl)
    (hdd : o.dst = d := by conv => lhs; whnf) (hd : d.all (Nat.blt · n) = true := by exact rfl) : OpOk Try.prog n o s ((s.seth id (some (.row (cl f xs) tj.size 0))).put d (.sl id 0 0 xs.length tj.size)) := by
  subst hm
  exact ok_buildSlice2 te_ok ho hv ht hk he hid hcs hc' hz hsm hdd hd
/-- A slice out of its elements, as they are. -/
theorem q_bsr (id : Nat) (vals : List (Nat × AV)) {t e : TypeId} {m : Nat} {parts : Array (Nat × Operand)} {ti tj : TI} {cs cs' : List AV} (ho : o.op = .buildSlice t m parts := by exact rfl)
    (hv : EvL s parts.toList vals := by repeat' (first | exact trivial | refine ⟨rfl, ?_, ?_⟩ | (conv => lhs; whnf))) (ht : te.get t = some ti := by exact rfl) (hk : ti.k = .slice e := by exact rfl) (he : te.get e = some tj := by exact rfl)
    (hid : s.h id = none := by exact rfl) (hcs : fillAV (arrPlace tj.size) (repZ tj.zero m) vals = some cs := by exact rfl)
    (hc' : cs = cs' := by first | (simp only [List.take_succ_cons, List.take_zero, List.drop_succ_cons, List.drop_zero, List.drop_nil, List.take_nil, List.nil_append, List.cons_append, List.append_nil, List.map_cons, List.map_nil, ZC.val, repZ]; exact rfl) | exact rfl)
    (hz : Nat.beq tj.zero.length tj.size = true := by exact rfl) (hsm : Nat.ble (m * tj.size) 1000 = true := by exact rfl)
    (hdd : o.dst = d := by conv => lhs; whnf) (hd : d.all (Nat.blt · n) = true := by exact rfl) : OpOk Try.prog n o s ((s.seth id (some (.row cs' tj.size 0))).put d (.sl id 0 0 m tj.size)) :=
  ok_buildSlice2 te_ok ho hv ht hk he hid hcs hc' hz hsm hdd hd
theorem q_makeFunc (fv cv : List AV) {f : Fn} {first caps : Array Operand} (ho : o.op = .makeFunc f first caps := by exact rfl) (h1 : EvA s first.toList fv := by repeat' (first | exact trivial | refine ⟨?_, ?_⟩ | (conv => lhs; whnf)))
    (h2 : EvA s caps.toList cv := by repeat' (first | exact trivial | refine ⟨?_, ?_⟩ | (conv => lhs; whnf))) (hdd : o.dst = d := by conv => lhs; whnf) (hd : d.all (Nat.blt · n) = true := by exact rfl) :
    OpOk Try.prog n o s (s.put d (.fn f fv cv)) := ok_makeFunc ho h1 h2 hdd hd
theorem q_min {ty : Array TypeId} {x y : Operand} {a b : Int} {k : IntKind} (ho : o.op = .call { callee := .builtin .min, args := #[x, y], argTypes := ty } := by exact rfl) (hx : s.ev x = .v (.int k a) := by exact rfl) (hy : s.ev y = .v (.int k b) := by exact rfl)
    (hdd : o.dst = d := by conv => lhs; whnf) (hd : d.all (Nat.blt · n) = true := by exact rfl) : OpOk Try.prog n o s (s.put d (.v (.int k (min a b)))) := ok_min ty ho hx hy hdd hd
theorem q_max {ty : Array TypeId} {x y : Operand} {a b : Int} {k : IntKind} (ho : o.op = .call { callee := .builtin .max, args := #[x, y], argTypes := ty } := by exact rfl) (hx : s.ev x = .v (.int k a) := by exact rfl) (hy : s.ev y = .v (.int k b) := by exact rfl)
    (hdd : o.dst = d := by conv => lhs; whnf) (hd : d.all (Nat.blt · n) = true := by exact rfl) : OpOk Try.prog n o s (s.put d (.v (.int k (max a b)))) := ok_max ty ho hx hy hdd hd

/-! ### Slicing -/
def lowB (s : AS) : Option Operand → Int → Prop
  | none, i => i = 0
  | some x, i => ∃ k, s.ev x = .v (.int k i)
def highB (s : AS) (m : Nat) : Option Operand → Int → Prop
  | none, j => j = m
  | some x, j => ∃ k, s.ev x = .v (.int k j)
inductive SlTo (i j : Nat) (e : Nat) : Option Operand → Option Operand → AV → AV → Prop
  | fz_all {α : Type} {lv} {f : α → List AV} {l : List α} (hf : ∀ x, (f x).length = e) : SlTo i j e none none (.fz lv l.length (cl f l)) (.fz lv l.length (cl f l))
  | fz_hi {x} {α : Type} {lv} {f : α → List AV} {l : List α} (hf : ∀ x, (f x).length = e) : SlTo i j e none (some x) (.fz lv l.length (cl f l)) (.fz lv (l.take j).length (cl f (l.take j)))
  | fz_lo {x} {α : Type} {lv} {f : α → List AV} {l : List α} (hf : ∀ x, (f x).length = e) : SlTo i j e (some x) none (.fz lv l.length (cl f l)) (.fz lv (l.drop i).length (cl f (l.drop i)))
  | fz {lo hi} {α : Type} {lv} {f : α → List AV} {l : List α} (hf : ∀ x, (f x).length = e) : SlTo i j e lo hi (.fz lv l.length (cl f l)) (.fz lv ((l.take j).drop i).length (cl f ((l.take j).drop i)))
  | sl_all {id ver off len} : SlTo i j e none none (.sl id ver off len e) (.sl id ver off len e)
  | sl_hi {x} {id ver off len} : SlTo i j e none (some x) (.sl id ver off len e) (.sl id ver off j e)
  | sl_lo {x} {id ver off len} : SlTo i j e (some x) none (.sl id ver off len e) (.sl id ver (off + i * e) (len - i) e)
  | sl {lo hi} {id ver off len} : SlTo i j e lo hi (.sl id ver off len e) (.sl id ver (off + i * e) (j - i) e)
inductive SlBase (i j : Nat) (e : Nat) : AV → AV → Prop
  | fz {α : Type} {lv} {f : α → List AV} {l : List α} (hf : ∀ x, (f x).length = e) : SlBase i j e (.fz lv l.length (cl f l)) (.fz lv ((l.take j).drop i).length (cl f ((l.take j).drop i)))
  | sl {id ver off len} : SlBase i j e (.sl id ver off len e) (.sl id ver (off + i * e) (j - i) e)
theorem SlTo.base {i j e : Nat} {lo hi : Option Operand} {a z : AV} {m : Nat} (h : SlTo i j e lo hi a z) (hm : a.len? = some m) (h1 : lo = none → i = 0) (h2 : hi = none → j = m) : SlBase i j e a z := by
  cases h with
  | @fz_all α lv f l hf =>
    simp only [AV.len?, Option.some.injEq] at hm
    obtain rfl := h1 rfl
    obtain rfl := (h2 rfl).trans hm.symm
    have := SlBase.fz (i := 0) (j := l.length) (lv := lv) (l := l) hf
    simpa using this
  | @fz_hi x α lv f l hf =>
    obtain rfl := h1 rfl
    have := SlBase.fz (i := 0) (j := j) (lv := lv) (l := l) hf
    simpa using this
  | @fz_lo x α lv f l hf =>
    simp only [AV.len?, Option.some.injEq] at hm
    obtain rfl := (h2 rfl).trans hm.symm
    have := SlBase.fz (i := i) (j := l.length) (lv := lv) (l := l) hf
    simpa using this
  | fz hf => exact .fz hf
  | @sl_all id ver off len =>
    simp only [AV.len?, Option.some.injEq] at hm
    obtain rfl := h1 rfl
    obtain rfl := (h2 rfl).trans hm.symm
    have := SlBase.sl (i := 0) (j := j) (e := e) (id := id) (ver := ver) (off := off) (len := j)
    simpa using this
  | @sl_hi x id ver off len =>
    obtain rfl := h1 rfl
    have := SlBase.sl (i := 0) (j := j) (e := e) (id := id) (ver := ver) (off := off) (len := len)
    simpa using this
  | @sl_lo x id ver off len =>
    simp only [AV.len?, Option.some.injEq] at hm
    obtain rfl := (h2 rfl).trans hm.symm
    exact .sl
  | sl => exact .sl
theorem q_sl {t e : TypeId} {x : Operand} {lo hi mx : Option Operand} {a z : AV} {m : Nat} {i j : Int} {ti tj : TI} (ho : o.op = .slice t x lo hi mx := by exact rfl) (hx : s.ev x = a := by conv => lhs; whnf)
    (ht : te.get t = some ti := by exact rfl) (hk : ti.k = .slice e := by exact rfl) (he : te.get e = some tj := by exact rfl) (hm : a.len? = some m := by exact rfl) (hl : lowB s lo i := by first | exact ⟨_, rfl⟩ | exact rfl) (hh : highB s m hi j := by first | exact ⟨_, rfl⟩ | exact rfl)
    (h0 : 0 ≤ i := by first | omega | decide | (simp; omega)) (h1 : i ≤ j := by first | omega | decide | (simp; omega)) (h2 : j ≤ m := by first | omega | decide | (simp; omega))
    (hp : 0 < tj.size := by exact Nat.le_of_ble_eq_true rfl) (hz : SlTo i.toNat j.toNat tj.size lo hi a z := by first | exact .fz_all (fun _ => rfl) | exact .fz_hi (fun _ => rfl) | exact .fz_lo (fun _ => rfl) | exact .fz (fun _ => rfl) | exact .sl_all | exact .sl_hi | exact .sl_lo | exact .sl) (hmx : mx = none ∨ (mx = hi ∧ mx.isSome = true ∧ ∃ lv k c, a = .fz lv k c) := by first | exact .inl rfl | exact .inr ⟨rfl, rfl, _, _, _, rfl⟩)
    (hob : (match a with | .sl id ver _ _ _ => ∃ ob cells, s.h id = some ob ∧ ObAt ob ver cells | _ => True) := by first | exact trivial | exact ⟨_, _, rfl, .row⟩ | exact ⟨_, _, rfl, .box⟩)
    (hdd : o.dst = d := by conv => lhs; whnf) (hd : d.all (Nat.blt · n) = true := by exact rfl) : OpOk Try.prog n o s (s.put d z) := by
  have b1 : Bnd s hi m j.toNat := by
    cases hi with
    | none => simp only [highB] at hh; subst hh; exact Int.toNat_natCast m
    | some x => obtain ⟨k, hh⟩ := hh; exact ⟨k, j, hh, by omega, rfl⟩
  have b2 : Bnd s lo 0 i.toNat := by
    cases lo with
    | none => simp only [lowB] at hl; subst hl; rfl
    | some x => obtain ⟨k, hl⟩ := hl; exact ⟨k, i, hl, h0, rfl⟩
  have hz := hz.base hm (fun h => by subst h; simp only [lowB] at hl; omega) (fun h => by subst h; simp only [highB] at hh; omega)
  cases hz with
  | @fz α lv f l hf =>
    simp only [AV.len?, Option.some.injEq] at hm
    subst hm
    have e1 : ((l.take j.toNat).drop i.toNat).length = j.toNat - i.toNat := by
      rw [List.length_drop, List.length_take, Nat.min_eq_left (by omega)]
    rw [e1]
    refine ok_slice_fz te_ok ho hx ht hk he ?_ b1 b2 (by omega) (by omega) (cl_length hf l) ?_ hp hdd hd
    · rcases hmx with h | ⟨h, h3, _⟩
      · exact .inl h
      · exact .inr ⟨h, h3⟩
    · rw [cl_drop hf, cl_take hf, List.take_drop]
      congr 3
      omega
  | sl =>
    simp only [AV.len?, Option.some.injEq] at hm
    subst hm
    obtain ⟨ob, cells, hob, hat⟩ := hob
    rcases hmx with h | ⟨_, _, _, _, _, h⟩
    · subst h
      exact ok_slice_sl te_ok ho hx ht hk he rfl b1 b2 (by omega) (by omega) hob hat.at hdd hd
    · cases h
/-- A part of an array of one's own. -/
theorem q_sla {t e : TypeId} {x : Operand} {lo hi : Option Operand} {id ver po len : Nat} {i j : Int} {ob : AObj} {cells : List AV} {ti tj : TI} (ho : o.op = .slice t x lo hi none := by exact rfl) (hx : s.ev x = .ptr id ver po := by exact rfl)
    (ht : te.get t = some ti := by exact rfl) (hk : ti.k = .arr len e := by exact rfl) (he : te.get e = some tj := by exact rfl) (hl : lowB s lo i := by first | exact ⟨_, rfl⟩ | exact rfl) (hh : highB s len hi j := by first | exact ⟨_, rfl⟩ | exact rfl)
    (h0 : 0 ≤ i := by first | omega | decide | (simp; omega)) (h1 : i ≤ j := by first | omega | decide | (simp; omega)) (h2 : j ≤ len := by first | omega | decide | (simp; omega)) (h3 : i < len := by first | omega | decide | (simp; omega))
    (hob : s.h id = some ob := by exact rfl) (hat : ObAt ob ver cells := by first | exact .box | exact .row) (hsz : po + len * tj.size ≤ cells.length := by first | exact Nat.le_of_ble_eq_true rfl | (simp; omega)) (hp : 0 < cells.length := by first | exact Nat.le_of_ble_eq_true rfl | (simp; omega))
    (hdd : o.dst = d := by conv => lhs; whnf) (hd : d.all (Nat.blt · n) = true := by exact rfl) : OpOk Try.prog n o s (s.put d (.sl id ver (po + i.toNat * tj.size) (j.toNat - i.toNat) tj.size)) := by
  have b1 : Bnd s hi len j.toNat := by
    cases hi with
    | none => simp only [highB] at hh; subst hh; exact Int.toNat_natCast len
    | some x => obtain ⟨k, hh⟩ := hh; exact ⟨k, j, hh, by omega, rfl⟩
  have b2 : Bnd s lo 0 i.toNat := by
    cases lo with
    | none => simp only [lowB] at hl; subst hl; rfl
    | some x => obtain ⟨k, hl⟩ := hl; exact ⟨k, i, hl, h0, rfl⟩
  exact ok_slice_arr te_ok ho hx ht hk he b1 b2 (by omega) (by omega) (by omega) hob hat.at hsz hp hdd hd

/-! ### Append -/
inductive SrcTo (s : AS) (y : Operand) : {α : Type} → (α → List AV) → Nat → List α → Prop
  | str {l : List UInt8} (hy : s.ev y = str l) : SrcTo s y bc 1 l
  | nil {α : Type} {f : α → List AV} {e k : Nat} (hy : s.ev y = .v (.slice none 0 k)) : SrcTo s y f e []
  | fz {α : Type} {f : α → List AV} {e lv : Nat} {l : List α} (hy : s.ev y = .fz lv l.length (cl f l)) (hf : ∀ x, (f x).length = e) : SrcTo s y f e l
  | sl {α : Type} {f : α → List AV} {e id ver : Nat} {l : List α} {ob : AObj} (hy : s.ev y = .sl id ver 0 l.length e) (hob : s.h id = some ob) (hat : ObAt ob ver (cl f l)) (hf : ∀ x, (f x).length = e) : SrcTo s y f e l
theorem SrcTo.src {y : Operand} {α : Type} {f : α → List AV} {e : Nat} {m : List α} (h : SrcTo s y f e m) : Src Try.prog n s y e m.length (cl f m) := by
  cases h with
  | str hy => exact src_str hy (bs_map _).symm
  | nil hy => exact src_nil hy
  | fz hy hf => exact src_fz hy (cl_length hf _)
  | sl hy hob hat hf => exact src_sl hy hob hat.at (by rw [List.drop_zero, List.take_of_length_le (by rw [cl_length hf]; omega)]) (cl_length hf _)
theorem q_app {t t2 e : TypeId} {x y : Operand} {id ver esz bt : Nat} {α : Type} {f : α → List AV} {l m : List α} {ti tj tk : TI} (ho : o.op = .call { callee := .builtin .append, args := #[x, y], argTypes := #[t, t2] } := by exact rfl)
    (hx : s.ev x = .sl id ver 0 l.length esz := by exact rfl) (hob : s.h id = some (.row (cl f l) esz ver) := by exact rfl) (ht : te.get t = some ti := by exact rfl) (hk : ti.k = .slice e := by exact rfl) (he : te.get e = some tj := by exact rfl)
    (hesz : tj.size = esz := by exact rfl) (hbt : tj.bytes = bt := by conv => lhs; whnf) (ht2 : te.get t2 = some tk := by exact rfl) (hk2 : (match tk.k with | .slice _ | .str => true | _ => false) = true := by exact rfl)
    (hsrc : SrcTo s y f esz m := by first | exact .sl rfl rfl .row (fun _ => rfl) | exact .fz rfl (fun _ => rfl) | exact .str rfl | exact .nil rfl) (hf : ∀ x, (f x).length = esz := by exact fun _ => rfl) (h1 : ∀ x, (f x).all AV.one = true := by exact fun _ => rfl)
    (hb : (l.length + m.length) * bt ≤ 140737488355328 := by first | omega | (simp; omega)) (hbp : 0 < bt := by exact Nat.le_of_ble_eq_true rfl)
    (hdd : o.dst = d := by conv => lhs; whnf) (hd : d.all (Nat.blt · n) = true := by exact rfl) : OpOk Try.prog n o s ((s.seth id (some (.row (cl f (l ++ m)) esz (ver + 1)))).put d (.sl id (ver + 1) 0 (l ++ m).length esz)) := by
  subst hesz
  subst hbt
  rw [List.length_append, cl_append]
  have hle : l.length + m.length ≤ (l.length + m.length) * tj.bytes := Nat.le_mul_of_pos_right _ hbp
  exact ok_append_sl te_ok ho hx hob (by rw [Nat.zero_add, cl_length hf]) ht hk he rfl ht2 hk2 hsrc.src (cl_all h1) (by rw [List.drop_zero]) hb (by omega) hdd hd
/-- .. behind what was let go at the front. -/
theorem q_appo (a : Nat) {t t2 e : TypeId} {x y : Operand} {id ver off len : Nat} {α : Type} {f : α → List AV} {l m : List α} {esz bt : Nat} {ti tj tk : TI} (ho : o.op = .call { callee := .builtin .append, args := #[x, y], argTypes := #[t, t2] } := by exact rfl)
    (hx : s.ev x = .sl id ver off len esz := by exact rfl) (hob : s.h id = some (.row (cl f l) esz ver) := by exact rfl) (ha : off = a * esz := by first | exact rfl | omega | (simp; done)) (hle : a ≤ l.length := by omega) (hlen : len = l.length - a := by first | exact rfl | omega | (simp; omega))
    (ht : te.get t = some ti := by exact rfl) (hk : ti.k = .slice e := by exact rfl) (he : te.get e = some tj := by exact rfl)
    (hesz : tj.size = esz := by exact rfl) (hbt : tj.bytes = bt := by conv => lhs; whnf) (ht2 : te.get t2 = some tk := by exact rfl) (hk2 : (match tk.k with | .slice _ | .str => true | _ => false) = true := by exact rfl)
    (hsrc : SrcTo s y f esz m := by first | exact .sl rfl rfl .row (fun _ => rfl) | exact .fz rfl (fun _ => rfl) | exact .str rfl | exact .nil rfl) (hf : ∀ x, (f x).length = esz := by exact fun _ => rfl) (h1 : ∀ x, (f x).all AV.one = true := by exact fun _ => rfl)
    (hb : (l.length - a + m.length) * bt ≤ 140737488355328 := by first | omega | (simp; omega)) (hbp : 0 < bt := by exact Nat.le_of_ble_eq_true rfl)
    (hdd : o.dst = d := by conv => lhs; whnf) (hd : d.all (Nat.blt · n) = true := by exact rfl) : OpOk Try.prog n o s ((s.seth id (some (.row (cl f (l.drop a ++ m)) esz (ver + 1)))).put d (.sl id (ver + 1) 0 (l.drop a ++ m).length esz)) := by
  subst hesz
  subst hbt
  subst ha
  subst hlen
  rw [List.length_append, cl_append, List.length_drop]
  have hle2 : l.length - a + m.length ≤ (l.length - a + m.length) * tj.bytes := Nat.le_mul_of_pos_right _ hbp
  exact ok_append_sl te_ok ho hx hob (by rw [← Nat.add_mul, cl_length hf]; congr 1; omega) ht hk he rfl ht2 hk2 hsrc.src (cl_all h1) (by rw [cl_drop hf]) hb (by omega) hdd hd
end
end Go.Proofs.Ytaemmklgofddmaa.Fw
