/- The texts Q1, Q2, Q3, FwO, FwP, FwS, Q4, Q5, Q6, W11, L11a, L11b, L11c, L11d, Q20, one behind the other: what the walks and plain laws need; conditions stand with each theorem. -/
import Derived.Below
import Derived.Carry
import Derived.ChangeOld
import Derived.JoinedCond
import Derived.Laws.AppendOwn
import Derived.Laws.StructEq
import Derived.Lib.ConvBytes
import Derived.OpenShut
import Derived.ProofKit
import Derived.ShutString
import Derived.SizedLaws
import Derived.Test.YtahkngplohnliaaRows
import Derived.Test.YtahkngplohnliaaCat1
set_option linter.unusedVariables false
set_option linter.unusedSimpArgs false
namespace Go.Proofs.Ytahkngplohnliaa.Fw
open Go.RowKit
section
variable {n : Nat} {s : AS} {o : Oper} {d : Option Tmp} {Q : APost}
theorem q_move {x : Operand} {y : AV} (ho : o.op = .move x := by exact rfl) (hy : s.ev x = y := by conv => lhs; whnf) (hdd : o.dst = d := by conv => lhs; whnf) (hd : d.all (Nat.blt · n) = true := by exact rfl) :
    OpOk Try.prog n o s (s.put d y) := ok_move ho hy hdd hd
theorem q_assign {x : Operand} {y : AV} (ho : o.op = .assign x := by exact rfl) (hy : s.ev x = y := by conv => lhs; whnf) (hdd : o.dst = d := by conv => lhs; whnf) (hd : d.all (Nat.blt · n) = true := by exact rfl) :
    OpOk Try.prog n o s (s.put d y) := ok_assign ho hy hdd hd
theorem q_nilz (lv : Nat) {α : Type} (f : α → List AV) {x : Operand} {k : Nat} (ho : o.op = .assign x ∨ o.op = .move x := by first | exact .inl rfl | exact .inr rfl) (hx : s.ev x = .v (.slice none 0 k) := by exact rfl)
    (hdd : o.dst = d := by conv => lhs; whnf) (hd : d.all (Nat.blt · n) = true := by exact rfl) : OpOk Try.prog n o s (s.put d (.fz lv ([] : List α).length (cl f []))) := ok_nilfz lv ho hx hdd hd
theorem q_nilrow (id esz : Nat) {α : Type} (f : α → List AV) {x : Operand} (ho : o.op = .assign x ∨ o.op = .move x := by first | exact .inl rfl | exact .inr rfl) (hx : s.ev x = .v (.slice none 0 0) := by exact rfl)
    (hid : s.h id = none := by exact rfl) (hdd : o.dst = d := by conv => lhs; whnf) (hd : d.all (Nat.blt · n) = true := by exact rfl) :
    OpOk Try.prog n o s ((s.seth id (some (.row (cl f []) esz 0))).put d (.sl id 0 0 ([] : List α).length esz)) := ok_nilrow id esz ho hx hid hdd hd
section bin
variable {t u : TypeId} {x y : Operand} {k : IntKind} {a b : Int}
theorem q_add (ho : o.op = .binOp .add t x y u := by exact rfl) (hx : s.ev x = i64 a := by exact rfl) (hy : s.ev y = i64 b := by exact rfl)
    (h1 : -9223372036854775808 ≤ a + b := by first | omega | decide | (simp; omega) | (simp [*]; done)) (h2 : a + b ≤ 9223372036854775807 := by first | omega | decide | (simp; omega) | (simp [*]; done))
    (hdd : o.dst = d := by conv => lhs; whnf) (hd : d.all (Nat.blt · n) = true := by exact rfl) : OpOk Try.prog n o s (s.put d (i64 (a + b))) := ok_bin ho hx hy (bi_add h1 h2) hdd hd
theorem q_mul (ho : o.op = .binOp .mul t x y u := by exact rfl) (hx : s.ev x = i64 a := by exact rfl) (hy : s.ev y = i64 b := by exact rfl)
    (h1 : -9223372036854775808 ≤ a * b := by first | omega | decide | (simp; omega) | (simp [*]; done)) (h2 : a * b ≤ 9223372036854775807 := by first | omega | decide | (simp; omega) | (simp [*]; done))
    (hdd : o.dst = d := by conv => lhs; whnf) (hd : d.all (Nat.blt · n) = true := by exact rfl) : OpOk Try.prog n o s (s.put d (i64 (a * b))) := ok_bin ho hx hy (bi_mul h1 h2) hdd hd
theorem q_shl {k' : IntKind} (m : Nat) (ho : o.op = .binOp .shl t x y u := by exact rfl) (hx : s.ev x = i64 a := by exact rfl) (hy : s.ev y = .v (.int k' b) := by exact rfl)
    (hm : b = (m : Int) := by first | exact rfl | omega | simp) (h : m ≤ 64 := by first | decide | omega) (h1 : -9223372036854775808 ≤ a * 2 ^ m := by first | omega | decide | (simp; omega)) (h2 : a * 2 ^ m ≤ 9223372036854775807 := by first | omega | decide | (simp; omega))
    (hdd : o.dst = d := by conv => lhs; whnf) (hd : d.all (Nat.blt · n) = true := by exact rfl) : OpOk Try.prog n o s (s.put d (i64 (a * 2 ^ m))) := ok_bin ho hx hy (bi_shl hm h h1 h2) hdd hd
theorem q_or (ho : o.op = .binOp .or t x y u := by exact rfl) (hx : s.ev x = i64 a := by exact rfl) (hy : s.ev y = i64 b := by exact rfl)
    (h0 : 0 ≤ a ∧ a ≤ 9223372036854775807 := by first | omega | decide | (simp; omega)) (h1 : 0 ≤ b ∧ b ≤ 9223372036854775807 := by first | omega | decide | (simp; omega))
    (hdd : o.dst = d := by conv => lhs; whnf) (hd : d.all (Nat.blt · n) = true := by exact rfl) : OpOk Try.prog n o s (s.put d (i64 ((a.toNat ||| b.toNat : Nat) : Int))) := ok_bin ho hx hy (bi_or h0 h1) hdd hd
theorem q_eql (ho : o.op = .binOp .eql t x y u := by exact rfl) (hx : s.ev x = .v (.int k a) := by exact rfl) (hy : s.ev y = .v (.int k b) := by exact rfl)
    (hdd : o.dst = d := by conv => lhs; whnf) (hd : d.all (Nat.blt · n) = true := by exact rfl) : OpOk Try.prog n o s (s.put d (tf (decide (a = b)))) := ok_bin ho hx hy bd_eql hdd hd
theorem q_neq (ho : o.op = .binOp .neq t x y u := by exact rfl) (hx : s.ev x = .v (.int k a) := by exact rfl) (hy : s.ev y = .v (.int k b) := by exact rfl)
    (hdd : o.dst = d := by conv => lhs; whnf) (hd : d.all (Nat.blt · n) = true := by exact rfl) : OpOk Try.prog n o s (s.put d (tf (decide (¬ a = b)))) := ok_bin ho hx hy bd_neq hdd hd
theorem q_lss (ho : o.op = .binOp .lss t x y u := by exact rfl) (hx : s.ev x = .v (.int k a) := by exact rfl) (hy : s.ev y = .v (.int k b) := by exact rfl)
    (hdd : o.dst = d := by conv => lhs; whnf) (hd : d.all (Nat.blt · n) = true := by exact rfl) : OpOk Try.prog n o s (s.put d (tf (decide (a < b)))) := ok_bin ho hx hy br_lss hdd hd
theorem q_leq (ho : o.op = .binOp .leq t x y u := by exact rfl) (hx : s.ev x = .v (.int k a) := by exact rfl) (hy : s.ev y = .v (.int k b) := by exact rfl)
    (hdd : o.dst = d := by conv => lhs; whnf) (hd : d.all (Nat.blt · n) = true := by exact rfl) : OpOk Try.prog n o s (s.put d (tf (decide (a ≤ b)))) := ok_bin ho hx hy br_leq hdd hd
theorem q_geq (ho : o.op = .binOp .geq t x y u := by exact rfl) (hx : s.ev x = .v (.int k a) := by exact rfl) (hy : s.ev y = .v (.int k b) := by exact rfl)
    (hdd : o.dst = d := by conv => lhs; whnf) (hd : d.all (Nat.blt · n) = true := by exact rfl) : OpOk Try.prog n o s (s.put d (tf (decide (b ≤ a)))) := ok_bin ho hx hy br_geq hdd hd
variable {p q : UInt8}
theorem q_xor8 (p q : UInt8) (ho : o.op = .binOp .xor t x y u := by exact rfl) (hx : s.ev x = u8 p.toNat := by exact rfl) (hy : s.ev y = u8 q.toNat := by exact rfl)
    (hdd : o.dst = d := by conv => lhs; whnf) (hd : d.all (Nat.blt · n) = true := by exact rfl) : OpOk Try.prog n o s (s.put d (u8 (p ^^^ q).toNat)) := ok_bin ho hx hy bi_xor8 hdd hd
variable {l m : List UInt8}
theorem q_seql (ho : o.op = .binOp .eql t x y u := by exact rfl) (hx : s.ev x = str l := by exact rfl) (hy : s.ev y = str m := by exact rfl)
    (hdd : o.dst = d := by conv => lhs; whnf) (hd : d.all (Nat.blt · n) = true := by exact rfl) : OpOk Try.prog n o s (s.put d (tf (decide (l = m)))) := ok_bin ho hx hy bd_seql hdd hd
end bin
theorem q_not {t : TypeId} {x : Operand} {b : Bool} (ho : o.op = .unOp .not t x := by exact rfl) (hx : s.ev x = tf b := by exact rfl) (hdd : o.dst = d := by conv => lhs; whnf) (hd : d.all (Nat.blt · n) = true := by exact rfl) :
    OpOk Try.prog n o s (s.put d (tf (!b))) := ok_not ho hx hdd hd
theorem q_pick {c x y : Operand} {b : Bool} {z : AV} (ho : o.op = .pick c x y := by exact rfl) (hc : s.ev c = tf b := by exact rfl) (hz : (bif b then s.ev x else s.ev y) = z := by conv => lhs; whnf)
    (hdd : o.dst = d := by conv => lhs; whnf) (hd : d.all (Nat.blt · n) = true := by exact rfl) : OpOk Try.prog n o s (s.put d z) := ok_pick ho hc hz hdd hd
theorem q_extract {x : Operand} {k : Nat} {l : List AV} {y : AV} (ho : o.op = .extract x k := by exact rfl) (hx : s.ev x = .tup l := by exact rfl) (hk : l[k]? = some y := by exact rfl)
    (hdd : o.dst = d := by conv => lhs; whnf) (hd : d.all (Nat.blt · n) = true := by exact rfl) : OpOk Try.prog n o s (s.put d y) := ok_extract ho hx hk hdd hd
theorem q_nil {x : Operand} {y : AV} (ho : o.op = .nilCheck x := by exact rfl) (hx : s.ev x = y := by conv => lhs; whnf) (hy : (match y with | .ptr .. | .fp .. => true | _ => false) = true := by exact rfl)
    (hdd : o.dst = d := by conv => lhs; whnf) (hd : d.all (Nat.blt · n) = true := by exact rfl) : OpOk Try.prog n o s (s.put d y) := ok_nil ho hx hy hdd hd
section conv
variable {src dst : TypeId} {x : Operand} {k : IntKind} {a : Int} {i j : TI} {p : UInt8} {l : List UInt8}
theorem q_conv_8i (ho : o.op = .convert src dst x := by exact rfl) (hx : s.ev x = u8 p.toNat := by exact rfl) (hi : te.get src = some i := by exact rfl) (hj : te.get dst = some j := by exact rfl) (hk : j.k = .int .i64 := by exact rfl)
    (hdd : o.dst = d := by conv => lhs; whnf) (hd : d.all (Nat.blt · n) = true := by exact rfl) : OpOk Try.prog n o s (s.put d (i64 p.toNat)) := by
  have := p.toNat_lt
  exact ok_conv_i64 te_ok ho hx hi hj hk (by omega) (by omega) hdd hd
theorem q_conv_zs {e lv : Nat} {tj : TI} (ho : o.op = .convert src dst x := by exact rfl) (hx : s.ev x = .fz lv l.length (cl bc l) := by exact rfl) (hi : te.get src = some i := by exact rfl) (hk : i.k = .slice e := by exact rfl)
    (he : te.get e = some tj := by exact rfl) (hk2 : tj.k = .int .u8 := by exact rfl) (hj : te.get dst = some j := by exact rfl) (hk3 : j.k = .str := by exact rfl)
    (hdd : o.dst = d := by conv => lhs; whnf) (hd : d.all (Nat.blt · n) = true := by exact rfl) : OpOk Try.prog n o s (s.put d (str l)) :=
  ok_conv_bytes te_ok ho hx (.inr (.inl ⟨lv, rfl⟩)) hi hk he hk2 hj hk3 hdd hd
end conv
theorem q_len {t e : TypeId} {x : Operand} {m : Nat} {y : AV} {ti : TI} (ho : o.op = .call { callee := .builtin .len, args := #[x], argTypes := #[t] } := by exact rfl) (hx : s.ev x = y := by conv => lhs; whnf)
    (hm : y.len? = some m := by exact rfl) (ht : te.get t = some ti := by exact rfl) (hk : ti.k = .slice e := by exact rfl)
    (hdd : o.dst = d := by conv => lhs; whnf) (hd : d.all (Nat.blt · n) = true := by exact rfl) : OpOk Try.prog n o s (s.put d (i64 m)) := ok_len_sl te_ok ho hx hm ht hk hdd hd
end
end Go.Proofs.Ytahkngplohnliaa.Fw


set_option linter.unusedVariables false
set_option linter.unusedSimpArgs false
namespace Go.Proofs.Ytahkngplohnliaa.Fw
open Go.RowKit
theorem cl_at {α : Type} [Inhabited α] {f : α → List AV} {e : Nat} (hf : ∀ x, (f x).length = e) : ∀ {l : List α} {i : Nat}, i < l.length → ((cl f l).drop (i * e)).take e = f (l.getD i default)
  | [], i, h => by simp at h
  | a :: l, 0, _ => by
    rw [cl_cons, Nat.zero_mul, List.drop_zero, List.take_append_of_le_length (by rw [hf]; omega), List.take_of_length_le (by rw [hf]; omega)]
    rfl
  | a :: l, i + 1, h => by
    have := cl_at (l := l) (i := i) hf (by simpa using h)
    rw [cl_cons, Nat.add_mul, Nat.one_mul, Nat.add_comm (i * e) e, ← List.drop_drop, List.drop_append_of_le_length (by rw [hf]; omega), List.drop_of_length_le (l := f a) (by rw [hf]; omega), List.nil_append, this]
    rfl
theorem cl_set {α : Type} {f : α → List AV} {e : Nat} (hf : ∀ x, (f x).length = e) (a : α) : ∀ {l : List α} {i : Nat}, i < l.length → (cl f l).take (i * e) ++ f a ++ (cl f l).drop (i * e + (f a).length) = cl f (l.set i a)
  | [], i, h => by simp at h
  | b :: l, 0, _ => by
    rw [List.set_cons_zero, cl_cons, cl_cons, Nat.zero_mul, List.take_zero, List.nil_append, Nat.zero_add, hf, List.drop_append_of_le_length (by rw [hf]; omega), List.drop_of_length_le (l := f b) (by rw [hf]; omega), List.nil_append]
  | b :: l, i + 1, h => by
    have := cl_set (l := l) (i := i) hf a (by simpa using h)
    have e1 : (i + 1) * e = e + i * e := by rw [Nat.add_mul]; omega
    rw [List.set_cons_succ, cl_cons, cl_cons, e1, ← this, List.take_append, hf, List.take_of_length_le (by rw [hf]; omega), Nat.add_sub_cancel_left, Nat.add_assoc, ← List.drop_drop, List.drop_append_of_le_length (by rw [hf]; omega), List.drop_of_length_le (l := f b) (by rw [hf]; omega), List.nil_append]
    simp [List.append_assoc]
theorem cl_oks {α : Type} {f : α → List AV} {l : List α} {lv : Nat} (h : ∀ x, AV.oks lv (f x) = true) : AV.oks lv (cl f l) = true := AV.oks_of fun c hc => cl_mem (p := fun c => c.ok lv = true) (fun x _ c hc => AV.oks_iff.1 (h x) c hc) c hc
theorem cl_all {α : Type} {f : α → List AV} {l : List α} {p : AV → Bool} (h : ∀ x, (f x).all p = true) : ∀ c ∈ cl f l, p c = true := cl_mem fun x _ => List.all_eq_true.1 (h x)
inductive ObAt : AObj → Nat → List AV → Prop
  | box {c} : ObAt (.box c) 0 c
  | row {c e v} : ObAt (.row c e v) v c
theorem ObAt.at {ob : AObj} {v : Nat} {c : List AV} (h : ObAt ob v c) : ob.at v = some c := by
  cases h with
  | box => rfl
  | row =>
    simp only [AObj.at]
    rw [show Nat.beq v v = true from by simp]
    rfl
section
variable {n : Nat} {s : AS} {o : Oper} {d : Option Tmp} {Q : APost}
theorem q_conv_ls {src dst e id ver len : Nat} {x : Operand} {l : List UInt8} {i j tj : TI} {ob : AObj} (ho : o.op = .convert src dst x := by exact rfl) (hx : s.ev x = .sl id ver 0 len 1 := by exact rfl) (hob : s.h id = some ob := by exact rfl)
    (hat : ObAt ob ver (cl bc l) := by exact .row) (hlen : len = l.length := by first | exact rfl | (simp; done) | omega) (hi : te.get src = some i := by exact rfl) (hk : i.k = .slice e := by exact rfl)
    (he : te.get e = some tj := by exact rfl) (hk2 : tj.k = .int .u8 := by exact rfl) (hj : te.get dst = some j := by exact rfl) (hk3 : j.k = .str := by exact rfl)
    (hdd : o.dst = d := by conv => lhs; whnf) (hd : d.all (Nat.blt · n) = true := by exact rfl) : OpOk Try.prog n o s (s.put d (str l)) := by
  subst hlen
  exact ok_conv_bytes te_ok ho hx (.inr (.inr ⟨id, ver, 0, ob, _, rfl, hob, hat.at, by rw [List.drop_zero, List.take_of_length_le (by rw [bs_length]; omega)]⟩)) hi hk he hk2 hj hk3 hdd hd
inductive PtrTo (s : AS) (off sz : Nat) : AV → AV → Prop
  | fp {lv cells} (h : ((cells.drop off).take sz).length = sz) : PtrTo s off sz (.fp lv cells) (.fp lv ((cells.drop off).take sz))
  | ptr {id ver po ob cells} (hob : s.h id = some ob) (hat : ObAt ob ver cells) : PtrTo s off sz (.ptr id ver po) (.ptr id ver (po + off))
theorem q_fa {t ft : TypeId} {x : Operand} {f off : Nat} {l : List (Nat × TypeId)} {ti tj : TI} {y z z' : AV} (ho : o.op = .fieldAddr t x f := by exact rfl) (hx : s.ev x = y := by conv => lhs; whnf)
    (ht : te.get t = some ti := by exact rfl) (hk : ti.k = .struct l := by exact rfl) (hf : l[f]? = some (off, ft) := by exact rfl) (hj : te.get ft = some tj := by exact rfl) (hp : 0 < tj.size := by exact Nat.le_of_ble_eq_true rfl)
    (hz : PtrTo s off tj.size y z := by first | exact .fp rfl | exact .ptr rfl .box | exact .ptr rfl .row) (hz' : z = z' := by conv => lhs; whnf)
    (hdd : o.dst = d := by conv => lhs; whnf) (hd : d.all (Nat.blt · n) = true := by exact rfl) : OpOk Try.prog n o s (s.put d z') := by
  subst hz'
  cases hz with
  | fp h => exact ok_fieldAddr_fp te_ok ho hx ht hk hf hj hp rfl h hdd hd
  | ptr hob hat => exact ok_fieldAddr_ptr te_ok ho hx ht hk hf hj hp ⟨_, hob, by cases hat <;> rfl⟩ hdd hd
inductive LoadTo (s : AS) (sz : Nat) : AV → List AV → Prop
  | fp {lv cells} (h : cells.length = sz) : LoadTo s sz (.fp lv cells) cells
  | ptr {id ver po ob cells} (hob : s.h id = some ob) (hat : ObAt ob ver cells) (h : ((cells.drop po).take sz).length = sz) : LoadTo s sz (.ptr id ver po) ((cells.drop po).take sz)
  | el {α : Type} [Inhabited α] {id ver j ob} {f : α → List AV} {l : List α} (hob : s.h id = some ob) (hat : ObAt ob ver (cl f l)) (hf : ∀ x, (f x).length = sz) (hj : j < l.length) : LoadTo s sz (.ptr id ver (j * sz)) (f (l.getD j default))
  | el1 {α : Type} [Inhabited α] {id ver j ob} {f : α → List AV} {l : List α} (hsz : sz = 1) (hob : s.h id = some ob) (hat : ObAt ob ver (cl f l)) (hf : ∀ x, (f x).length = 1) (hj : j < l.length) : LoadTo s sz (.ptr id ver j) (f (l.getD j default))
theorem q_load {t : TypeId} {x : Operand} {ti : TI} {y z : AV} {cs : List AV} (ho : o.op = .load t x := by exact rfl) (hx : s.ev x = y := by conv => lhs; whnf) (ht : te.get t = some ti := by exact rfl) (hp : 0 < ti.size := by exact Nat.le_of_ble_eq_true rfl)
    (hz : LoadTo s ti.size y cs := by first | exact .fp rfl | exact .ptr rfl .box rfl | exact .ptr rfl .row rfl | exact .el rfl .row (fun _ => rfl) (by first | omega | (simp; omega)) | exact .el rfl .box (fun _ => rfl) (by first | omega | (simp; omega)) | exact .el1 rfl rfl .row (fun _ => rfl) (by first | omega | (simp; omega)) | exact .el1 rfl rfl .box (fun _ => rfl) (by first | omega | (simp; omega)))
    (hy : mkAV ti.k.agg cs = z := by conv => lhs; whnf) (hdd : o.dst = d := by conv => lhs; whnf) (hd : d.all (Nat.blt · n) = true := by exact rfl) : OpOk Try.prog n o s (s.put d z) := by
  cases hz with
  | fp h => exact ok_load_fp te_ok ho hx ht h hp hy hdd hd
  | ptr hob hat h => exact ok_load_ptr te_ok ho hx hob hat.at ht rfl h hp hy hdd hd
  | el hob hat hf hj =>
    have e := cl_at hf hj
    exact ok_load_ptr te_ok ho hx hob hat.at ht e (hf _) hp hy hdd hd
  | @el1 α _ id ver j ob f l hsz hob hat hf hj =>
    have e := cl_at (i := j) hf hj
    rw [Nat.mul_one] at e
    exact ok_load_ptr te_ok ho hx hob hat.at ht (by rw [hsz]; exact e) (by rw [hsz]; exact hf _) hp hy hdd hd
inductive IxTo (s : AS) (i e : Nat) : AV → AV → Prop
  | fz {α : Type} [Inhabited α] {lv} {f : α → List AV} {l : List α} (hf : ∀ x, (f x).length = e) : IxTo s i e (.fz lv l.length (cl f l)) (.fp lv (f (l.getD i default)))
  | sl0 {id ver len ob cells} (hob : s.h id = some ob) (hat : ObAt ob ver cells) : IxTo s i e (.sl id ver 0 len e) (.ptr id ver (i * e))
  | sl {id ver off len ob cells} (hob : s.h id = some ob) (hat : ObAt ob ver cells) : IxTo s i e (.sl id ver off len e) (.ptr id ver (off + i * e))
theorem q_ix {t e : TypeId} {x y : Operand} {k : IntKind} {i : Int} {ti tj : TI} {a z : AV} {m : Nat} (ho : o.op = .indexAddr t x y := by exact rfl) (hx : s.ev x = a := by conv => lhs; whnf) (hy : s.ev y = .v (.int k i) := by exact rfl)
    (ht : te.get t = some ti := by exact rfl) (hk : ti.k = .slice e := by exact rfl) (he : te.get e = some tj := by exact rfl) (hm : a.len? = some m := by exact rfl)
    (h0 : 0 ≤ i := by first | omega | decide | (simp; omega)) (h1 : i < m := by first | omega | decide | (simp; omega)) (hp : 0 < tj.size := by exact Nat.le_of_ble_eq_true rfl)
    (hz : IxTo s i.toNat tj.size a z := by first | exact .fz (fun _ => rfl) | exact .sl0 rfl .row | exact .sl0 rfl .box | exact .sl rfl .row | exact .sl rfl .box)
    (hdd : o.dst = d := by conv => lhs; whnf) (hd : d.all (Nat.blt · n) = true := by exact rfl) : OpOk Try.prog n o s (s.put d z) := by
  cases hz with
  | fz hf =>
    simp only [AV.len?, Option.some.injEq] at hm
    subst hm
    exact ok_indexAddr_fz te_ok ho hx hy ht hk he h0 h1 (cl_at hf (by omega)) (hf _) hp hdd hd
  | sl0 hob hat =>
    simp only [AV.len?, Option.some.injEq] at hm
    subst hm
    have := ok_indexAddr_sl (P := Try.prog) (n := n) (s := s) te_ok ho hx hy ht hk he h0 h1 hob hat.at hdd hd
    simpa using this
  | sl hob hat =>
    simp only [AV.len?, Option.some.injEq] at hm
    subst hm
    exact ok_indexAddr_sl te_ok ho hx hy ht hk he h0 h1 hob hat.at hdd hd
inductive StoreTo (s : AS) : AV → List AV → AObj → Nat → Prop
  | ptr {id ver po ob cells cs c'} (hob : s.h id = some ob) (hat : ObAt ob ver cells) (hb : po + cs.length ≤ cells.length) (hp : 0 < cells.length) (hc : cells.take po ++ cs ++ cells.drop (po + cs.length) = c') :
      StoreTo s (.ptr id ver po) cs (ob.withCells c') id
  | whole {id ver ob cells cs} (hob : s.h id = some ob) (hat : ObAt ob ver cells) (hl : cs.length = cells.length) (hp : 0 < cells.length) : StoreTo s (.ptr id ver 0) cs (ob.withCells cs) id
  | el {α : Type} {id ver j sz ob cs} {f : α → List AV} {l : List α} {a : α} (hob : s.h id = some ob) (hat : ObAt ob ver (cl f l)) (hcs : f a = cs) (hf : ∀ x, (f x).length = sz) (h0 : 0 < sz) (hj : j < l.length) : StoreTo s (.ptr id ver (j * sz)) cs (ob.withCells (cl f (l.set j a))) id
  | el1 {α : Type} {id ver j ob cs} {f : α → List AV} {l : List α} {a : α} (hob : s.h id = some ob) (hat : ObAt ob ver (cl f l)) (hcs : f a = cs) (hf : ∀ x, (f x).length = 1) (hj : j < l.length) : StoreTo s (.ptr id ver j) cs (ob.withCells (cl f (l.set j a))) id
theorem q_store {t : TypeId} {x y : Operand} {id : Nat} {ob' ob'' : AObj} {ti : TI} {p v : AV} {cs : List AV} (ho : o.op = .store t x y := by exact rfl) (hx : s.ev x = p := by conv => lhs; whnf) (hy : s.ev y = v := by conv => lhs; whnf)
    (hf : v.flat = some cs := by exact rfl) (h1 : cs.all AV.one = true := by exact rfl) (ht : te.get t = some ti := by exact rfl) (hl : cs.length = ti.size := by exact rfl)
    (hs : StoreTo s p cs ob' id := by first | exact .whole rfl .box rfl (Nat.le_of_ble_eq_true rfl) | exact .ptr rfl .box (Nat.le_of_ble_eq_true rfl) (Nat.le_of_ble_eq_true rfl) (by first | (simp only [List.take_succ_cons, List.take_zero, List.drop_succ_cons, List.drop_zero, List.drop_nil, List.take_nil, List.nil_append, List.cons_append, List.append_nil]; rfl) | exact rfl) | exact .el rfl .row rfl (fun _ => rfl) (Nat.le_of_ble_eq_true rfl) (by first | omega | (simp; omega)) | exact .el rfl .box rfl (fun _ => rfl) (Nat.le_of_ble_eq_true rfl) (by first | omega | (simp; omega)) | exact .el1 rfl .row rfl (fun _ => rfl) (by first | omega | (simp; omega)) | exact .el1 rfl .box rfl (fun _ => rfl) (by first | omega | (simp; omega)))
    (hw : ob' = ob'' := by conv => lhs; whnf) (hdd : o.dst = d := by conv => lhs; whnf) (hd : d.all (Nat.blt · n) = true := by exact rfl) : OpOk Try.prog n o s ((s.seth id (some ob'')).put d (.v undef)) := by
  subst hw
  cases hs with
  | ptr hob hat hb hp hc => exact ok_store_ptr te_ok ho hx hy hf h1 hob hat.at ht hl hb hp hc hdd hd
  | @whole _ ver ob cells _ hob hat hl2 hp => exact ok_store_ptr te_ok ho hx hy hf h1 hob hat.at ht hl (by omega) hp (by rw [List.take_zero, List.nil_append, List.drop_of_length_le (by omega), List.append_nil]) hdd hd
  | @el α _ ver j sz ob _ f l a hob hat hcs hf2 h0 hj =>
    subst hcs
    have h3 := cl_length hf2 l
    have h4 : (j + 1) * sz ≤ l.length * sz := Nat.mul_le_mul_right sz hj
    rw [Nat.add_mul, Nat.one_mul] at h4
    exact ok_store_ptr te_ok ho hx hy hf h1 hob hat.at ht hl (by rw [hf2, h3]; omega) (by rw [h3]; omega) (cl_set hf2 a hj) hdd hd
  | @el1 α _ ver j ob _ f l a hob hat hcs hf2 hj =>
    subst hcs
    have h3 := cl_length hf2 l
    have h4 := cl_set hf2 a hj
    rw [Nat.mul_one] at h4
    exact ok_store_ptr te_ok ho hx hy hf h1 hob hat.at ht hl (by rw [hf2, h3]; omega) (by rw [h3]; omega) h4 hdd hd
theorem q_box (id : Nat) {t : TypeId} {x : Operand} {y : AV} {cs : List AV} (ho : o.op = .box t x := by exact rfl) (hx : s.ev x = y := by conv => lhs; whnf) (hf : y.flat = some cs := by exact rfl) (hid : s.h id = none := by exact rfl)
    (hdd : o.dst = d := by conv => lhs; whnf) (hd : d.all (Nat.blt · n) = true := by exact rfl) : OpOk Try.prog n o s ((s.seth id (some (.box cs))).put d (.ptr id 0 0)) := ok_box te_ok ho hx hf hid hdd hd
theorem q_build (vals : List (Nat × AV)) {t : TypeId} {parts : Array (Nat × Operand)} {l : List (Nat × TypeId)} {ti : TI} {cs cs' : List AV} (ho : o.op = .build t parts := by exact rfl)
    (hv : EvL s parts.toList vals := by repeat' (first | exact trivial | refine ⟨rfl, ?_, ?_⟩ | (conv => lhs; whnf))) (ht : te.get t = some ti := by exact rfl) (hk : ti.k = .struct l := by exact rfl)
    (hall : (l.all fun p => (te.get p.2).isSome) = true := by exact rfl) (hcs : fillAV (structPlace te l) (ti.zero.map fun z => AV.v z.val) vals = some cs := by exact rfl)
    (hc' : cs = cs' := by first | (simp only [List.take_succ_cons, List.take_zero, List.drop_succ_cons, List.drop_zero, List.drop_nil, List.take_nil, List.nil_append, List.cons_append, List.append_nil, List.map_cons, List.map_nil, ZC.val, repZ]; rfl) | exact rfl)
    (hdd : o.dst = d := by conv => lhs; whnf) (hd : d.all (Nat.blt · n) = true := by exact rfl) : OpOk Try.prog n o s (s.put d (.agg cs')) := ok_build_struct2 te_ok ho hv ht hk hall hcs hc' hdd hd
theorem q_bs (id : Nat) {α : Type} (f : α → List AV) (xs : List α) (vals : List (Nat × AV)) {t e : TypeId} {m : Nat} {parts : Array (Nat × Operand)} {ti tj : TI} {cs : List AV} (ho : o.op = .buildSlice t m parts := by exact rfl)
    (hv : EvL s parts.toList vals := by repeat' (first | exact trivial | refine ⟨rfl, ?_, ?_⟩ | (conv => lhs; whnf))) (ht : te.get t = some ti := by exact rfl) (hk : ti.k = .slice e := by exact rfl) (he : te.get e = some tj := by exact rfl)
    (hid : s.h id = none := by exact rfl) (hcs : fillAV (arrPlace tj.size) (repZ tj.zero m) vals = some cs := by exact rfl)
    (hc' : cs = cl f xs := by first | (simp only [List.take_succ_cons, List.take_zero, List.drop_succ_cons, List.drop_zero, List.drop_nil, List.take_nil, List.nil_append, List.cons_append, List.append_nil, List.map_cons, List.map_nil, ZC.val, repZ]; exact rfl) | exact rfl)
    (hz : Nat.beq tj.zero.length tj.size = true := by exact rfl) (hsm : Nat.ble (m * tj.size) 1000 = true := by exact rfl) (hm : m = xs.length := by exact rfl)
    (hdd : o.dst = d := by conv => lhs; whnf) (hd : d.all (Nat.blt · n) = true := by exact rfl) : OpOk Try.prog n o s ((s.seth id (some (.row (cl f xs) tj.size 0))).put d (.sl id 0 0 xs.length tj.size)) := by
  subst hm
  exact ok_buildSlice2 te_ok ho hv ht hk he hid hcs hc' hz hsm hdd hd
theorem q_bsr (id : Nat) (vals : List (Nat × AV)) {t e : TypeId} {m : Nat} {parts : Array (Nat × Operand)} {ti tj : TI} {cs cs' : List AV} (ho : o.op = .buildSlice t m parts := by exact rfl)
    (hv : EvL s parts.toList vals := by repeat' (first | exact trivial | refine ⟨rfl, ?_, ?_⟩ | (conv => lhs; whnf))) (ht : te.get t = some ti := by exact rfl) (hk : ti.k = .slice e := by exact rfl) (he : te.get e = some tj := by exact rfl)
    (hid : s.h id = none := by exact rfl) (hcs : fillAV (arrPlace tj.size) (repZ tj.zero m) vals = some cs := by exact rfl)
    (hc' : cs = cs' := by first | (simp only [List.take_succ_cons, List.take_zero, List.drop_succ_cons, List.drop_zero, List.drop_nil, List.take_nil, List.nil_append, List.cons_append, List.append_nil, List.map_cons, List.map_nil, ZC.val, repZ]; exact rfl) | exact rfl)
    (hz : Nat.beq tj.zero.length tj.size = true := by exact rfl) (hsm : Nat.ble (m * tj.size) 1000 = true := by exact rfl)
    (hdd : o.dst = d := by conv => lhs; whnf) (hd : d.all (Nat.blt · n) = true := by exact rfl) : OpOk Try.prog n o s ((s.seth id (some (.row cs' tj.size 0))).put d (.sl id 0 0 m tj.size)) :=
  ok_buildSlice2 te_ok ho hv ht hk he hid hcs hc' hz hsm hdd hd
def lowB (s : AS) : Option Operand → Int → Prop
  | none, i => i = 0
  | some x, i => ∃ k, s.ev x = .v (.int k i)
def highB (s : AS) (m : Nat) : Option Operand → Int → Prop
  | none, j => j = m
  | some x, j => ∃ k, s.ev x = .v (.int k j)
inductive SlTo (i j : Nat) (e : Nat) : Option Operand → Option Operand → AV → AV → Prop
  | fz_all {α : Type} {lv} {f : α → List AV} {l : List α} (hf : ∀ x, (f x).length = e) : SlTo i j e none none (.fz lv l.length (cl f l)) (.fz lv l.length (cl f l))
  | fz_hi {x} {α : Type} {lv} {f : α → List AV} {l : List α} (hf : ∀ x, (f x).length = e) : SlTo i j e none (some x) (.fz lv l.length (cl f l)) (.fz lv (l.take j).length (cl f (l.take j)))
  | fz_lo {x} {α : Type} {lv} {f : α → List AV} {l : List α} (hf : ∀ x, (f x).length = e) : SlTo i j e (some x) none (.fz lv l.length (cl f l)) (.fz lv (l.drop i).length (cl f (l.drop i)))
  | fz {lo hi} {α : Type} {lv} {f : α → List AV} {l : List α} (hf : ∀ x, (f x).length = e) : SlTo i j e lo hi (.fz lv l.length (cl f l)) (.fz lv ((l.take j).drop i).length (cl f ((l.take j).drop i)))
  | sl_all {id ver off len} : SlTo i j e none none (.sl id ver off len e) (.sl id ver off len e)
  | sl_hi {x} {id ver off len} : SlTo i j e none (some x) (.sl id ver off len e) (.sl id ver off j e)
  | sl_lo {x} {id ver off len} : SlTo i j e (some x) none (.sl id ver off len e) (.sl id ver (off + i * e) (len - i) e)
  | sl {lo hi} {id ver off len} : SlTo i j e lo hi (.sl id ver off len e) (.sl id ver (off + i * e) (j - i) e)
inductive SlBase (i j : Nat) (e : Nat) : AV → AV → Prop
  | fz {α : Type} {lv} {f : α → List AV} {l : List α} (hf : ∀ x, (f x).length = e) : SlBase i j e (.fz lv l.length (cl f l)) (.fz lv ((l.take j).drop i).length (cl f ((l.take j).drop i)))
  | sl {id ver off len} : SlBase i j e (.sl id ver off len e) (.sl id ver (off + i * e) (j - i) e)
theorem SlTo.base {i j e : Nat} {lo hi : Option Operand} {a z : AV} {m : Nat} (h : SlTo i j e lo hi a z) (hm : a.len? = some m) (h1 : lo = none → i = 0) (h2 : hi = none → j = m) : SlBase i j e a z := by
  cases h with
  | @fz_all α lv f l hf =>
    simp only [AV.len?, Option.some.injEq] at hm
    obtain rfl := h1 rfl
    obtain rfl := (h2 rfl).trans hm.symm
    have := SlBase.fz (i := 0) (j := l.length) (lv := lv) (l := l) hf
    simpa using this
  | @fz_hi x α lv f l hf =>
    obtain rfl := h1 rfl
    have := SlBase.fz (i := 0) (j := j) (lv := lv) (l := l) hf
    simpa using this
  | @fz_lo x α lv f l hf =>
    simp only [AV.len?, Option.some.injEq] at hm
    obtain rfl := (h2 rfl).trans hm.symm
    have := SlBase.fz (i := i) (j := l.length) (lv := lv) (l := l) hf
    simpa using this
  | fz hf => exact .fz hf
  | @sl_all id ver off len =>
    simp only [AV.len?, Option.some.injEq] at hm
    obtain rfl := h1 rfl
    obtain rfl := (h2 rfl).trans hm.symm
    have := SlBase.sl (i := 0) (j := j) (e := e) (id := id) (ver := ver) (off := off) (len := j)
    simpa using this
  | @sl_hi x id ver off len =>
    obtain rfl := h1 rfl
    have := SlBase.sl (i := 0) (j := j) (e := e) (id := id) (ver := ver) (off := off) (len := len)
    simpa using this
  | @sl_lo x id ver off len =>
    simp only [AV.len?, Option.some.injEq] at hm
    obtain rfl := (h2 rfl).trans hm.symm
    exact .sl
  | sl => exact .sl
theorem q_sl {t e : TypeId} {x : Operand} {lo hi mx : Option Operand} {a z : AV} {m : Nat} {i j : Int} {ti tj : TI} (ho : o.op = .slice t x lo hi mx := by exact rfl) (hx : s.ev x = a := by conv => lhs; whnf)
    (ht : te.get t = some ti := by exact rfl) (hk : ti.k = .slice e := by exact rfl) (he : te.get e = some tj := by exact rfl) (hm : a.len? = some m := by exact rfl) (hl : lowB s lo i := by first | exact ⟨_, rfl⟩ | exact rfl) (hh : highB s m hi j := by first | exact ⟨_, rfl⟩ | exact rfl)
    (h0 : 0 ≤ i := by first | omega | decide | (simp; omega)) (h1 : i ≤ j := by first | omega | decide | (simp; omega)) (h2 : j ≤ m := by first | omega | decide | (simp; omega))
    (hp : 0 < tj.size := by exact Nat.le_of_ble_eq_true rfl) (hz : SlTo i.toNat j.toNat tj.size lo hi a z := by first | exact .fz_all (fun _ => rfl) | exact .fz_hi (fun _ => rfl) | exact .fz_lo (fun _ => rfl) | exact .fz (fun _ => rfl) | exact .sl_all | exact .sl_hi | exact .sl_lo | exact .sl) (hmx : mx = none ∨ (mx = hi ∧ mx.isSome = true ∧ ∃ lv k c, a = .fz lv k c) := by first | exact .inl rfl | exact .inr ⟨rfl, rfl, _, _, _, rfl⟩)
    (hob : (match a with | .sl id ver _ _ _ => ∃ ob cells, s.h id = some ob ∧ ObAt ob ver cells | _ => True) := by first | exact trivial | exact ⟨_, _, rfl, .row⟩ | exact ⟨_, _, rfl, .box⟩)
    (hdd : o.dst = d := by conv => lhs; whnf) (hd : d.all (Nat.blt · n) = true := by exact rfl) : OpOk Try.prog n o s (s.put d z) := by
  have b1 : Bnd s hi m j.toNat := by
    cases hi with
    | none => simp only [highB] at hh; subst hh; exact Int.toNat_natCast m
    | some x => obtain ⟨k, hh⟩ := hh; exact ⟨k, j, hh, by omega, rfl⟩
  have b2 : Bnd s lo 0 i.toNat := by
    cases lo with
    | none => simp only [lowB] at hl; subst hl; rfl
    | some x => obtain ⟨k, hl⟩ := hl; exact ⟨k, i, hl, h0, rfl⟩
  have hz := hz.base hm (fun h => by subst h; simp only [lowB] at hl; omega) (fun h => by subst h; simp only [highB] at hh; omega)
  cases hz with
  | @fz α lv f l hf =>
    simp only [AV.len?, Option.some.injEq] at hm
    subst hm
    have e1 : ((l.take j.toNat).drop i.toNat).length = j.toNat - i.toNat := by
      rw [List.length_drop, List.length_take, Nat.min_eq_left (by omega)]
    rw [e1]
    refine ok_slice_fz te_ok ho hx ht hk he ?_ b1 b2 (by omega) (by omega) (cl_length hf l) ?_ hp hdd hd
    · rcases hmx with h | ⟨h, h3, _⟩
      · exact .inl h
      · exact .inr ⟨h, h3⟩
    · rw [cl_drop hf, cl_take hf, List.take_drop]
      congr 3
      omega
  | sl =>
    simp only [AV.len?, Option.some.injEq] at hm
    subst hm
    obtain ⟨ob, cells, hob, hat⟩ := hob
    rcases hmx with h | ⟨_, _, _, _, _, h⟩
    · subst h
      exact ok_slice_sl te_ok ho hx ht hk he rfl b1 b2 (by omega) (by omega) hob hat.at hdd hd
    · cases h
inductive SrcTo (s : AS) (y : Operand) : {α : Type} → (α → List AV) → Nat → List α → Prop
  | str {l : List UInt8} (hy : s.ev y = str l) : SrcTo s y bc 1 l
  | nil {α : Type} {f : α → List AV} {e k : Nat} (hy : s.ev y = .v (.slice none 0 k)) : SrcTo s y f e []
  | fz {α : Type} {f : α → List AV} {e lv : Nat} {l : List α} (hy : s.ev y = .fz lv l.length (cl f l)) (hf : ∀ x, (f x).length = e) : SrcTo s y f e l
  | sl {α : Type} {f : α → List AV} {e id ver : Nat} {l : List α} {ob : AObj} (hy : s.ev y = .sl id ver 0 l.length e) (hob : s.h id = some ob) (hat : ObAt ob ver (cl f l)) (hf : ∀ x, (f x).length = e) : SrcTo s y f e l
theorem SrcTo.src {y : Operand} {α : Type} {f : α → List AV} {e : Nat} {m : List α} (h : SrcTo s y f e m) : Src Try.prog n s y e m.length (cl f m) := by
  cases h with
  | str hy => exact src_str hy (bs_map _).symm
  | nil hy => exact src_nil hy
  | fz hy hf => exact src_fz hy (cl_length hf _)
  | sl hy hob hat hf => exact src_sl hy hob hat.at (by rw [List.drop_zero, List.take_of_length_le (by rw [cl_length hf]; omega)]) (cl_length hf _)
theorem q_app {t t2 e : TypeId} {x y : Operand} {id ver esz bt : Nat} {α : Type} {f : α → List AV} {l m : List α} {ti tj tk : TI} (ho : o.op = .call { callee := .builtin .append, args := #[x, y], argTypes := #[t, t2] } := by exact rfl)
    (hx : s.ev x = .sl id ver 0 l.length esz := by exact rfl) (hob : s.h id = some (.row (cl f l) esz ver) := by exact rfl) (ht : te.get t = some ti := by exact rfl) (hk : ti.k = .slice e := by exact rfl) (he : te.get e = some tj := by exact rfl)
    (hesz : tj.size = esz := by exact rfl) (hbt : tj.bytes = bt := by conv => lhs; whnf) (ht2 : te.get t2 = some tk := by exact rfl) (hk2 : (match tk.k with | .slice _ | .str => true | _ => false) = true := by exact rfl)
    (hsrc : SrcTo s y f esz m := by first | exact .sl rfl rfl .row (fun _ => rfl) | exact .fz rfl (fun _ => rfl) | exact .str rfl | exact .nil rfl) (hf : ∀ x, (f x).length = esz := by exact fun _ => rfl) (h1 : ∀ x, (f x).all AV.one = true := by exact fun _ => rfl)
    (hb : (l.length + m.length) * bt ≤ 140737488355328 := by first | omega | (simp; omega)) (hbp : 0 < bt := by exact Nat.le_of_ble_eq_true rfl)
    (hdd : o.dst = d := by conv => lhs; whnf) (hd : d.all (Nat.blt · n) = true := by exact rfl) : OpOk Try.prog n o s ((s.seth id (some (.row (cl f (l ++ m)) esz (ver + 1)))).put d (.sl id (ver + 1) 0 (l ++ m).length esz)) := by
  subst hesz
  subst hbt
  rw [List.length_append, cl_append]
  have hle : l.length + m.length ≤ (l.length + m.length) * tj.bytes := Nat.le_mul_of_pos_right _ hbp
  exact ok_append_sl te_ok ho hx hob (by rw [Nat.zero_add, cl_length hf]) ht hk he rfl ht2 hk2 hsrc.src (cl_all h1) (by rw [List.drop_zero]) hb (by omega) hdd hd
theorem q_appo (a : Nat) {t t2 e : TypeId} {x y : Operand} {id ver off len : Nat} {α : Type} {f : α → List AV} {l m : List α} {esz bt : Nat} {ti tj tk : TI} (ho : o.op = .call { callee := .builtin .append, args := #[x, y], argTypes := #[t, t2] } := by exact rfl)
    (hx : s.ev x = .sl id ver off len esz := by exact rfl) (hob : s.h id = some (.row (cl f l) esz ver) := by exact rfl) (ha : off = a * esz := by first | exact rfl | omega | (simp; done)) (hle : a ≤ l.length := by omega) (hlen : len = l.length - a := by first | exact rfl | omega | (simp; omega))
    (ht : te.get t = some ti := by exact rfl) (hk : ti.k = .slice e := by exact rfl) (he : te.get e = some tj := by exact rfl)
    (hesz : tj.size = esz := by exact rfl) (hbt : tj.bytes = bt := by conv => lhs; whnf) (ht2 : te.get t2 = some tk := by exact rfl) (hk2 : (match tk.k with | .slice _ | .str => true | _ => false) = true := by exact rfl)
    (hsrc : SrcTo s y f esz m := by first | exact .sl rfl rfl .row (fun _ => rfl) | exact .fz rfl (fun _ => rfl) | exact .str rfl | exact .nil rfl) (hf : ∀ x, (f x).length = esz := by exact fun _ => rfl) (h1 : ∀ x, (f x).all AV.one = true := by exact fun _ => rfl)
    (hb : (l.length - a + m.length) * bt ≤ 140737488355328 := by first | omega | (simp; omega)) (hbp : 0 < bt := by exact Nat.le_of_ble_eq_true rfl)
    (hdd : o.dst = d := by conv => lhs; whnf) (hd : d.all (Nat.blt · n) = true := by exact rfl) : OpOk Try.prog n o s ((s.seth id (some (.row (cl f (l.drop a ++ m)) esz (ver + 1)))).put d (.sl id (ver + 1) 0 (l.drop a ++ m).length esz)) := by
  subst hesz
  subst hbt
  subst ha
  subst hlen
  rw [List.length_append, cl_append, List.length_drop]
  have hle2 : l.length - a + m.length ≤ (l.length - a + m.length) * tj.bytes := Nat.le_mul_of_pos_right _ hbp
  exact ok_append_sl te_ok ho hx hob (by rw [← Nat.add_mul, cl_length hf]; congr 1; omega) ht hk he rfl ht2 hk2 hsrc.src (cl_all h1) (by rw [cl_drop hf]) hb (by omega) hdd hd
end
end Go.Proofs.Ytahkngplohnliaa.Fw


set_option linter.unusedVariables false
set_option linter.unusedSimpArgs false
namespace Go.Proofs.Ytahkngplohnliaa.Fw
open Go.RowKit
mutual
theorem AV.refs_mono {S S' : Nat → Bool} (h : ∀ i, S i = true → S' i = true) : ∀ {x : AV}, x.refs S = true → x.refs S' = true
  | .v _, _ | .any, _ | .bl, _ | .fz .., _ | .fp .., _ => rfl
  | .ptr .., h1 | .sl .., h1 | .mp .., h1 | .dp .., h1 => by
    simp only [AV.refs] at h1 ⊢
    exact h _ h1
  | .agg cs, h1 | .tup cs, h1 => by
    simp only [AV.refs] at h1 ⊢
    exact AV.refss_mono h h1
  | .fn _ a b, h1 => by
    simp only [AV.refs, Bool.and_eq_true] at h1 ⊢
    exact ⟨AV.refss_mono h h1.1, AV.refss_mono h h1.2⟩
  | .ifc _ x, h1 => by
    simp only [AV.refs] at h1 ⊢
    exact AV.refs_mono h h1
theorem AV.refss_mono {S S' : Nat → Bool} (h : ∀ i, S i = true → S' i = true) : ∀ {x : List AV}, AV.refss S x = true → AV.refss S' x = true
  | [], _ => rfl
  | c :: cs, h1 => by
    simp only [AV.refss, Bool.and_eq_true] at h1 ⊢
    exact ⟨AV.refs_mono h h1.1, AV.refss_mono h h1.2⟩
end
theorem ObjIn.mono {S S' : Nat → Bool} (h : ∀ i, S i = true → S' i = true) {ob : AObj} (k : ObjIn S ob) : ObjIn S' ob := by
  cases ob with
  | box c => exact AV.refss_mono h k
  | row c e v => exact AV.refss_mono h k
  | map es => exact fun p hp => AV.refs_mono h (k p hp)
theorem refss_all {S : Nat → Bool} {cs : List AV} (h : ∀ (j : Nat) c, cs[j]? = some c → c.refs S = true) : AV.refss S cs = true := AV.refss_iff.2 fun c hc => by
  obtain ⟨j, hj⟩ := List.getElem?_of_mem hc
  exact h j c hj
theorem Rep.refs_dom {w : World} {φ : PMap} {Λ : Lent} {x : AV} {v : Value} (h : Rep w φ Λ x v) : x.refs (fun id => (φ id).isSome) = true := by
  induction h with
  | v => rfl
  | any => rfl
  | bl => rfl
  | fz0 => rfl
  | fz => rfl
  | fp => rfl
  | agg vf h1 h2 h3 ih => exact refss_all ih
  | tup vf h1 h2 h3 ih => exact refss_all ih
  | fn vf wf h1 h2 h3 h4 h5 h6 ih1 ih2 =>
    simp only [AV.refs, Bool.and_eq_true]
    exact ⟨refss_all ih1, refss_all ih2⟩
  | ifc h ih => simpa only [AV.refs] using ih
  | ptr h => simp only [AV.refs, h, Option.isSome_some]
  | ptrx h => simp only [AV.refs, h, Option.isSome_some]
  | sl h => simp only [AV.refs, h, Option.isSome_some]
  | sl0 h => simp only [AV.refs, h, Option.isSome_some]
  | slx h => simp only [AV.refs, h, Option.isSome_some]
  | mp h => simp only [AV.refs, h, Option.isSome_some]
  | mpx h => simp only [AV.refs, h, Option.isSome_some]
  | dp h => simp only [AV.refs, h, Option.isSome_some]
  | dp0 h => simp only [AV.refs, h, Option.isSome_some]
  | dpx h => simp only [AV.refs, h, Option.isSome_some]
def isIn (h : Heap) (id : Nat) : Bool := (h id).isSome
def Dom (s : AS) : Prop := (∀ i, (s.t i).refs (isIn s.h) = true) ∧ ∀ k ob, s.h k = some ob → ObjIn (isIn s.h) ob
theorem HSim.has {w : World} {φ : PMap} {Λ : Lent} {h : Heap} (hs : HSim w φ Λ h) {id : Nat} (hk : (φ id).isSome = true) : isIn h id = true := by
  cases he : h id with
  | none => rw [hs.dom id he] at hk; cases hk
  | some ob => simp [isIn, he]
theorem Sim.dom {n : Nat} {w : World} {φ : PMap} {Λ : Lent} {s : AS} {a : Act} (hs : Sim n w φ Λ s a) : Dom s := by
  have hcell : ∀ {arr : Array Value} {o : Nat} {cells : List AV}, CellsRep w φ Λ arr o cells → AV.refss (isIn s.h) cells = true := fun {arr o cells} h => AV.refss_iff.2 fun c hc => by
    obtain ⟨j, hj⟩ := List.getElem?_of_mem hc
    obtain ⟨v, _, h2⟩ := h j c hj
    exact AV.refs_mono (fun i => hs.hs.has) h2.refs_dom
  refine ⟨fun i => AV.refs_mono (fun i => hs.hs.has) (hs.tmps i).refs_dom, fun k ob hk => ?_⟩
  obtain ⟨l, _, ho⟩ := hs.hs.heap k ob hk
  cases ob with
  | box c =>
    obtain ⟨b, arr, T, _, _, _, _, h⟩ := ho
    exact hcell h
  | row c e v =>
    obtain ⟨_, h | ⟨b, o, arr, T, lo, hi, _, _, _, _, h⟩⟩ := ho
    · rw [h.2]; rfl
    · exact hcell h
  | map es =>
    obtain ⟨b, ents, clock, _, _, _, _, h⟩ := ho
    intro p hp
    obtain ⟨j, hj⟩ := List.getElem?_of_mem hp
    obtain ⟨e, _, _, h2⟩ := h j p hj
    exact AV.refs_mono (fun i => hs.hs.has) h2.refs_dom
theorem AWp.dom {P : Program} {n : Nat} {c : Code} {Q : APost} {s : AS} (h : Dom s → AWp P n c Q s) : AWp P n c Q s := fun Λ w φ a hs => h hs.dom Λ w φ a hs
def memN : List Nat → Nat → Bool
  | [], _ => false
  | k :: r, i => bif Nat.beq i k then true else memN r i
def overT (K : List Nat) : List (Nat × AV) → (Nat → AV) → Nat → AV
  | [], f, i => bif memN K i then .any else f i
  | (k, x) :: r, f, i => bif Nat.beq i k then x else overT K r f i
def overH : List (Nat × AObj) → Heap → Heap
  | [], h, i => h i
  | (k, x) :: r, h, i => bif Nat.beq i k then some x else overH r h i
def AS.over (s : AS) (K : List Nat) (T : List (Nat × AV)) (H : List (Nat × AObj)) : AS := ⟨overT K T s.t, overH H s.h⟩
def keep (H : List (Nat × AObj)) (h : Heap) (id : Nat) : Bool := keys H id || isIn h id
def AgT (K : List Nat) (f g : Nat → AV) : Prop := ∀ i, memN K i = false → f i = g i
def AgH (H : List (Nat × AObj)) (h h0 : Heap) : Prop := ∀ k, keys H k = false → isIn h0 k = true → h k = h0 k
theorem overT_cases {K : List Nat} {f : Nat → AV} {s : AS} {S : Nat → Bool} : ∀ {T : List (Nat × AV)}, HasT s S T → ∀ i, (overT K T f i = .any) ∨ (overT K T f i = f i ∧ memN K i = false) ∨ (s.t i = overT K T f i ∧ (overT K T f i).refs S = true)
  | [], _, i => by
    simp only [overT]
    cases memN K i
    · exact .inr (.inl ⟨rfl, rfl⟩)
    · exact .inl rfl
  | (k, x) :: r, h, i => by
    simp only [overT]
    cases hb : Nat.beq i k with
    | true =>
      have := Nat.eq_of_beq_eq_true hb
      subst this
      exact .inr (.inr h.1)
    | false => exact overT_cases h.2 i
theorem overH_out : ∀ {H : List (Nat × AObj)} {h : Heap} {i : Nat}, keys H i = false → overH H h i = h i
  | [], _, _, _ => rfl
  | (k, x) :: r, h, i, e => by
    simp only [keys, Bool.or_eq_false_iff] at e
    simp only [overH, e.1, cond_false]
    exact overH_out e.2
theorem overH_in {h1 : Heap} {S : Nat → Bool} : ∀ {H : List (Nat × AObj)} {h : Heap}, HasH h1 S H → ∀ {i : Nat}, keys H i = true → overH H h i = h1 i ∧ ∃ ob, overH H h i = some ob ∧ ObjIn S ob
  | [], _, _, i, hk => by simp [keys] at hk
  | (k, x) :: r, h, hh, i, hk => by
    simp only [overH]
    cases hb : Nat.beq i k with
    | true =>
      have := Nat.eq_of_beq_eq_true hb
      subst this
      exact ⟨hh.1.1.symm, x, rfl, hh.1.2⟩
    | false =>
      simp only [keys, hb, Bool.false_or] at hk
      exact overH_in hh.2 hk
structure Back (s0 s' : AS) (K : List Nat) (T : List (Nat × AV)) (H : List (Nat × AObj)) : Prop where
  hT : HasT s' (keep H s0.h) T
  hH : HasH s'.h (keep H s0.h) H
  aT : AgT K s'.t s0.t
  aH : AgH H s'.h s0.h
  hp : pinKept s'.h (keep H s0.h) = true
theorem Back.weak {s0 s' : AS} {K : List Nat} {T : List (Nat × AV)} {H : List (Nat × AObj)} (hd : Dom s0) (b : Back s0 s' K T H) : Weak s' (s0.over K T H) := by
  intro n Λ w φ a hs
  have hS : ∀ i, isIn s0.h i = true → keep H s0.h i = true := fun i h => by simp [keep, h]
  refine ⟨restrict (keep H s0.h) φ, ⟨hs.defs, hs.size, fun i => ?_, ?_⟩, goes_restrict w _ φ fun id hi hk => hs.hs.dom id (pinKept_iff b.hp hi hk)⟩
  · show Rep w _ Λ (overT K T s0.t i) _
    rcases overT_cases (K := K) (f := s0.t) b.hT i with e | ⟨e, e2⟩ | ⟨e1, e2⟩
    · rw [e]; exact .any
    · rw [e, ← b.aT i e2]
      refine (hs.tmps i).restrict ?_
      rw [b.aT i e2]
      exact AV.refs_mono hS (hd.1 i)
    · rw [← e1] at e2 ⊢
      exact (hs.tmps i).restrict e2
  · refine hs.hs.restrict (fun id hk => ?_) (fun id hk => ?_) (fun id ob hk => ?_)
    · show overH H s0.h id = s'.h id
      cases hb : keys H id with
      | true => exact (overH_in b.hH hb).1
      | false =>
        simp only [keep, hb, Bool.false_or] at hk
        rw [overH_out hb, b.aH id hb hk]
    · simp only [keep, Bool.or_eq_false_iff] at hk
      show overH H s0.h id = none
      rw [overH_out hk.1]
      have := hk.2
      simp only [isIn] at this
      simpa using this
    · replace hk : overH H s0.h id = some ob := hk
      cases hb : keys H id with
      | true =>
        obtain ⟨_, ob', e1, e2⟩ := overH_in (h := s0.h) b.hH hb
        rw [e1] at hk
        cases hk
        exact e2
      | false =>
        rw [overH_out hb] at hk
        exact ObjIn.mono hS (hd.2 id ob hk)
theorem AgT.refl (K : List Nat) (f : Nat → AV) : AgT K f f := fun _ _ => rfl
theorem AgT.put {K : List Nat} {s : AS} {g : Nat → AV} {d : Nat} {x : AV} (h : memN K d = true) (k : AgT K s.t g) : AgT K (s.put (some d) x).t g := fun i hi => by
  have : i ≠ d := fun e => by rw [e, h] at hi; cases hi
  show upd s.t d x i = _
  rw [upd_other _ _ _ _ this]
  exact k i hi
theorem AgT.putn {K : List Nat} {s : AS} {g : Nat → AV} {x : AV} (k : AgT K s.t g) : AgT K (s.put none x).t g := k
theorem AgT.seth {K : List Nat} {s : AS} {g : Nat → AV} {id : Nat} {ob : Option AObj} (k : AgT K s.t g) : AgT K (s.seth id ob).t g := k
theorem AgT.setl {K : List Nat} {s : AS} {g : Nat → AV} {l : List (Nat × AObj)} (k : AgT K s.t g) : AgT K (s.setl l).t g := by rw [setl_t]; exact k
theorem AgT.over {K K' : List Nat} {T : List (Nat × AV)} {H : List (Nat × AObj)} {s : AS} {g : Nat → AV} (h1 : (T.all fun p => memN K p.1) = true) (h2 : (K'.all (memN K)) = true) (k : AgT K s.t g) : AgT K (s.over K' T H).t g := fun i hi => by
  show overT K' T s.t i = g i
  rw [← k i hi]
  induction T with
  | nil =>
    simp only [overT]
    have : memN K' i = false := by
      cases hb : memN K' i with
      | false => rfl
      | true =>
        exfalso
        have : ∀ {L : List Nat}, memN L i = true → i ∈ L := fun {L} => by
          induction L with
          | nil => intro h; cases h
          | cons a r ih =>
            intro h
            simp only [memN] at h
            cases hc : Nat.beq i a with
            | true => rw [Nat.eq_of_beq_eq_true hc]; exact List.mem_cons_self
            | false => rw [hc] at h; exact List.mem_cons_of_mem _ (ih h)
        have h3 := List.all_eq_true.1 h2 i (this hb)
        rw [h3] at hi
        cases hi
    rw [this]
    rfl
  | cons p r ih =>
    obtain ⟨k', x⟩ := p
    simp only [List.all_cons, Bool.and_eq_true] at h1
    simp only [overT]
    have : Nat.beq i k' = false := by
      cases hb : Nat.beq i k' with
      | false => rfl
      | true => rw [Nat.eq_of_beq_eq_true hb, h1.1] at hi; cases hi
    rw [this]
    exact ih h1.2
theorem AgH.refl (H : List (Nat × AObj)) (h : Heap) : AgH H h h := fun _ _ _ => rfl
theorem AgH.put {H : List (Nat × AObj)} {s : AS} {h0 : Heap} {d : Option Nat} {x : AV} (k : AgH H s.h h0) : AgH H (s.put d x).h h0 := by
  cases d <;> exact k
theorem AgH.seth {H : List (Nat × AObj)} {s : AS} {h0 : Heap} {id : Nat} {ob : Option AObj} (h : (keys H id || !(isIn h0 id)) = true) (k : AgH H s.h h0) : AgH H (s.seth id ob).h h0 := fun i h1 h2 => by
  have : i ≠ id := fun e => by rw [e] at h1 h2; rw [h1, h2] at h; cases h
  show upd s.h id ob i = _
  rw [upd_other _ _ _ _ this]
  exact k i h1 h2
theorem AgH.setl {H : List (Nat × AObj)} {s : AS} {h0 : Heap} : ∀ {l : List (Nat × AObj)}, (l.all fun p => keys H p.1 || !(isIn h0 p.1)) = true → AgH H s.h h0 → AgH H (s.setl l).h h0
  | [], _, k => k
  | (id, ob) :: r, h, k => by
    simp only [List.all_cons, Bool.and_eq_true] at h
    exact AgH.seth h.1 (AgH.setl h.2 k)
theorem AgH.over {H H' : List (Nat × AObj)} {K : List Nat} {T : List (Nat × AV)} {s : AS} {h0 : Heap} (h : (H'.all fun p => keys H p.1 || !(isIn h0 p.1)) = true) (k : AgH H s.h h0) : AgH H (s.over K T H').h h0 := fun i h1 h2 => by
  show overH H' s.h i = _
  rw [← k i h1 h2]
  refine overH_out ?_
  induction H' with
  | nil => rfl
  | cons p r ih =>
    obtain ⟨k', x⟩ := p
    simp only [List.all_cons, Bool.and_eq_true] at h
    simp only [keys, Bool.or_eq_false_iff]
    refine ⟨?_, ih h.2⟩
    cases hb : Nat.beq i k' with
    | false => rfl
    | true =>
      have e := Nat.eq_of_beq_eq_true hb
      subst e
      rw [h1, h2] at h
      simp at h
theorem HasT.nil {s : AS} {S : Nat → Bool} : HasT s S [] := trivial
theorem HasT.cons {s : AS} {S : Nat → Bool} {k : Nat} {x : AV} {r : List (Nat × AV)} (h : HasT s S r) (h1 : s.t k = x := by first | exact rfl | exact i64_eq (by omega) | exact str_eq (by simp))
    (h2 : x.refs S = true := by exact rfl) : HasT s S ((k, x) :: r) := ⟨⟨h1, h2⟩, h⟩
theorem HasH.nil {s : Heap} {S : Nat → Bool} : HasH s S [] := trivial
theorem cl_refs {α : Type} {f : α → List AV} {l : List α} {S : Nat → Bool} (h : ∀ x, AV.refss S (f x) = true) : AV.refss S (cl f l) = true := AV.refss_iff.2 (cl_mem fun x _ => AV.refss_iff.1 (h x))
theorem HasH.cons {s : Heap} {S : Nat → Bool} {k : Nat} {x : AObj} {r : List (Nat × AObj)} (h : HasH s S r) (h1 : s k = some x := by first | exact rfl)
    (h2 : ObjIn S x := by first | exact rfl | exact cl_refs (fun _ => rfl)) : HasH s S ((k, x) :: r) := ⟨⟨h1, h2⟩, h⟩
theorem Back.mk' {s0 s' : AS} {K : List Nat} {T : List (Nat × AV)} {H : List (Nat × AObj)} (hT : HasT s' (keep H s0.h) T) (hH : HasH s'.h (keep H s0.h) H)
    (aT : AgT K s'.t s0.t := by repeat (first | exact AgT.refl _ _ | refine AgT.put rfl ?_ | refine AgT.putn ?_ | refine AgT.seth ?_ | refine AgT.setl ?_ | refine AgT.over rfl rfl ?_))
    (aH : AgH H s'.h s0.h := by repeat (first | exact AgH.refl _ _ | refine AgH.put ?_ | refine AgH.seth rfl ?_ | refine AgH.setl rfl ?_ | refine AgH.over rfl ?_))
    (hp : pinKept s'.h (keep H s0.h) = true := by exact rfl) : Back s0 s' K T H := ⟨hT, hH, aT, aH, hp⟩
section
variable {P : Program} {n : Nat} {Q : APost} {s : AS} {te : TE}
theorem AWp.as {c : Code} {s' : AS} (h : s = s') (k : AWp P n c Q s') : AWp P n c Q s := h ▸ k
theorem AWp.loopR {α : Type} {c : Code} (K : List Nat) (T : α → List (Nat × AV)) (H : α → List (Nat × AObj)) (I : α → Prop) (μ : α → Nat) (x0 : α) (hI : I x0) (h0 : Back s s K (T x0) (H x0))
    (round : ∀ x, I x → AWp P n c (AExit.then (fun s' => ∃ x', I x' ∧ Back s s' K (T x') (H x') ∧ μ x' < μ x) Q) (s.over K (T x) (H x))) : AWp P n (.loop c) Q s :=
  .dom fun hd => AWp.loopI (fun x => s.over K (T x) (H x)) I μ x0 hI (h0.weak hd) fun x hx => (round x hx).mono fun e s' q => by
    cases e with
    | normal =>
      obtain ⟨x', h1, h2, h3⟩ := q
      exact ⟨x', h1, h2.weak hd, h3⟩
    | exit id => exact q
    | goto l => exact q
    | ret => exact q
    | panic x => exact q
end
section
variable {h : Heap} {lo hi : Nat}
theorem fv_nilz {l k : Nat} {α : Type} {f : α → List AV} : FVal h lo hi (.v (.slice none 0 k)) (.fz l ([] : List α).length (cl f [])) := fv_nil
theorem fv_row0 {id ver esz : Nat} {α : Type} {f : α → List AV} {l : List α} {ob : AObj} (h1 : h id = some ob) (h2 : ObAt ob ver (cl f l)) (hf : ∀ x, (f x).length = esz) (h5 : 0 < esz) (h3 : ∀ x, AV.oks lo (f x) = true) :
    FVal h lo hi (.sl id ver 0 l.length esz) (.fz hi l.length (cl f l)) :=
  fv_row h1 h2.at (cl_oks h3) (by rw [cl_length hf]; omega) h5 (by rw [List.drop_zero, List.take_of_length_le (by rw [cl_length hf]; omega)])
theorem fv_ptrb {id ver off : Nat} {ob : AObj} {cells cs : List AV} (h1 : h id = some ob) (h2 : ObAt ob ver cells) (h3 : AV.oks lo cells = true) (h4 : Nat.ble (off + 1) cells.length = true) (h6 : cells.drop off = cs) : FVal h lo hi (.ptr id ver off) (.fp hi cs) :=
  fv_ptr h1 h2.at h3 (Nat.le_of_ble_eq_true h4) h6
theorem fv_okb {a b : AV} (hab : a = b) (e : b.ok lo = true) : FVal h lo hi a b := by
  subst hab
  exact fv_ok e
theorem ble_of {a b : Nat} (h : a ≤ b) : Nat.ble a b = true := Nat.ble_eq_true_of_le h
theorem fv_rowe {id ver esz len : Nat} {α : Type} {f : α → List AV} {l : List α} {ob : AObj} (h1 : h id = some ob) (h2 : ObAt ob ver (cl f l)) (hf : ∀ x, (f x).length = esz) (h5 : 0 < esz) (h3 : ∀ x, AV.oks lo (f x) = true) (hl : len = l.length) :
    FVal h lo hi (.sl id ver 0 len esz) (.fz hi l.length (cl f l)) := by
  subst hl
  exact fv_row0 h1 h2 hf h5 h3
theorem fv_row1 {id ver a m : Nat} {α : Type} {f : α → List AV} {l : List α} {ob : AObj} (h1 : h id = some ob) (h2 : ObAt ob ver (cl f l)) (hf : ∀ x, (f x).length = 1) (h3 : ∀ x, AV.oks lo (f x) = true) (hm : a + m ≤ l.length) :
    FVal h lo hi (.sl id ver a m 1) (.fz hi ((l.drop a).take m).length (cl f ((l.drop a).take m))) := by
  have e : ((l.drop a).take m).length = m := by simp; omega
  rw [e]
  refine fv_row h1 h2.at (cl_oks h3) (by rw [cl_length hf]; omega) (by decide) ?_
  have e1 := cl_drop hf l a
  have e2 := cl_take hf (l.drop a) m
  rw [Nat.mul_one] at e1 e2 ⊢
  rw [e1, e2]
end
section
variable {n : Nat} {s : AS} {o : Oper} {d : Option Tmp} {Q : APost}
theorem res_tmp' {t : Tmp} {x : AV} (h : s.t t = x := by conv => lhs; whnf) : ResOk te s (.tmp t) x := h
theorem res_cell' {a : Tmp} {ty : TypeId} {x y : AV} {cs : List AV} {ti : TI} (hx : s.t a = y := by conv => lhs; whnf) (ht : te.get ty = some ti := by exact rfl) (hp : 0 < ti.size := by exact Nat.le_of_ble_eq_true rfl) (hz : LoadTo s ti.size y cs := by first | exact .ptr rfl .box rfl)
    (hptr : (match y with | .ptr .. => true | _ => false) = true := by exact rfl) (hy : mkAV ti.k.agg cs = x := by conv => lhs; whnf) : ResOk te s (.cell a ty) x := by
  cases hz with
  | fp h => cases hptr
  | ptr hob hat h => exact ⟨_, _, _, _, _, _, hx, hob, hat.at, ht, h, hp, hy⟩
  | el hob hat hf hj =>
    have e := cl_at hf hj
    exact ⟨_, _, _, _, _, _, hx, hob, hat.at, ht, by rw [e]; exact hf _, hp, by rw [e]; exact hy⟩
  | @el1 α _ id ver j ob f l hsz hob hat hf hj =>
    have e := cl_at (i := j) hf hj
    rw [Nat.mul_one, ← hsz] at e
    exact ⟨_, _, _, _, _, _, hx, hob, hat.at, ht, by rw [e, hsz]; exact hf _, hp, by rw [e]; exact hy⟩
theorem q_call (lv : Nat) {f : FuncId} {A : List AV} {r : AV} {fop : Operand} {argops : Array Operand} {tys : Array TypeId} {first caps : List AV}
    (ho : o.op = .call { callee := .value fop, args := argops, argTypes := tys } := by exact rfl) (hf : s.ev fop = .fn (.func f) first caps := by exact rfl)
    (hA : FVals s.h lv (lv + 1) (first ++ argops.toList.map s.ev ++ caps) A := by repeat' (first | exact trivial | refine ⟨?_, ?_⟩ | exact fv_ok rfl | exact fv_nilz | exact fv_row0 rfl .row (fun _ => rfl) (Nat.le_of_ble_eq_true rfl) (fun _ => rfl) | exact fv_rowe rfl .row (fun _ => rfl) (Nat.le_of_ble_eq_true rfl) (fun _ => rfl) (by simp only [List.length_set]; done) | exact fv_row1 rfl .row (fun _ => rfl) (fun _ => rfl) (by first | omega | (simp; omega)) | exact fv_ptrb rfl .box rfl rfl rfl | refine fv_fn ?_ ?_ | exact fv_okb rfl (ble_of (by omega)) | (refine fv_okb rfl ?_; simp [AV.ok, AV.oks]; done)))
    (hr : r.ok lv = true := by first | exact rfl | exact ble_of (by omega) | (simp [AV.ok, AV.oks]; done)) (hdd : o.dst = d := by conv => lhs; whnf) (hd : d.all (Nat.blt · n) = true := by exact rfl) (hc : AC Try.prog f A emp (Ret r)) : OpOk Try.prog n o s (s.put d r) := ok_call lv ho hf hc hA hr hdd hd
theorem q_ret (lv : Nat) (xs ys : List AV) {fn : Func} {r : AV} (h3 : resVal ys = r) (h1 : ResOks te s fn.results.toList xs := by repeat' (first | exact trivial | exact res_tmp' | exact res_cell' | refine ⟨?_, ?_⟩))
    (h2 : FVals s.h lv lv xs ys := by repeat' (first | exact trivial | refine ⟨?_, ?_⟩ | exact fv_ok rfl | exact fv_nilz | exact fv_row0 rfl .row (fun _ => rfl) (Nat.le_of_ble_eq_true rfl) (fun _ => rfl) | exact fv_rowe rfl .row (fun _ => rfl) (Nat.le_of_ble_eq_true rfl) (fun _ => rfl) (by simp only [List.length_set]; done) | exact fv_row1 rfl .row (fun _ => rfl) (fun _ => rfl) (by first | omega | (simp; omega)) | exact fv_ptrb rfl .box rfl rfl rfl | refine fv_fn ?_ ?_ | exact fv_okb rfl (ble_of (by omega)) | (refine fv_okb rfl ?_; simp [AV.ok, AV.oks]; done)))
    (hp : pinFree s.h = true := by exact rfl) : Fin te fn (Ret r) s := Fin.ret2 lv h1 h2 h3 hp
end
end Go.Proofs.Ytahkngplohnliaa.Fw


set_option linter.unusedVariables false
set_option linter.unusedSimpArgs false
namespace Go.Proofs.Ytahkngplohnliaa.Fw
open Go.RowKit Go.ChangeShapes Go.WideShapes
def contig (te : TE) : Nat → List (Nat × TypeId) → Nat → Bool
  | o, [], z => Nat.beq o z
  | o, (o', t) :: r, z => Nat.beq o o' && match te.get t with | some j => contig te (o + j.size) r z | none => false
def plainT (te : TE) : Nat → TypeId → Bool
  | 0, _ => false
  | d + 1, t => match te.get t with
    | none => false
    | some i => match i.k with
      | .int _ | .bool | .str => true
      | .slice e => plainT te d e && (match te.get e with | some j => Nat.blt 0 j.size | none => false)
      | .arr m e => plainT te d e && (match te.get e with | some j => Nat.blt 0 j.size && Nat.beq i.size (m * j.size) | none => false)
      | .struct fs => contig te 0 fs i.size && fs.all (fun p => plainT te d p.2)
      | _ => false
def hasFs (H : TypeId → List AV → Prop) : List (Nat × TypeId) → List AV → Prop
  | [], cs => cs = []
  | (_, t) :: r, cs => ∃ a b, cs = a ++ b ∧ H t a ∧ hasFs H r b
def Has (te : TE) : Nat → TypeId → List AV → Prop
  | 0, _, _ => False
  | d + 1, t, cs => match te.get t with
    | none => False
    | some i => match i.k with
      | .bool => ∃ b, cs = [tf b]
      | .int k => ∃ n : Int, (Lit.int k n).wf = true ∧ cs = [.v (.int k n)]
      | .str => ∃ l : List UInt8, l.length ≤ reachBytes ∧ cs = [str l]
      | .slice e => ∃ es : List (List AV), (∀ c ∈ es, Has te d e c) ∧ (∀ j, te.get e = some j → es.length * j.bytes ≤ reachBytes) ∧ cs = [.fz 0 es.length es.flatten]
      | .arr m e => ∃ es : List (List AV), es.length = m ∧ (∀ c ∈ es, Has te d e c) ∧ cs = es.flatten
      | .struct fs => hasFs (Has te d) fs cs
      | _ => False
theorem exists_list {α : Type} {p : Nat → α → Prop} : ∀ n : Nat, (∀ i, i < n → ∃ x, p i x) → ∃ l : List α, l.length = n ∧ ∀ i x, l[i]? = some x → p i x
  | 0, _ => ⟨[], rfl, fun i x h => by simp at h⟩
  | n + 1, h => by
    obtain ⟨l, h1, h2⟩ := exists_list n fun i hi => h i (by omega)
    obtain ⟨x, hx⟩ := h n (by omega)
    refine ⟨l ++ [x], by simp [h1], fun i y hy => ?_⟩
    by_cases hi : i < n
    · rw [List.getElem?_append_left (by omega)] at hy
      exact h2 i y hy
    · rw [List.getElem?_append_right (by omega)] at hy
      have : i - l.length = 0 := by
        have := (List.getElem?_eq_some_iff.1 hy).1
        simp at this
        omega
      rw [this] at hy
      simp at hy
      subst hy
      have : i = n := by omega
      subst this
      exact hx
theorem flatten_length_of {α : Type} {m : Nat} : ∀ {es : List (List α)}, (∀ c ∈ es, c.length = m) → es.flatten.length = es.length * m
  | [], _ => by simp
  | c :: es, h => by
    rw [List.flatten_cons, List.length_append, h c List.mem_cons_self, flatten_length_of fun x hx => h x (List.mem_cons_of_mem _ hx), List.length_cons, Nat.add_mul, Nat.one_mul, Nat.add_comm]
theorem flatten_get {α : Type} {m : Nat} (hm : 0 < m) : ∀ {es : List (List α)}, (∀ c ∈ es, c.length = m) → ∀ {j : Nat} {x : α}, es.flatten[j]? = some x → ∃ c, es[j / m]? = some c ∧ c[j % m]? = some x
  | [], _, j, x, hj => by simp at hj
  | c :: es, h, j, x, hj => by
    have hc := h c List.mem_cons_self
    rw [List.flatten_cons] at hj
    by_cases h1 : j < m
    · rw [List.getElem?_append_left (by omega)] at hj
      exact ⟨c, by rw [Nat.div_eq_of_lt h1]; rfl, by rw [Nat.mod_eq_of_lt h1]; exact hj⟩
    · rw [List.getElem?_append_right (by omega), hc] at hj
      obtain ⟨c', k1, k2⟩ := flatten_get hm (fun x hx => h x (List.mem_cons_of_mem _ hx)) hj
      refine ⟨c', ?_, ?_⟩
      · have : j / m = (j - m) / m + 1 := by
          rw [Nat.div_eq_sub_div hm (by omega)]
        rw [this]
        simpa using k1
      · rw [Nat.mod_eq_sub_mod (by omega)]
        exact k2
abbrev noL : Lent := fun _ _ => False
abbrev noO : PMap := fun _ => none
theorem may_none (lv b : Nat) : may noO noL lv b := ⟨owned_none, fun _ _ h => h⟩
theorem weightsAll_mem {H : Type} {P : Program} {e : TypeId} : ∀ {l : List (DataW H)} {d : DataW H}, d ∈ l → ∀ m ∈ d.weights P e, m ∈ DataW.weightsAll P e l
  | a :: l, d, h, m, hm => by
    simp only [DataW.weightsAll, List.mem_append]
    rcases List.mem_cons.1 h with rfl | h
    · exact .inl hm
    · exact .inr (weightsAll_mem h m hm)
section
variable {P : Program} {te : TE} {w : World} {H : Type} {enc : TypeId × Value → H} {held : Bool}
def CellsAre (w : World) (cs : List Value) (av : List AV) : Prop := av.length = cs.length ∧ ∀ (j : Nat) c, av[j]? = some c → c.ok 0 = true ∧ ∃ v, cs[j]? = some v ∧ Rep w noO noL c v
theorem CellsAre.one {v : Value} {a : AV} (h1 : a.ok 0 = true) (h2 : Rep w noO noL a v) : CellsAre w [v] [a] :=
  ⟨rfl, fun j c hj => by
    cases j with
    | zero => simp at hj; subst hj; exact ⟨h1, v, rfl, h2⟩
    | succ j => simp at hj⟩
theorem Tells.cells {t : TypeId} {i : TI} (h : Tells P t i) : P.cellsOf t = i.size ∧ P.bytesOf t = i.bytes := by
  obtain ⟨f, z, h1, h2, h3, _⟩ := h.info
  exact ⟨by simp [Program.cellsOf, h1, h2], by simp [Program.bytesOf, h1, h3]⟩
theorem open_fields (hte : TEok P te) {d n : Nat} (ih : ∀ t, plainT te d t = true → ∀ n (cs : List Value) x, DataW.trod enc P w 0 (fun _ => true) held n t cs = some x → (∀ m ∈ x.1.weights P t, m ≤ reachBytes) → ∃ av, Has te d t av ∧ CellsAre w cs av)
    {cs : List Value} : ∀ (l : List Field) (o : Nat) (xs : List (DataW H × List MemPlace)), xs.length = l.length → (∀ (i : Nat) (f : Field), l[i]? = some f → DataW.trod enc P w 0 (fun _ => true) held n f.type ((cs.drop f.offset).take (P.cellsOf f.type)) = xs[i]?) →
      contig te o (l.map fun f => (f.offset, f.type)) cs.length = true → ((l.map fun f => (f.offset, f.type)).all fun p => plainT te d p.2) = true →
      (∀ m ∈ DataW.weightsEach P (l.map (·.type)) (xs.map (·.1)), m ≤ reachBytes) → ∃ av, hasFs (Has te d) (l.map fun f => (f.offset, f.type)) av ∧ CellsAre w (cs.drop o) av
  | [], o, xs, hx, hf, hc, hp, hw => by
    simp only [List.map_nil, contig] at hc
    have := Nat.eq_of_beq_eq_true hc
    refine ⟨[], rfl, by simp; omega, fun j c hj => by simp at hj⟩
  | f :: l, o, [], hx, hf, hc, hp, hw => by simp at hx
  | f :: l, o, y :: xs, hx, hf, hc, hp, hw => by
    simp only [List.map_cons, contig, Bool.and_eq_true] at hc
    obtain ⟨c1, c2⟩ := hc
    have c1 := Nat.eq_of_beq_eq_true c1
    simp only [List.map_cons, List.all_cons, Bool.and_eq_true] at hp
    have h0 := hf 0 f rfl
    simp only [List.getElem?_cons_zero] at h0
    simp only [List.map_cons, DataW.weightsEach, List.mem_append] at hw
    obtain ⟨a, a1, a2⟩ := ih f.type hp.1 n _ y h0 fun m hm => hw m (.inl hm)
    cases hg : te.get f.type with
    | none => rw [hg] at c2; cases c2
    | some j =>
      rw [hg] at c2
      simp only at c2
      obtain ⟨b, b1, b2⟩ := open_fields hte ih l (o + j.size) xs (by simpa using hx) (fun i g hg => by simpa using hf (i + 1) g (by simpa using hg)) c2 hp.2 (fun m hm => hw m (.inr hm))
      rw [((hte.tells hg).cells).1, ← c1] at a2
      refine ⟨a ++ b, ⟨a, b, rfl, a1, b1⟩, ?_⟩
      have hle : ∀ (l : List (Nat × TypeId)) (o : Nat), contig te o l cs.length = true → o ≤ cs.length := by
        intro l
        induction l with
        | nil => intro o h; simp only [contig] at h; exact Nat.le_of_eq (Nat.eq_of_beq_eq_true h)
        | cons p l ihl =>
          intro o h
          obtain ⟨po, pt⟩ := p
          simp only [contig, Bool.and_eq_true] at h
          cases hgp : te.get pt with
          | none => rw [hgp] at h; cases h.2
          | some q =>
            rw [hgp] at h
            have := ihl _ h.2
            omega
      have hlen := hle _ _ c2
      have al : a.length = j.size := by rw [a2.1]; simp; omega
      refine ⟨by rw [List.length_append, al, b2.1]; simp; omega, fun k c hk => ?_⟩
      by_cases hk1 : k < a.length
      · rw [List.getElem?_append_left hk1] at hk
        obtain ⟨z1, v, z2, z3⟩ := a2.2 k c hk
        rw [List.getElem?_take, if_pos (by omega)] at z2
        exact ⟨z1, v, z2, z3⟩
      · rw [List.getElem?_append_right (by omega)] at hk
        obtain ⟨z1, v, z2, z3⟩ := b2.2 _ c hk
        refine ⟨z1, v, ?_, z3⟩
        rw [List.getElem?_drop] at z2 ⊢
        rw [← z2]
        congr 1
        omega
theorem open_has (hte : TEok P te) : ∀ d t, plainT te d t = true → ∀ n (cs : List Value) x, DataW.trod enc P w 0 (fun _ => true) held n t cs = some x → (∀ m ∈ x.1.weights P t, m ≤ reachBytes) →
    ∃ av, Has te d t av ∧ CellsAre w cs av
  | 0, t, hp, n, cs, x, h, hw => by simp [plainT] at hp
  | d + 1, t, hp, n, cs, x, h, hw => by
    have ih := open_has hte d
    simp only [plainT] at hp
    simp only [Has]
    cases hg : te.get t with
    | none => rw [hg] at hp; cases hp
    | some i =>
      rw [hg] at hp
      have ht := hte.tells hg
      obtain ⟨k, size, bytes, zero⟩ := i
      cases k with
      | int k =>
        obtain ⟨m, rfl, rfl, h3⟩ := DataW.trod_int (ht.int rfl) h
        exact ⟨[.v (.int k m)], ⟨m, h3, rfl⟩, .one rfl .v⟩
      | bool =>
        obtain ⟨b, rfl, rfl⟩ := DataW.trod_bool (ht.bool rfl) h
        exact ⟨[tf b], ⟨b, rfl⟩, .one rfl .v⟩
      | str =>
        obtain ⟨s, rfl, rfl, _⟩ := DataW.trod_string (ht.str rfl) h
        exact ⟨[str s.data.toList], ⟨_, hw _ (by simp [DataW.weights]), rfl⟩, .one rfl .v⟩
      | slice e =>
        simp only [Bool.and_eq_true] at hp
        obtain ⟨hp1, hp2⟩ := hp
        cases he : te.get e with
        | none => rw [he] at hp2; cases hp2
        | some j =>
          rw [he] at hp2
          have hpos : 0 < j.size := Nat.blt_eq.mp hp2
          have hce := (hte.tells he).cells
          rcases DataW.trod_slice (ht.slice rfl) h with ⟨rfl, rfl⟩ | ⟨a, len, cap, elems, rest, n', rfl, rfl, rfl, hb, hlc, hcm, hel, hget, _, _⟩
          · exact ⟨[.fz 0 0 []], ⟨[], by simp, fun _ _ => by simp, rfl⟩, .one rfl .fz0⟩
          · have hwt : ∀ y ∈ elems, ∀ m ∈ y.1.weights P e, m ≤ reachBytes := fun y hy m hm => by
              refine hw m ?_
              simp only [DataW.weights, ht.slice rfl, List.mem_cons, List.mem_append]
              exact .inr (.inl (weightsAll_mem (List.mem_map_of_mem hy) m hm))
            have hone : ∀ i, i < len → ∃ av, Has te d e av ∧ av.length = j.size ∧ ∀ (r : Nat) c, av[r]? = some c → c.ok 0 = true ∧ ∃ v, w.cell? ((a.add (i * j.size)).add r) = some v ∧ Rep w noO noL c v := by
              intro i hi
              have h1 := hget i hi
              have hil : i < elems.length := by omega
              rw [List.getElem?_eq_getElem hil] at h1
              obtain ⟨cs', h2, h3⟩ := Option.bind_eq_some_iff.1 h1
              obtain ⟨_, q1, q2⟩ := World.cells?_some h2
              obtain ⟨av, b1, b2, b3⟩ := ih e hp1 n' cs' _ h3 (hwt _ (List.getElem_mem hil))
              rw [hce.1] at q1 q2
              refine ⟨av, b1, by rw [b2, q1], fun r c hr => ?_⟩
              obtain ⟨z1, v, z2, z3⟩ := b3 r c hr
              have hrl : r < j.size := by rw [← q1, ← b2]; exact (List.getElem?_eq_some_iff.1 hr).1
              exact ⟨z1, v, by rw [q2 r hrl, z2], z3⟩
            obtain ⟨es, l1, l2⟩ := exists_list len hone
            have hlen : ∀ c ∈ es, c.length = j.size := fun c hc => by
              obtain ⟨i, hi⟩ := List.mem_iff_getElem?.1 hc
              exact (l2 i c hi).2.1
            have hfl := flatten_length_of hlen
            refine ⟨[.fz 0 es.length es.flatten], ⟨es, fun c hc => ?_, fun j' hj' => ?_, rfl⟩, .one rfl ?_⟩
            · obtain ⟨i, hi⟩ := List.mem_iff_getElem?.1 hc
              exact (l2 i c hi).1
            · rw [he] at hj'
              cases hj'
              have := hw ((elems.length + rest.length) * P.bytesOf e) (by simp [DataW.weights, ht.slice rfl])
              rw [hce.2] at this
              have h2 : es.length * j.bytes ≤ (elems.length + rest.length) * j.bytes := Nat.mul_le_mul_right _ (by omega)
              omega
            · by_cases hl0 : len = 0
              · have : es = [] := List.eq_nil_of_length_eq_zero (by omega)
                subst this
                rw [hl0]
                exact .fz0
              ·
                have hc0 : ∀ q, q < es.flatten.length → ∃ c v, es.flatten[q]? = some c ∧ c.ok 0 = true ∧ w.cell? (a.add q) = some v ∧ Rep w noO noL c v := by
                  intro q hq
                  obtain ⟨c, k1, k2⟩ := flatten_get hpos hlen (List.getElem?_eq_getElem hq)
                  obtain ⟨_, _, g3⟩ := l2 _ c k1
                  obtain ⟨z1, v, z2, z3⟩ := g3 _ _ k2
                  refine ⟨_, v, List.getElem?_eq_getElem hq, z1, ?_, z3⟩
                  rw [Addr.add_add, Nat.mul_comm, Nat.div_add_mod] at z2
                  exact z2
                have hpf : 0 < es.flatten.length := by rw [hfl, l1]; exact Nat.mul_pos (by omega) hpos
                obtain ⟨b, o, sp⟩ := a
                have hsp : sp = none := by
                  obtain ⟨c, v, _, _, h3, _⟩ := hc0 0 hpf
                  simp only [Addr.add, if_true, World.cell?] at h3
                  split at h3
                  · split at h3
                    · cases h3
                    · rename_i hs
                      simpa using hs
                  · cases h3
                subst hsp
                rw [l1]
                refine .fz (fun q => (w.cell? ⟨b, o + q, none⟩).getD undef) (may_none _ _) hlc (fun c hc => ?_) (fun q hq => ?_) (fun q c hq => ?_) hpf
                · obtain ⟨q, hq⟩ := List.mem_iff_getElem?.1 hc
                  obtain ⟨c', v, h1, h2, _⟩ := hc0 q (List.getElem?_eq_some_iff.1 hq).1
                  rw [hq] at h1
                  cases h1
                  exact h2
                · obtain ⟨c', v, h1, h2, h3, h4⟩ := hc0 q hq
                  rw [Addr.add_lit] at h3
                  rw [h3]
                  rfl
                · obtain ⟨c', v, h1, h2, h3, h4⟩ := hc0 q (List.getElem?_eq_some_iff.1 hq).1
                  rw [hq] at h1
                  cases h1
                  rw [Addr.add_lit] at h3
                  rw [h3]
                  exact h4
      | arr m e =>
        simp only [Bool.and_eq_true] at hp
        obtain ⟨hp1, hp2⟩ := hp
        cases he : te.get e with
        | none => rw [he] at hp2; cases hp2
        | some j =>
          rw [he] at hp2
          simp only [Bool.and_eq_true] at hp2
          have hpos : 0 < j.size := Nat.blt_eq.mp hp2.1
          have hsz : size = m * j.size := Nat.eq_of_beq_eq_true hp2.2
          have hce := (hte.tells he).cells
          obtain ⟨xs, n', rfl, rfl, hl, hxl, hget⟩ := DataW.trod_array (ht.arr rfl) h
          have hl : cs.length = m * j.size := by rw [hl, ht.cells.1, ← hsz]
          have hone : ∀ i, i < m → ∃ av, Has te d e av ∧ CellsAre w ((cs.drop (i * j.size)).take j.size) av := by
            intro i hi
            have h1 := hget i hi
            have hil : i < xs.length := by omega
            rw [List.getElem?_eq_getElem hil, hce.1] at h1
            refine ih e hp1 n' _ _ h1 fun q hq => hw q ?_
            simp only [DataW.weights, ht.arr rfl]
            exact weightsAll_mem (List.mem_map_of_mem (List.getElem_mem hil)) q hq
          obtain ⟨es, l1, l2⟩ := exists_list m hone
          have hlen : ∀ c ∈ es, c.length = j.size := fun c hc => by
            obtain ⟨i, hi⟩ := List.mem_iff_getElem?.1 hc
            have hil : i < m := by rw [← l1]; exact (List.getElem?_eq_some_iff.1 hi).1
            rw [(l2 i c hi).2.1]
            show ((cs.drop (i * j.size)).take j.size).length = j.size
            have : (i + 1) * j.size ≤ m * j.size := Nat.mul_le_mul_right _ hil
            rw [Nat.add_mul, Nat.one_mul, ← hl] at this
            simp
            omega
          refine ⟨es.flatten, ⟨es, l1, fun c hc => ?_, rfl⟩, by rw [flatten_length_of hlen, l1, hl], fun q c hq => ?_⟩
          · obtain ⟨i, hi⟩ := List.mem_iff_getElem?.1 hc
            exact (l2 i c hi).1
          · obtain ⟨c', k1, k2⟩ := flatten_get hpos hlen hq
            obtain ⟨z1, v, z2, z3⟩ := (l2 _ c' k1).2.2 _ c k2
            refine ⟨z1, v, ?_, z3⟩
            rw [List.getElem?_take, if_pos (Nat.mod_lt _ hpos), List.getElem?_drop, Nat.mul_comm, Nat.div_add_mod] at z2
            exact z2
      | struct fs =>
        simp only [Bool.and_eq_true] at hp
        obtain ⟨fl, f1, f2⟩ := ht.struct rfl
        obtain ⟨xs, n', rfl, rfl, hl, hxl, hget⟩ := DataW.trod_struct f1 h
        rw [ht.cells.1] at hl
        subst f2
        simp only at hl
        rw [← hl] at hp
        have := open_fields hte ih (n := n') (cs := cs) fl.toList 0 xs (by simpa using hxl) (fun i f hf => hget i f (by simpa using hf)) hp.1 hp.2 (fun m hm => hw m (by simpa [DataW.weights, f1] using hm))
        simpa using this
      | _ => cases hp
end
end Go.Proofs.Ytahkngplohnliaa.Fw


set_option linter.unusedVariables false
set_option linter.unusedSimpArgs false
namespace Go.Proofs.Ytahkngplohnliaa.Fw
open Go.RowKit Go.ChangeShapes Go.WideShapes
def HasArgs (te : TE) (d : Nat) : List TypeId → List AV → Prop
  | [], [] => True
  | t :: ts, a :: r => (∃ i cs, te.get t = some i ∧ Has te d t cs ∧ a = mkAV i.k.agg cs) ∧ HasArgs te d ts r
  | _, _ => False
theorem HasArgs.length {te : TE} {d : Nat} : ∀ {ts : List TypeId} {l : List AV}, HasArgs te d ts l → l.length = ts.length
  | [], [], _ => rfl
  | t :: ts, a :: r, h => by simp [HasArgs.length h.2]
  | [], _ :: _, h => h.elim
  | _ :: _, [], h => h.elim
section
variable {P : Program} {te : TE} {w : World} {H : Type} {enc : TypeId × Value → H}
theorem scalar_cells {t : TypeId} {v : Value} {dsc : TypeDesc} {r : Reach} {base : Nat} (hu : P.underlying t = some dsc) (hn : (match dsc with | .int _ | .bool | .string | .slice _ => true | _ => false) = true)
    (h : Value.okWide P w r base t v) : v.cells = #[v] := by
  cases dsc <;> simp at hn
  · simp only [Value.okWide, hu, Cell.okWide] at h
    cases v <;> simp_all [Cell.ok, Value.cells]
  · simp only [Value.okWide, hu, Cell.okWide] at h
    cases v <;> simp_all [Cell.ok, Value.cells]
  · simp only [Value.okWide, hu, Cell.okWide] at h
    cases v <;> simp_all [Cell.ok, Value.cells]
  · simp only [Value.okWide, hu, Cell.okWide] at h
    cases v <;> simp_all [Cell.ok, Value.cells]
theorem arg_rep (hte : TEok P te) {d : Nat} {t : TypeId} {i : TI} {v : Value} {r : Reach} {base : Nat} {l : List AV} (hg : te.get t = some i) (hp : plainT te d t = true) (hv : Value.okWide P w r base t v)
    (hc : CellsAre w v.cells.toList l) : Rep w noO noL (mkAV i.k.agg l) v := by
  cases d with
  | zero => simp [plainT] at hp
  | succ d =>
    simp only [plainT, hg] at hp
    have ht := hte.tells hg
    have one : v.cells = #[v] → i.k.agg = false → Rep w noO noL (mkAV i.k.agg l) v := by
      intro h1 h2
      rw [h1] at hc
      obtain ⟨h3, h4⟩ := hc
      have h3 : l.length = 1 := h3
      obtain ⟨a, rfl⟩ := List.length_eq_one_iff.1 h3
      obtain ⟨_, v', h5, h6⟩ := h4 0 a rfl
      simp at h5
      subst h5
      rw [h2]
      exact h6
    have many : (∃ cs, v = .agg cs) → i.k.agg = true → Rep w noO noL (mkAV i.k.agg l) v := by
      rintro ⟨cs, rfl⟩ h2
      simp only [Value.cells] at hc
      obtain ⟨h3, h4⟩ := hc
      rw [h2]
      refine .agg (fun j => cs.getD j undef) (by simpa using h3.symm) (fun j hj => ?_) (fun j c hj => ?_)
      · have : j < cs.size := by simp at h3; omega
        simp [Array.getD, this]
      · obtain ⟨_, v, h5, h6⟩ := h4 j c hj
        rw [Array.getElem?_toList] at h5
        rw [Array.getD_eq_getD_getElem?, h5]
        exact h6
    obtain ⟨k, size, bytes, zero⟩ := i
    cases k with
    | int k => exact one (scalar_cells (ht.int rfl) rfl hv) rfl
    | bool => exact one (scalar_cells (ht.bool rfl) rfl hv) rfl
    | str => exact one (scalar_cells (ht.str rfl) rfl hv) rfl
    | slice e => exact one (scalar_cells (ht.slice rfl) rfl hv) rfl
    | arr m e =>
      refine many ?_ rfl
      simp only [Value.okWide, ht.arr rfl] at hv
      exact ⟨hv.choose, hv.choose_spec.1⟩
    | struct fs =>
      obtain ⟨fl, f1, f2⟩ := ht.struct rfl
      refine many ?_ rfl
      simp only [Value.okWide, f1] at hv
      exact ⟨hv.choose, hv.choose_spec.1⟩
    | _ => cases hp
theorem open_args (hte : TEok P te) {d : Nat} {r : Reach} {base : Nat} : ∀ {ts : List TypeId} {vs : List Value} {ds : List (DataW H)} {ps : List MemPlace}, DataW.TrodAll enc P w 0 (fun _ => true) true ts vs ds ps → (ts.all fun t => plainT te d t) = true →
    (∀ (j : Nat) t v, ts[j]? = some t → vs[j]? = some v → Value.okWide P w r base t v) → (∀ m ∈ DataW.weightsEach P ts ds, m ≤ reachBytes) →
    ∃ l, HasArgs te d ts l ∧ vs.length = l.length ∧ ∀ (j : Nat) c, l[j]? = some c → ∃ v, vs[j]? = some v ∧ Rep w noO noL c v
  | [], [], [], ps, h, hp, hv, hw => ⟨[], trivial, rfl, fun j c hj => by simp at hj⟩
  | t :: ts, v :: vs, x :: ds, ps, h, hp, hv, hw => by
    obtain ⟨p, q, ⟨n, h1⟩, h2, rfl⟩ := h
    simp only [List.all_cons, Bool.and_eq_true] at hp
    simp only [DataW.weightsEach, List.mem_append] at hw
    obtain ⟨l, l1, l2, l3⟩ := open_args hte h2 hp.2 (fun j t v ht hv' => hv (j + 1) t v (by simpa using ht) (by simpa using hv')) (fun m hm => hw m (.inr hm))
    obtain ⟨a, a1, a2⟩ := open_has hte d t hp.1 n _ _ h1 (fun m hm => hw m (.inl hm))
    have hg : ∃ i, te.get t = some i := by
      cases d with
      | zero => simp [plainT] at hp
      | succ d =>
        have := hp.1
        simp only [plainT] at this
        cases hg : te.get t with
        | none => rw [hg] at this; cases this
        | some i => exact ⟨i, rfl⟩
    obtain ⟨i, hg⟩ := hg
    have hr := arg_rep hte hg hp.1 (hv 0 t v rfl rfl) a2
    refine ⟨mkAV i.k.agg a :: l, ⟨⟨i, a, hg, a1, rfl⟩, l1⟩, by simp [l2], fun j c hj => ?_⟩
    cases j with
    | zero => simp at hj; subst hj; exact ⟨v, rfl, hr⟩
    | succ j => simpa using l3 j c (by simpa using hj)
  | [], _ :: _, _, _, h, _, _, _ => by simp [DataW.TrodAll] at h
  | [], [], _ :: _, _, h, _, _, _ => by simp [DataW.TrodAll] at h
  | _ :: _, [], _, _, h, _, _, _ => by simp [DataW.TrodAll] at h
  | _ :: _, _ :: _, [], _, h, _, _, _ => by simp [DataW.TrodAll] at h
theorem trodAll_stay (hl : laidOutB P = true) {w' : World} (hb : Below w.heap.size w w') : ∀ {ts : List TypeId} {vs : List Value} {ds : List (DataW H)} {ps : List MemPlace}, DataW.TrodAll enc P w 0 (fun _ => true) true ts vs ds ps →
    (ts.all fun t => P.readableRec t && decide (t < P.types.size)) = true → DataW.TrodAll enc P w' 0 (fun b => decide (b < w.heap.size)) true ts vs ds ps
  | [], [], [], ps, h, hp => h
  | t :: ts, v :: vs, y :: ds, ps, h, hp => by
    obtain ⟨p, q, h1, h2, rfl⟩ := h
    simp only [List.all_cons, Bool.and_eq_true, decide_eq_true_eq] at hp
    have hlt : ∀ x ∈ p, x.block < w.heap.size := fun x hx => by obtain ⟨n, h1⟩ := h1; exact DataW.trod_lt n _ _ _ h1 x hx
    exact ⟨p, q, Below.trod hl hp.1.1 hp.1.2 h1 hb hlt, trodAll_stay hl hb h2 (by simpa using hp.2), rfl⟩
  | [], _ :: _, _, _, h, _ => by simp [DataW.TrodAll] at h
  | [], [], _ :: _, _, h, _ => by simp [DataW.TrodAll] at h
  | _ :: _, [], _, _, h, _ => by simp [DataW.TrodAll] at h
  | _ :: _, _ :: _, [], _, h, _ => by simp [DataW.TrodAll] at h
theorem law_row (hte : TEok P te) {f : FuncId} {fn : Func} {s : ChangeSpec} {d : Nat} {tb : TypeId} (hl : laidOutB P = true) (hp : (fn.params.toList.all fun t => plainT te d t) = true)
    (hp2 : (fn.params.toList.all fun t => P.readableRec t && decide (t < P.types.size)) = true) (hres : fn.resultTypes = #[tb]) (hb : P.underlying tb = some .bool) (hvars : s.vars = [])
    (hfn : ∀ ds : List (DataW H), ds.length = fn.params.toList.length → (s.fn H ds).results = [.lit (.bool true)] ∧ (s.fn H ds).args = ds ∧ (s.fn H ds).vars = [])
    (hac : ∀ l, HasArgs te d fn.params.toList l → AC P f l emp (Ret (tf true)))
    {W : World} {base : Nat} {args : Array Value} {ds gs : List (DataW H)} {before : List MemPlace}
    (hval : ∀ (j : Nat) t v, fn.params[j]? = some t → args[j]? = some v → Value.okWide P W .any base t v) (hW : DataW.Whole enc P fn.params.toList s.vars false W args.toList ds gs before)
    (hsz : (DataW.weightsEach P (fn.params.toList ++ s.plain.varTypes P) (ds ++ gs)).all (· ≤ reachBytes) = true) :
    Calls P f args W fun e W' => ∃ v, e = .returned v ∧ s.post enc P fn false true false false W args v W' := by
  have hW' := hW
  obtain ⟨p, q, hA, hV, rfl, hfz, hnd⟩ := hW
  rw [hvars] at hV
  obtain ⟨rfl, rfl⟩ := trodVars_none hV
  have hlen : ∀ {ts : List TypeId} {vs : List Value} {ds : List (DataW H)} {ps : List MemPlace}, DataW.TrodAll enc P W 0 (fun _ => true) true ts vs ds ps → ds.length = ts.length := by
    intro ts
    induction ts with
    | nil => intro vs ds ps h; cases vs <;> cases ds <;> first | rfl | (simp [DataW.TrodAll] at h)
    | cons t ts ih =>
      intro vs ds ps h
      cases vs with
      | nil => simp [DataW.TrodAll] at h
      | cons v vs =>
        cases ds with
        | nil => simp [DataW.TrodAll] at h
        | cons x ds =>
          obtain ⟨_, _, _, h2, _⟩ := h
          simp [ih h2]
  have hdl := hlen hA
  obtain ⟨l, l1, l2, l3⟩ := open_args hte hA hp (fun j t v ht hv => hval j t v (by simpa using ht) (by simpa using hv)) (fun m hm => by
    have := List.all_eq_true.1 hsz m ?_
    · simpa using this
    · rw [List.append_nil]
      have key : ∀ (ts us : List TypeId) (ds : List (DataW H)), m ∈ DataW.weightsEach P ts ds → m ∈ DataW.weightsEach P (ts ++ us) ds := by
        intro ts
        induction ts with
        | nil => intro us ds h; simp [DataW.weightsEach] at h
        | cons t ts ih =>
          intro us ds h
          cases ds with
          | nil => simp [DataW.weightsEach] at h
          | cons x ds =>
            simp only [DataW.weightsEach, List.mem_append, List.cons_append] at h ⊢
            exact h.imp id (ih us ds)
      exact key _ _ _ hm)
  obtain ⟨_, hcall⟩ := hac l l1
  have hs0 : HSim W noO noL emp := ⟨(fun id ob h => by cases h), fun _ _ => rfl, (fun id l b o h => by cases h), (fun id id' l l' b o o' h => by cases h), fun k b h => h.elim⟩
  refine hcall noL W noO args hs0 ⟨by simpa using l2, fun j c hj => by simpa using l3 j c hj⟩ _ ?_ ?_
  · intro r h' w' φ' v hR hs' g hr
    obtain ⟨hr1, _⟩ := hR
    cases hr1
    cases hr
    have bel : Below W.heap.size W w' := ⟨g.os, g.tape, g.output, g.size, fun k hk => g.keep k hk owned_none⟩
    obtain ⟨f1, f2, f3⟩ := hfn ds hdl
    refine ⟨_, rfl, ds, [], p ++ [], [], p, [], hW', ?_, ?_, ?_, bel.frame _, fun h => by cases h⟩
    · rw [List.append_nil, f1, hres]
      exact trodAll_mk1 (shut_bool hb true)
    · rw [List.append_nil, f2]
      exact trodAll_stay hl bel hA hp2
    · rw [List.append_nil, f3, hvars]
      rfl
  · intro x h' w' φ' hR
    exact absurd hR.1 (by simp)
end
end Go.Proofs.Ytahkngplohnliaa.Fw


set_option linter.unusedVariables false
set_option linter.unusedSimpArgs false
namespace Go.Proofs.Ytahkngplohnliaa.Fw
open Go.RowKit
section
variable {te : TE}
theorem has_u8 {d : Nat} {t : TypeId} {i : TI} {cs : List AV} (h : Has te d t cs) (hg : te.get t = some i) (hk : i.k = .int .u8) : ∃ b : UInt8, cs = [u8 b.toNat] := by
  cases d with
  | zero => simp [Has] at h
  | succ d =>
    simp only [Has, hg, hk] at h
    obtain ⟨n, h1, rfl⟩ := h
    have h2 : (0 : Int) ≤ n ∧ n ≤ 255 := by
      simp only [Lit.wf, Bool.and_eq_true, decide_eq_true_eq] at h1
      have e1 : IntKind.u8.min = 0 := by decide
      have e2 : IntKind.u8.max = 255 := by decide
      omega
    refine ⟨byte n, ?_⟩
    rw [byte_toNat, Int.emod_eq_of_lt h2.1 (by omega)]
theorem choose_eq {α : Type} {f : α → List AV} {q : α → Prop} : ∀ {es : List (List AV)}, (∀ c ∈ es, ∃ a, c = f a ∧ q a) → ∃ l : List α, es = l.map f ∧ ∀ a ∈ l, q a
  | [], _ => ⟨[], rfl, fun a h => by simp at h⟩
  | c :: es, h => by
    obtain ⟨a, rfl, ha⟩ := h c List.mem_cons_self
    obtain ⟨l, h1, h2⟩ := choose_eq fun x hx => h x (List.mem_cons_of_mem _ hx)
    refine ⟨a :: l, by rw [h1]; rfl, fun x hx => ?_⟩
    rcases List.mem_cons.1 hx with rfl | hx
    · exact ha
    · exact h2 x hx
theorem has_slice {α : Type} {f : α → List AV} {q : α → Prop} {d : Nat} {t e : TypeId} {i j : TI} {cs : List AV} (h : Has te (d + 1) t cs) (hg : te.get t = some i) (hk : i.k = .slice e) (he : te.get e = some j)
    (hq : ∀ c, Has te d e c → ∃ a, c = f a ∧ q a) : ∃ l : List α, cs = [.fz 0 l.length (l.flatMap f)] ∧ l.length * j.bytes ≤ 140737488351232 ∧ ∀ a ∈ l, q a := by
  simp only [Has, hg, hk] at h
  obtain ⟨es, h1, h2, h3⟩ := h
  obtain ⟨l, rfl, h4⟩ := choose_eq (f := f) (q := q) fun c hc => hq c (h1 c hc)
  exact ⟨l, by rw [h3, List.length_map, List.flatMap_def], by have := h2 j he; rw [List.length_map] at this; exact this, h4⟩
theorem has_bytes {d : Nat} {t e : TypeId} {i j : TI} {cs : List AV} (h : Has te (d + 1) t cs) (hg : te.get t = some i) (hk : i.k = .slice e) (he : te.get e = some j) (hj : j.k = .int .u8) (hb : j.bytes = 1) :
    ∃ l : List UInt8, cs = [.fz 0 l.length (cl bc l)] ∧ l.length ≤ 140737488351232 := by
  obtain ⟨l, h1, h2, _⟩ := has_slice (f := bc) (q := fun _ => True) h hg hk he fun c hc => by
    obtain ⟨b, hb⟩ := has_u8 hc he hj
    exact ⟨b, hb, trivial⟩
  exact ⟨l, h1, by rw [hb] at h2; omega⟩
theorem arg_cons {d : Nat} {t : TypeId} {i : TI} {ts : List TypeId} {l : List AV} (h : HasArgs te d (t :: ts) l) (hg : te.get t = some i) : ∃ cs r, Has te d t cs ∧ HasArgs te d ts r ∧ l = mkAV i.k.agg cs :: r := by
  cases l with
  | nil => exact h.elim
  | cons a r =>
    obtain ⟨⟨i', cs, h1, h2, h3⟩, h4⟩ := h
    rw [hg] at h1
    cases h1
    subst h3
    exact ⟨cs, r, h2, h4, rfl⟩
theorem arg_nil {d : Nat} {l : List AV} (h : HasArgs te d [] l) : l = [] := by
  cases l with
  | nil => rfl
  | cons a r => exact h.elim
theorem args1 {d : Nat} {t : TypeId} {i : TI} {l : List AV} (h : HasArgs te d [t] l) (hg : te.get t = some i) : ∃ cs, Has te d t cs ∧ l = [mkAV i.k.agg cs] := by
  obtain ⟨cs, r, h1, h2, rfl⟩ := arg_cons h hg
  obtain rfl := arg_nil h2
  exact ⟨cs, h1, rfl⟩
end
end Go.Proofs.Ytahkngplohnliaa.Fw


set_option linter.unusedVariables false
set_option linter.unusedSimpArgs false
namespace Go.Proofs.Ytahkngplohnliaa.Fw
open Go.RowKit
section
variable {n : Nat} {s : AS} {o : Oper} {d : Option Tmp}
theorem run_equal_pnil {P : Program} {t e : TypeId} {a : Option Addr} (ht : P.underlying t = some (.pointer e)) (w : World) : (Op.equal t (.pointer a) (.pointer none)).run P w = .ok a.isNone w := by
  have h : ∀ q, (Op.equalIn (q + 1) t (.pointer a) (.pointer none)).run P w = .ok a.isNone w := fun q => by cases a <;> simp [Op.equalIn, run_underlying ht]
  exact h 9999
theorem run_equal_snil {P : Program} {t e : TypeId} {a : Option Addr} {k m l : Nat} (ht : P.underlying t = some (.slice e)) (w : World) : (Op.equal t (.slice a k m) (.slice none 0 l)).run P w = .ok a.isNone w := by
  have h : ∀ q, (Op.equalIn (q + 1) t (.slice a k m) (.slice none 0 l)).run P w = .ok a.isNone w := fun q => by cases a <;> simp [Op.equalIn, run_underlying ht]
  exact h 9999
def pnil? : AV → Option Bool
  | .ptr .. | .fp .. => some false
  | .v (.pointer a) => some a.isNone
  | _ => none
theorem rep_pnil {w : World} {φ : PMap} {Λ : Lent} {x : AV} {v : Value} {b : Bool} (h : Rep w φ Λ x v) (hb : pnil? x = some b) : ∃ a, v = .pointer a ∧ a.isNone = b := by
  cases h with
  | v =>
    cases v <;> simp [pnil?] at hb
    exact ⟨_, rfl, hb⟩
  | fp => simp [pnil?] at hb; subst hb; exact ⟨_, rfl, rfl⟩
  | ptr => simp [pnil?] at hb; subst hb; exact ⟨_, rfl, rfl⟩
  | ptrx => simp [pnil?] at hb; subst hb; exact ⟨_, rfl, rfl⟩
  | _ => simp [pnil?] at hb
theorem q_pnil {op : BinOp} {t u e : TypeId} {x y : Operand} {a : AV} {b r : Bool} {ti : TI} (ho : o.op = .binOp op t x y u := by exact rfl) (hx : s.ev x = a := by conv => lhs; whnf) (ha : pnil? a = some b := by exact rfl) (hy : s.ev y = .v (.pointer none) := by exact rfl)
    (ht : te.get t = some ti := by exact rfl) (hk : ti.k = .ptr e := by exact rfl) (hop : (op = .eql ∧ r = b) ∨ (op = .neq ∧ r = !b) := by first | exact .inl ⟨rfl, rfl⟩ | exact .inr ⟨rfl, rfl⟩)
    (hdd : o.dst = d := by conv => lhs; whnf) (hd : d.all (Nat.blt · n) = true := by exact rfl) : OpOk Try.prog n o s (s.put d (tf r)) :=
  .val hdd hd fun Λ w φ ac hs => by
    have hr := hs.ev x
    rw [hx] at hr
    obtain ⟨ad, e1, e2⟩ := rep_pnil hr ha
    have e3 := run_equal_pnil (a := ad) ((te_ok.tells ht).ptr hk) w
    refine ⟨.bool r, ?_, .v⟩
    rcases hop with ⟨rfl, rfl⟩ | ⟨rfl, rfl⟩ <;> simp [execOp, ho, e1, ev_v hs hy, eqGuard, binOp, e3, e2]
end
def whole (agg : Bool) (xs : List Value) : Value := bif agg then .agg xs.toArray else xs.headD undef
section
variable {P : Program} {te : TE}
end
section
variable {n : Nat} {s : AS} {o : Oper} {d : Option Tmp}
end
end Go.Proofs.Ytahkngplohnliaa.Fw


set_option linter.unusedVariables false
set_option linter.unusedSimpArgs false
namespace Go.Proofs.Ytahkngplohnliaa.Fw
open Go.RowKit
section
variable {ρ : Nat → Bool} {σ : IdMap} {h : Heap} {lo hi : Nat}
theorem lv_nilz {l k : Nat} {α : Type} {f : α → List AV} : LVal ρ σ h lo hi (.v (.slice none 0 k)) (.fz l ([] : List α).length (cl f [])) := lv_nil
theorem lv_row0 {id ver esz : Nat} {α : Type} {f : α → List AV} {l : List α} {ob : AObj} (hi' : σ.inv id = none) (h1 : h id = some ob) (h2 : ObAt ob ver (cl f l)) (hf : ∀ x, (f x).length = esz) (h5 : 0 < esz) (h3 : ∀ x, AV.oks lo (f x) = true) :
    LVal ρ σ h lo hi (.sl id ver 0 l.length esz) (.fz hi l.length (cl f l)) :=
  lv_row hi' h1 h2.at (cl_oks h3) (by rw [cl_length hf]; omega) h5 (by rw [List.drop_zero, List.take_of_length_le (by rw [cl_length hf]; omega)])
theorem lv_row1 {id ver a m : Nat} {α : Type} {f : α → List AV} {l : List α} {ob : AObj} (hi' : σ.inv id = none) (h1 : h id = some ob) (h2 : ObAt ob ver (cl f l)) (hf : ∀ x, (f x).length = 1) (h3 : ∀ x, AV.oks lo (f x) = true) (hm : a + m ≤ l.length) :
    LVal ρ σ h lo hi (.sl id ver a m 1) (.fz hi ((l.drop a).take m).length (cl f ((l.drop a).take m))) := by
  have e : ((l.drop a).take m).length = m := by simp; omega
  rw [e]
  refine lv_row hi' h1 h2.at (cl_oks h3) (by rw [cl_length hf]; omega) (by decide) ?_
  have e1 := cl_drop hf l a
  have e2 := cl_take hf (l.drop a) m
  rw [Nat.mul_one] at e1 e2 ⊢
  rw [e1, e2]
theorem lv_rn {c k ver off len esz : Nat} {ob : AObj} {cells : List AV} (e : σ.get c = some k) (ho : h k = some ob) (hc : ObAt ob ver cells) (hρ : ρ c = true) : LVal ρ σ h lo hi (.sl k ver off len esz) (.sl c 0 off len esz) := lv_sl0 e ho hc.at hρ
theorem lobj_row {α : Type} {f : α → List AV} {l : List α} {e v : Nat} (h3 : ∀ x, AV.oks lo (f x) = true) : LObj ρ σ h lo hi false (.row (cl f l) e v) (.row (cl f l) e v) := ⟨rfl, rfl, lvs_ok (cl_oks h3)⟩
theorem lobj_rown {α : Type} {f : α → List AV} {l : List α} {e v : Nat} (h3 : ∀ x, AV.oks lo (f x) = true) : LObj ρ σ h lo hi true (.row (cl f l) e v) (.row (cl f l) e 0) := ⟨rfl, rfl, lvs_ok (cl_oks h3)⟩
theorem lobj_box {cs cs' : List AV} {rn : Bool} (e : LVals ρ σ h lo hi cs cs') : LObj ρ σ h lo hi rn (.box cs) (.box cs') := e
end
theorem hb_rowc {f : Nat → Nat} {α : Type} {g : α → List AV} {l : List α} {e v : Nat} {lv : Nat} (h : ∀ x, AV.oks lv (g x) = true) : (AObj.row (cl g l) e v).ren f = .row (cl g l) e v := hb_row (cl_oks (lv := lv) h)
theorem hl_row {lv : Nat} {S : Nat → Bool} {α : Type} {g : α → List AV} {l : List α} {e v : Nat} (h : ∀ x, AV.oks lv (g x) = true) : (AObj.row (cl g l) e v).lev lv = true ∧ ObjIn S (.row (cl g l) e v) :=
  ⟨AV.levs_ok (cl_oks h), AV.refss_ok (cl_oks h)⟩
section
variable {n : Nat} {s : AS} {o : Oper} {d : Option Tmp} {Q : APost}
theorem q_callB (lv : Nat) (σ ν : IdMap) (hl' : List (Nat × AObj)) {f : FuncId} {A : List AV} {r r' : AV} {hb hl : List (Nat × AObj)} {fop : Operand} {argops : Array Operand} {tys : Array TypeId} {first caps : List AV}
    (ho : o.op = .call { callee := .value fop, args := argops, argTypes := tys } := by exact rfl) (hf : s.ev fop = .fn (.func f) first caps := by exact rfl)
    (hwf : (σ ++ ν : IdMap).wf = true := by exact rfl) (hwf1 : σ.wf = true := by exact rfl) (h8 : (σ.all fun p => Nat.blt p.1 8) = true := by exact rfl) (hfresh : (ν.all fun p => (s.h p.2).isNone) = true := by exact rfl)
    (hobj : BObjs (fun _ => false) σ s.h lv (lv + 1) σ hb := by repeat' (first | exact trivial | exact lv_ok rfl | exact lv_sl rfl rfl | exact lv_ptr rfl rfl | exact lv_mp rfl rfl | exact lobj_row (fun _ => rfl) | refine lobj_box ?_ | refine ⟨rfl, ⟨_, rfl, ?_⟩, ?_⟩ | refine ⟨?_, ?_⟩))
    (hA : LVals (fun _ => false) σ s.h lv (lv + 1) (first ++ argops.toList.map s.ev ++ caps) A := by repeat' (first | exact trivial | exact lv_ok rfl | exact lv_ptr rfl rfl | exact lv_sl rfl rfl | exact lv_mp rfl rfl | exact lv_nilz | exact lv_row0 rfl rfl .row (fun _ => rfl) (Nat.le_of_ble_eq_true rfl) (fun _ => rfl) | refine ⟨?_, ?_⟩ | exact lv_row1 rfl rfl .row (fun _ => rfl) (fun _ => rfl) (by first | omega | (simp; omega))))
    (hB : HB (IdMap.to (σ ++ ν)) (σ ++ ν) hl hl' := by repeat' (first | exact trivial | exact hb_rowc (lv := 0) (fun _ => rfl) | exact rfl | refine ⟨rfl, rfl, ?_, ?_⟩))
    (hL : HL lv (IdMap.has (σ ++ ν)) hl := by repeat' (first | exact trivial | exact hl_row (fun _ => rfl) | exact ⟨rfl, rfl⟩ | refine ⟨?_, ?_⟩))
    (hr : r.lev lv = true := by exact rfl) (hr2 : r.refs (IdMap.has (σ ++ ν)) = true := by exact rfl) (hr3 : r.ren (IdMap.to (σ ++ ν)) = r' := by conv => lhs; whnf) (hdd : o.dst = d := by conv => lhs; whnf) (hd : d.all (Nat.blt · n) = true := by exact rfl) (hc : AC Try.prog f A (hlook hb) (RetH r hl)) :
    OpOk Try.prog n o s ((s.setl hl').put d r') := ok_callB lv σ ν hb hl' ho hf hc hwf hwf1 h8 hfresh hobj hA hB hL hr hr2 hr3 hdd hd
theorem q_retH (lv : Nat) (rn : List Nat) (xs ys : List AV) (hl : List (Nat × AObj)) {fn : Func} {r : AV} (h3 : resVal ys = r) (h1 : ResOks te s fn.results.toList xs := by repeat' (first | exact trivial | exact res_tmp' | exact res_cell' | refine ⟨?_, ?_⟩))
    (hobj : BObjs (inl rn) (idm hl) s.h lv lv (idm hl) hl := by repeat' (first | exact trivial | exact lv_ok rfl | exact lv_sl rfl rfl | exact lv_rn rfl rfl .row rfl | exact lv_ptr rfl rfl | exact lv_mp rfl rfl | exact lv_nilz | exact lv_row0 rfl rfl .row (fun _ => rfl) (Nat.le_of_ble_eq_true rfl) (fun _ => rfl) | exact lobj_row (fun _ => rfl) | exact lobj_rown (fun _ => rfl) | refine lobj_box ?_ | refine ⟨rfl, ⟨_, rfl, ?_⟩, ?_⟩ | refine ⟨?_, ?_⟩))
    (h2 : LVals (inl rn) (idm hl) s.h lv lv xs ys := by repeat' (first | exact trivial | exact lv_ok rfl | exact lv_ptr rfl rfl | exact lv_sl rfl rfl | exact lv_rn rfl rfl .row rfl | exact lv_mp rfl rfl | exact lv_nilz | exact lv_row0 rfl rfl .row (fun _ => rfl) (Nat.le_of_ble_eq_true rfl) (fun _ => rfl) | refine ⟨?_, ?_⟩))
    (hrn : (rn.all fun c => Nat.ble 8 c) = true := by exact rfl) (hp : pinKept s.h (keys hl) = true := by exact rfl) : Fin te fn (RetH r hl) s := Fin.retH lv rn hl h1 hobj h2 h3 hrn hp
theorem AC.fz {f : FuncId} {A : List AV} {h : Heap} {r r' : AV} {hl : List (Nat × AObj)} (hc : AC Try.prog f A h (RetH r hl)) (lv : Nat) (e : FVal (hlook hl) lv lv r r') (hp : pinFree (hlook hl) = true := by exact rfl) : AC Try.prog f A h (Ret r') := by
  refine ⟨hc.1, fun Λ w φ vals hs ha QQ h1 h2 => hc.2 Λ w φ vals hs ha QQ (fun r1 h' w' φ' v k hs' g hr => ?_) (fun x h' w' φ' k => absurd k.1 (by simp))⟩
  obtain ⟨k1, k2⟩ := k
  cases k1
  subst k2
  obtain ⟨φ2, g1, g2, g3⟩ := Sees.fv e hp w' φ' Λ v hs' hr
  exact h1 r' emp w' φ2 v ⟨rfl, rfl⟩ g1 (g.trans g3) g2
inductive NilTo (s : AS) : AV → Nat → Prop
  | fz {lv m cs} : NilTo s (.fz lv m cs) m
  | sl {id ver off len esz ob cells} (hob : s.h id = some ob) (hat : ObAt ob ver cells) : NilTo s (.sl id ver off len esz) len
theorem AOps.snil {ops : Array Oper} {i : Nat} {rest : List Nat} {op : BinOp} {t u e : TypeId} {x y : Operand} {a : AV} {m l : Nat} {ti : TI} {r : Bool} (ht' : m = 0 → AOps Try.prog n ops Q rest (s.put d (tf r))) (hf' : AOps Try.prog n ops Q rest (s.put d (tf (!r))))
    (hi : ops[i]? = some o := by exact rfl) (hg : o.guard = none := by exact rfl) (ho : o.op = .binOp op t x y u := by exact rfl) (hx : s.ev x = a := by conv => lhs; whnf) (ha : NilTo s a m := by first | exact .fz | exact .sl rfl .row) (hy : s.ev y = .v (.slice none 0 l) := by exact rfl)
    (ht : te.get t = some ti := by exact rfl) (hk : ti.k = .slice e := by exact rfl) (hop : (op = .eql ∧ r = true) ∨ (op = .neq ∧ r = false) := by first | exact .inl ⟨rfl, rfl⟩ | exact .inr ⟨rfl, rfl⟩)
    (hdd : o.dst = d := by conv => lhs; whnf) (hd : d.all (Nat.blt · n) = true := by exact rfl) : AOps Try.prog n ops Q (i :: rest) s := by
  refine AOps.consx hi hg fun Λ w φ ac hs next QQ hN hP => ?_
  have hr := hs.ev x
  rw [hx] at hr
  have hlen : ∃ ad cap, ac.eval x = .slice ad m cap ∧ (ad = none → m = 0) := by
    generalize ac.eval x = v at hr
    cases ha with
    | fz =>
      cases hr with
      | fz0 => exact ⟨_, _, rfl, fun _ => rfl⟩
      | fz => exact ⟨_, _, rfl, fun h => by cases h⟩
    | sl hob hat =>
      obtain ⟨l1, g1, g2⟩ := hs.hs.ver hob hat.at
      cases hr with
      | sl => exact ⟨_, _, rfl, fun h => by cases h⟩
      | sl0 => exact ⟨_, _, rfl, fun _ => rfl⟩
      | slx h1 h2 => rw [g1] at h1; cases h1; omega
  obtain ⟨ad, cap, e1, e0⟩ := hlen
  have e3 := run_equal_snil (a := ad) (k := m) (m := cap) (l := l) ((te_ok.tells ht).slice hk) w
  subst hdd
  have hrun : ∀ q, (op = .eql → q = ad.isNone) → (op = .neq → q = !ad.isNone) → (execOp ac.eval o).run Try.prog w = .ok (.value (.bool q)) w := by
    intro q h1 h2
    rcases hop with ⟨rfl, _⟩ | ⟨rfl, _⟩
    · rw [h1 rfl]; simp [execOp, ho, e1, ev_v hs hy, eqGuard, binOp, e3]
    · rw [h2 rfl]; simp [execOp, ho, e1, ev_v hs hy, eqGuard, binOp, e3]
  cases hn : ad with
  | none =>
    have hq := hrun r (fun h => by rcases hop with ⟨_, h2⟩ | ⟨h1, _⟩; rw [h2, hn]; rfl; rw [h] at h1; cases h1) (fun h => by rcases hop with ⟨h1, _⟩ | ⟨_, h2⟩; rw [h] at h1; cases h1; rw [h2, hn]; rfl)
    unfold Oper.wp
    rw [hq]
    exact hN _ w φ _ (ht' (e0 hn)) (hs.put o.dst hd .v) (Goes.refl w φ)
  | some b =>
    have hq := hrun (!r) (fun h => by rcases hop with ⟨_, h2⟩ | ⟨h1, _⟩; rw [h2, hn]; rfl; rw [h] at h1; cases h1) (fun h => by rcases hop with ⟨h1, _⟩ | ⟨_, h2⟩; rw [h] at h1; cases h1; rw [h2, hn]; rfl)
    unfold Oper.wp
    rw [hq]
    exact hN _ w φ _ hf' (hs.put o.dst hd .v) (Goes.refl w φ)
theorem Weak.full (lv : Nat) (rn : List Nat) {t : List (Nat × AV)} {hl : List (Nat × AObj)} (h1 : HasL s (inl rn) (idm hl) lv t := by repeat' (first | exact trivial | exact lv_ok rfl | exact lv_ptr rfl rfl | exact lv_sl rfl rfl | exact lv_rn rfl rfl .row rfl | exact lv_mp rfl rfl | exact lv_nilz | exact lv_row0 rfl rfl .row (fun _ => rfl) (Nat.le_of_ble_eq_true rfl) (fun _ => rfl) | refine ⟨?_, ?_⟩))
    (hobj : BObjs (inl rn) (idm hl) s.h lv lv (idm hl) hl := by repeat' (first | exact trivial | exact lv_ok rfl | exact lv_sl rfl rfl | exact lv_rn rfl rfl .row rfl | exact lv_ptr rfl rfl | exact lv_mp rfl rfl | exact lv_nilz | exact lv_row0 rfl rfl .row (fun _ => rfl) (Nat.le_of_ble_eq_true rfl) (fun _ => rfl) | exact lobj_row (fun _ => rfl) | exact lobj_rown (fun _ => rfl) | refine lobj_box ?_ | refine ⟨rfl, ⟨_, rfl, ?_⟩, ?_⟩ | refine ⟨?_, ?_⟩))
    (hrn : (rn.all fun c => Nat.ble 8 c) = true := by exact rfl) (hp : pinKept s.h (keys hl) = true := by exact rfl) : Weak s (mkS t hl) := Weak.lv lv rn h1 hobj hrn hp
theorem AOps.weak {P : Program} {ops : Array Oper} {l : List Nat} {s' : AS} (hw : Weak s s') (h : AOps P n ops Q l s') : AOps P n ops Q l s := by
  intro Λ w φ a hs QQ hQ
  obtain ⟨φ1, hs1, g1⟩ := hw n Λ w φ a hs
  exact h Λ w φ1 a hs1 QQ fun ae s2 w2 φ2 a2 q2 hs2 g2 => hQ ae s2 w2 φ2 a2 q2 hs2 (g1.trans g2)
theorem Weak.nilcell (k id j esz : Nat) {α : Type} (f : α → List AV) {cells cells' : List AV} (hk : s.h k = some (.box cells) := by exact rfl) (hid : s.h id = none := by exact rfl) (hj : cells[j]? = some (.v (.slice none 0 0)) := by exact rfl)
    (hc' : cells.set j (.sl id 0 0 ([] : List α).length esz) = cells' := by first | (simp only [List.set_cons_zero, List.set_cons_succ]; rfl) | exact rfl) :
    Weak s ((s.seth id (some (.row (cl f []) esz 0))).seth k (some (.box cells'))) := by
  subst hc'
  intro n Λ w φ a hs
  have hn := hs.hs.dom id hid
  have hc : Chg w φ Λ s.h id ⟨none, 0⟩ w := ⟨hs.hs, Nat.le_refl _, rfl, rfl, rfl, fun _ _ _ => rfl, (fun b' o' h => by cases h), (fun l hl => by rw [hn] at hl; cases hl), (fun l hl => by rw [hn] at hl; cases hl)⟩
  have h1 : HSim w (upd φ id (some ⟨none, 0⟩)) Λ (upd s.h id (some (.row (cl f []) esz 0))) := hc.hsim ⟨rfl, .inl ⟨rfl, rfl⟩⟩
  have hne : k ≠ id := fun e => by rw [e, hid] at hk; cases hk
  refine ⟨upd φ id (some ⟨none, 0⟩), ⟨hs.defs, hs.size, fun i => hc.rep (hs.tmps i), ?_⟩, hc.goes⟩
  refine ⟨fun i ob hi => ?_, fun i hi => ?_, h1.lt, h1.inj, h1.lent⟩
  · by_cases he : i = k
    · subst he
      replace hi : upd (upd s.h id (some (.row (cl f []) esz 0))) i (some (.box (cells.set j (.sl id 0 0 0 esz)))) i = some ob := hi
      rw [upd_same] at hi
      cases hi
      obtain ⟨l, g1, b, arr, T, g2, g3, g4, g5, g6⟩ := h1.heap i (.box cells) (by rw [upd_other _ _ _ _ hne]; exact hk)
      refine ⟨l, g1, b, arr, T, g2, g3, g4, by simpa using g5, fun m c hm => ?_⟩
      rw [List.getElem?_set] at hm
      split at hm
      · rename_i e
        subst e
        obtain ⟨v, e1, e2⟩ := g6 j _ hj
        cases e2
        split at hm
        · cases hm
          exact ⟨_, e1, .sl0 (upd_same _ _ _) rfl⟩
        · cases hm
      · exact g6 m c hm
    · exact h1.heap i ob (by
        have : upd (upd s.h id (some (.row (cl f []) esz 0))) k (some (.box (cells.set j (.sl id 0 0 0 esz)))) i = some ob := hi
        rwa [upd_other _ _ _ _ he] at this)
  · refine h1.dom i ?_
    replace hi : upd (upd s.h id (some (.row (cl f []) esz 0))) k (some (.box (cells.set j (.sl id 0 0 0 esz)))) i = none := hi
    by_cases he : i = k
    · subst he
      rw [upd_same] at hi
      cases hi
    · rwa [upd_other _ _ _ _ he] at hi
end
end Go.Proofs.Ytahkngplohnliaa.Fw


set_option linter.unusedVariables false
set_option linter.unusedSimpArgs false
namespace Go.Proofs.Ytahkngplohnliaa.Fw
open Go.RowKit
def lc {α : Type} (lv : Nat) (f : α → List AV) (l : List α) : List AV := [.fz lv l.length (cl f l)]
theorem getD_mem {α : Type} [Inhabited α] {l : List α} {i : Nat} (h : i < l.length) : l.getD i default ∈ l := by
  rw [List.getD_eq_getElem?_getD, List.getElem?_eq_getElem h]
  exact List.getElem_mem h
section
variable {te : TE}
theorem has_sl {α : Type} {f : α → List AV} {q : α → Prop} {d : Nat} {t e : TypeId} {i j : TI} {cs : List AV} (h : Has te (d + 1) t cs) (hg : te.get t = some i) (hk : i.k = .slice e) (he : te.get e = some j)
    (hq : ∀ c, Has te d e c → ∃ a, c = f a ∧ q a) : ∃ l : List α, cs = [.fz 0 l.length (cl f l)] ∧ l.length * j.bytes ≤ 140737488351232 ∧ ∀ a ∈ l, q a := has_slice h hg hk he hq
theorem has_bytess {d : Nat} {t e e2 : TypeId} {i j j2 : TI} {cs : List AV} (h : Has te (d + 2) t cs) (hg : te.get t = some i) (hk : i.k = .slice e) (he : te.get e = some j) (hj : j.k = .slice e2) (he2 : te.get e2 = some j2) (hj2 : j2.k = .int .u8) (hb2 : j2.bytes = 1) (hb : j.bytes = 24) :
    ∃ l : List (List UInt8), cs = [.fz 0 l.length (cl (lc 0 bc) l)] ∧ l.length * 24 ≤ 140737488351232 ∧ ∀ x ∈ l, x.length ≤ 140737488351232 := by
  obtain ⟨l, h1, h2, h3⟩ := has_sl (f := lc 0 bc) (q := fun x => x.length ≤ 140737488351232) h hg hk he fun c hc => by
    obtain ⟨b, h1, h2⟩ := has_bytes hc he hj he2 hj2 hb2
    exact ⟨b, h1, h2⟩
  exact ⟨l, h1, by rw [hb] at h2; exact h2, h3⟩
end
end Go.Proofs.Ytahkngplohnliaa.Fw


set_option linter.unusedVariables false
set_option linter.unusedSimpArgs false
namespace Go.Proofs.Ytahkngplohnliaa.Fw
open Go.RowKit
def frame (l : List UInt8) : List UInt8 := [byte ((l.length : Int) / 256), byte (l.length : Int)] ++ l
def szN (q : List UInt8) : Int := if q.length < 2 then 0 else 2 + ((q.getD 0 0).toNat * 256 + (q.getD 1 0).toNat : Nat)
def szB (q : List UInt8) : Bool := decide (2 ≤ q.length ∧ szN q ≤ q.length)
theorem szN_lt (q : List UInt8) : 0 ≤ szN q ∧ szN q ≤ 65537 := by
  unfold szN
  have h0 := (q.getD 0 0).toNat_lt
  have h1 := (q.getD 1 0).toNat_lt
  split <;> omega
def feed (b : List UInt8) : List (List UInt8) × List UInt8 :=
  if h : szB b = true then
    let r := feed (b.drop (szN b).toNat)
    (((b.take (szN b).toNat).drop 2) :: r.1, r.2)
  else ([], b)
termination_by b.length
decreasing_by
  have h1 : 2 ≤ b.length ∧ szN b ≤ b.length := by simpa [szB] using h
  have h2 : 2 ≤ szN b := by unfold szN; rw [if_neg (by omega)]; omega
  simp only [List.length_drop]
  omega
theorem feed_yes {b : List UInt8} (h : szB b = true) : feed b = (((b.take (szN b).toNat).drop 2) :: (feed (b.drop (szN b).toNat)).1, (feed (b.drop (szN b).toNat)).2) := by
  rw [feed, dif_pos h]
theorem feed_no {b : List UInt8} (h : szB b = false) : feed b = ([], b) := by
  rw [feed, dif_neg (by simp [h])]
theorem szB_iff {q : List UInt8} : szB q = true ↔ 2 ≤ q.length ∧ szN q ≤ q.length := by simp [szB]
theorem szN_ge {q : List UInt8} (h : szB q = true) : 2 ≤ szN q ∧ szN q ≤ q.length := by
  have h1 := szB_iff.1 h
  refine ⟨?_, h1.2⟩
  unfold szN
  rw [if_neg (by omega)]
  omega
theorem or8 (a b : UInt8) : ((((a.toNat : Int) * 2 ^ 8).toNat ||| ((b.toNat : Int)).toNat : Nat) : Int) = ((a.toNat * 256 + b.toNat : Nat) : Int) := by
  have hb := b.toNat_lt
  have e : ((a.toNat : Int) * 2 ^ 8).toNat = 2 ^ 8 * a.toNat := by omega
  rw [e, Int.toNat_natCast, ← Nat.two_pow_add_eq_or_of_lt (by omega : b.toNat < 2 ^ 8) a.toNat]
  omega
theorem q_or_bytes {n : Nat} {s : AS} {o : Oper} {d : Option Tmp} {t u : TypeId} {x y : Operand} {p q : UInt8} (ho : o.op = .binOp .or t x y u := by exact rfl) (hx : s.ev x = i64 ((p.toNat : Int) * 2 ^ 8) := by exact rfl) (hy : s.ev y = i64 q.toNat := by exact rfl)
    (hdd : o.dst = d := by conv => lhs; whnf) (hd : d.all (Nat.blt · n) = true := by exact rfl) : OpOk Try.prog n o s (s.put d (i64 ((p.toNat * 256 + q.toNat : Nat) : Int))) := by
  have hp := p.toNat_lt
  have hq := q.toNat_lt
  rw [← or8]
  exact q_or ho hx hy (by omega) (by omega) hdd hd
theorem getD_drop0 (w : List UInt8) (a k : Nat) : w.getD (a + k) 0 = (w.drop a).getD k 0 := by simp [List.getD_eq_getElem?_getD]
theorem szN_at {w : List UInt8} {off m : Nat} (hm : off + m = w.length) (h : ¬ (m : Int) < 2) : szN (w.drop off) = 2 + (((w.getD (off + Int.toNat 0 * 1) default).toNat * 256 + (w.getD (off + Int.toNat 1 * 1) default).toNat : Nat) : Int) := by
  have e0 := getD_drop0 w off 0
  have e1 := getD_drop0 w off 1
  rw [szN, if_neg (by simp; omega), ← e0, ← e1]
  rfl
theorem szB_at {w : List UInt8} {off m : Nat} (hm : off + m = w.length) (h : ¬ (m : Int) < 2) : szB (w.drop off) = decide (szN (w.drop off) ≤ (m : Int)) := by
  rw [szB, List.length_drop, show w.length - off = m by omega]
  have : 2 ≤ m := by omega
  simp [this]
def eqF {α : Type} (g : α → α → Bool) : List α → List α → Bool
  | [], [] => true
  | a :: l, b :: m => g a b && eqF g l m
  | _, _ => false
theorem eqF_len {α : Type} {g : α → α → Bool} : ∀ {l m : List α}, l.length ≠ m.length → eqF g l m = false
  | [], [], h => absurd rfl h
  | [], _ :: _, _ => rfl
  | _ :: _, [], _ => rfl
  | a :: l, b :: m, h => by simp [eqF, eqF_len (l := l) (m := m) (by simpa using h)]
theorem eqF_at {α : Type} [Inhabited α] {g : α → α → Bool} : ∀ {l m : List α} {i : Nat}, l.length = m.length → i < l.length → g (l.getD i default) (m.getD i default) = false → eqF g l m = false
  | a :: l, b :: m, 0, _, _, h => by simp_all [eqF]
  | a :: l, b :: m, i + 1, h1, h2, h => by
    simp [eqF, eqF_at (l := l) (m := m) (i := i) (by simpa using h1) (by simpa using h2) (by simpa using h)]
theorem eqF_all {α : Type} [Inhabited α] {g : α → α → Bool} : ∀ {l m : List α}, l.length = m.length → (∀ i, i < l.length → g (l.getD i default) (m.getD i default) = true) → eqF g l m = true
  | [], [], _, _ => rfl
  | a :: l, b :: m, h, k => by
    have h0 := k 0 (by simp)
    simp only [eqF, Bool.and_eq_true]
    exact ⟨by simpa using h0, eqF_all (by simpa using h) fun i hi => by simpa using k (i + 1) (by simpa using hi)⟩
theorem eqF_dec {α : Type} [DecidableEq α] : ∀ {l m : List α}, eqF (fun a b => decide (a = b)) l m = decide (l = m)
  | [], [] => rfl
  | [], _ :: _ => rfl
  | _ :: _, [] => rfl
  | a :: l, b :: m => by simp [eqF, eqF_dec (l := l) (m := m)]
set_option maxRecDepth 20000 in
set_option maxHeartbeats 2000000 in
theorem c_bytes_Equal (l m : List UInt8) (lv lw : Nat) : AC Try.prog 15 [.fz lv l.length (cl bc l), .fz lw m.length (cl bc m)] emp (Ret (tf (decide (l = m)))) := by
 refine AC.intro te_ok (fn := Try.f15) ⟨Try.func15, rfl, rfl⟩ (Nat.le_of_ble_eq_true rfl) ?_
 refine AWp.seq ?_
 refine AWp.region ?_
 refine AOps.cons rfl rfl (q_assign) ?_
 refine AOps.nil ?_
 refine AWp.seq ?_
 refine AWp.region ?_
 refine AOps.cons rfl rfl (q_move) ?_
 refine AOps.cons rfl rfl (by first | exact q_conv_zs | exact q_conv_ls) ?_
 refine AOps.cons rfl rfl (q_move) ?_
 refine AOps.cons rfl rfl (by first | exact q_conv_zs | exact q_conv_ls) ?_
 refine AOps.cons rfl rfl (q_seql) ?_
 refine AOps.cons rfl rfl (q_assign) ?_
 refine AOps.nil ?_
 refine AWp.ret ?_
 show Fin te Try.f15 _ _
 refine q_ret (0) [_] [_] ?_
 first | rfl | (simp; done)
set_option maxRecDepth 20000 in
set_option maxHeartbeats 2000000 in
theorem c_bytes_Clone (l : List UInt8) (lv : Nat) (h : l.length ≤ 140737488351232) : AC Try.prog 22 [.fz lv l.length (cl bc l)] emp (Ret (.fz 0 l.length (cl bc l))) := by
 refine AC.intro te_ok (fn := Try.f22) ⟨Try.func22, rfl, rfl⟩ (Nat.le_of_ble_eq_true rfl) ?_
 refine AWp.seq ?_
 refine AWp.region ?_
 refine AOps.cons rfl rfl (q_nilz (0) bc) ?_
 refine AOps.nil ?_
 refine AWp.seq ?_
 refine AWp.seq ?_
 refine AWp.region ?_
 refine AOps.cons rfl rfl (q_move) ?_
 refine AOps.snil (fun h1_1 => ?_) ?_
 ·
  refine AOps.nil ?_
  refine AWp.cond_t rfl ?_
  refine AWp.seq ?_
  refine AWp.region ?_
  refine AOps.cons rfl rfl (q_nilz (0) bc) ?_
  refine AOps.nil ?_
  refine AWp.ret ?_
  show Fin te Try.f22 _ _
  refine q_ret (0) [_] [_] ?_
  obtain rfl := List.eq_nil_of_length_eq_zero h1_1
  rfl
 ·
  refine AOps.nil ?_
  refine AWp.cond_f rfl ?_
  refine AWp.skip ?_
  refine AWp.seq ?_
  refine AWp.region ?_
  refine AOps.cons rfl rfl (q_bs 400 bc [] []) ?_
  refine AOps.cons rfl rfl (q_move) ?_
  refine AOps.cons rfl rfl (q_app) ?_
  refine AOps.cons rfl rfl (q_assign) ?_
  refine AOps.nil ?_
  refine AWp.ret ?_
  show Fin te Try.f22 _ _
  refine q_ret (0) [_] [_] ?_
  rfl
set_option maxRecDepth 20000 in
set_option maxHeartbeats 2000000 in
theorem co_Clone (l : List UInt8) (lv : Nat) (h : l.length ≤ 140737488351232) : AC Try.prog 22 [.fz lv l.length (cl bc l)] (hlook []) (RetH (.sl 8 0 0 l.length 1) [(8, .row (cl bc l) 1 0)]) := by
 refine AC.intro te_ok (fn := Try.f22) ⟨Try.func22, rfl, rfl⟩ (Nat.le_of_ble_eq_true rfl) ?_
 refine AWp.seq ?_
 refine AWp.region ?_
 refine AOps.cons rfl rfl (q_nilz (0) bc) ?_
 refine AOps.nil ?_
 refine AWp.seq ?_
 refine AWp.seq ?_
 refine AWp.region ?_
 refine AOps.cons rfl rfl (q_move) ?_
 refine AOps.snil (fun h1_1 => ?_) ?_
 ·
  refine AOps.nil ?_
  refine AWp.cond_t rfl ?_
  refine AWp.seq ?_
  refine AWp.region ?_
  refine AOps.cons rfl rfl (q_nilrow 8 1 bc) ?_
  refine AOps.nil ?_
  refine AWp.ret ?_
  show Fin te Try.f22 _ _
  obtain rfl := List.eq_nil_of_length_eq_zero h1_1
  refine q_retH (0) [8] [_] [.sl 8 0 0 _ 1] [(8, .row (cl bc _) 1 0)] ?_
  rfl
 ·
  refine AOps.nil ?_
  refine AWp.cond_f rfl ?_
  refine AWp.skip ?_
  refine AWp.seq ?_
  refine AWp.region ?_
  refine AOps.cons rfl rfl (q_bs 8 bc [] []) ?_
  refine AOps.cons rfl rfl (q_move) ?_
  refine AOps.cons rfl rfl (q_app) ?_
  refine AOps.cons rfl rfl (q_assign) ?_
  refine AOps.nil ?_
  refine AWp.ret ?_
  show Fin te Try.f22 _ _
  refine q_retH (0) [8] [_] [.sl 8 0 0 _ 1] [(8, .row (cl bc _) 1 0)] ?_
  rfl
set_option maxRecDepth 20000 in
set_option maxHeartbeats 2000000 in
theorem c_EqualFunc_bytes (l m : List (List UInt8)) (lv lv' lw lw' : Nat) (g : List UInt8 → List UInt8 → Bool) {fid : Nat} (hl : l.length ≤ 140737488351232) (hg : ∀ x ∈ l, ∀ y ∈ m, AC Try.prog fid [.fz lv' x.length (cl bc x), .fz lw' y.length (cl bc y)] emp (Ret (tf (g x y)))) : AC Try.prog 32 [.fz lv l.length (cl (lc lv' bc) l), .fz lw m.length (cl (lc lw' bc) m), .fn (.func fid) [] []] emp (Ret (tf (eqF g l m))) := by
 refine AC.intro te_ok (fn := Try.f32) ⟨Try.func32, rfl, rfl⟩ (Nat.le_of_ble_eq_true rfl) ?_
 refine AWp.seq ?_
 refine AWp.region ?_
 refine AOps.cons rfl rfl (q_assign) ?_
 refine AOps.nil ?_
 refine AWp.seq ?_
 refine AWp.seq ?_
 refine AWp.region ?_
 refine AOps.cons rfl rfl (q_move) ?_
 refine AOps.cons rfl rfl (q_len) ?_
 refine AOps.cons rfl rfl (q_move) ?_
 refine AOps.cons rfl rfl (q_len) ?_
 refine AOps.dec rfl rfl (q_neq) (fun h1_4 => ?_) (fun h1_4 => ?_)
 ·
  refine AOps.nil ?_
  refine AWp.cond_t rfl ?_
  refine AWp.seq ?_
  refine AWp.region ?_
  refine AOps.cons rfl rfl (q_assign) ?_
  refine AOps.nil ?_
  refine AWp.ret ?_
  show Fin te Try.f32 _ _
  refine q_ret (0) [_] [_] ?_
  exact congrArg tf (eqF_len (by omega)).symm
 ·
  refine AOps.nil ?_
  refine AWp.cond_f rfl ?_
  refine AWp.skip ?_
  refine AWp.seq ?_
  refine AWp.seq ?_
  refine AWp.region ?_
  refine AOps.cons rfl rfl (q_move) ?_
  refine AOps.cons rfl rfl (q_len) ?_
  refine AOps.cons rfl rfl (q_move) ?_
  refine AOps.nil ?_
  refine AWp.block ?_
  refine AWp.loopR (α := Nat) [6, 7, 8, 9, 17, 18, 19, 20, 21, 22, 23, 24, 25, 26, 27, 28, 29, 30, 31] (fun i => [(17, i64 i)]) (fun i => []) (fun i => i ≤ l.length ∧ ∀ k, k < i → g (l.getD k default) (m.getD k default) = true) (fun i => l.length - i) 0 ?_ (Back.mk' (HasT.cons HasT.nil) HasH.nil) ?_
  ·
   exact ⟨Nat.zero_le _, fun k h => by omega⟩
  ·
   rintro i ⟨hi, hI⟩
   have hlen : l.length = m.length := by omega
   refine AWp.seq ?_
   refine AWp.region ?_
   refine AOps.dec rfl rfl (q_lss) (fun h4_0 => ?_) (fun h4_0 => ?_)
   ·
    refine AOps.nil ?_
    refine AWp.seq ?_
    refine AWp.cond_t rfl ?_
    refine AWp.skip ?_
    refine AWp.seq ?_
    refine AWp.block ?_
    refine AWp.seq ?_
    refine AWp.region ?_
    refine AOps.cons rfl rfl (q_move) ?_
    refine AOps.cons rfl rfl (q_ix) ?_
    refine AOps.cons rfl rfl (q_load) ?_
    refine AOps.cons rfl rfl (q_assign) ?_
    refine AOps.cons rfl rfl (q_assign) ?_
    refine AOps.nil ?_
    refine AWp.seq ?_
    refine AWp.region ?_
    refine AOps.cons rfl rfl (q_move) ?_
    refine AOps.cons rfl rfl (q_move) ?_
    refine AOps.cons rfl rfl (q_ix) ?_
    refine AOps.cons rfl rfl (q_load) ?_
    refine AOps.cons rfl rfl (q_assign) ?_
    refine AOps.nil ?_
    refine AWp.seq ?_
    refine AWp.region ?_
    refine AOps.cons rfl rfl (q_move) ?_
    refine AOps.cons rfl rfl (q_move) ?_
    refine AOps.cons rfl rfl (q_move) ?_
    refine AOps.bool rfl rfl (q_call (lv + lv' + lw + lw') (hc := (hg _ (getD_mem (i := i) (by omega)) _ (getD_mem (i := i) (by omega))))) (fun h7_3 => ?_) (fun h7_3 => ?_)
    ·
     refine AOps.cons rfl rfl (q_not) ?_
     refine AOps.nil ?_
     refine AWp.cond_f rfl ?_
     refine AWp.skip ?_
     refine AWp.region ?_
     refine AOps.cons rfl rfl (q_add) ?_
     refine AOps.cons rfl rfl (q_move) ?_
     refine AOps.nil ?_
     refine ⟨i + 1, ?_, Back.mk' (HasT.cons HasT.nil) HasH.nil, ?_⟩
     ·
      refine ⟨by omega, fun k hk => ?_⟩
      rcases Nat.lt_or_ge k i with h | h
      · exact hI k h
      · obtain rfl : k = i := by omega
        exact h7_3
     ·
      first | omega | (simp; omega)
    ·
     refine AOps.cons rfl rfl (q_not) ?_
     refine AOps.nil ?_
     refine AWp.cond_t rfl ?_
     refine AWp.seq ?_
     refine AWp.region ?_
     refine AOps.cons rfl rfl (q_assign) ?_
     refine AOps.nil ?_
     refine AWp.ret ?_
     show Fin te Try.f32 _ _
     refine q_ret (0) [_] [_] ?_
     exact congrArg tf (eqF_at (i := i) hlen (by omega) h7_3).symm
   ·
    refine AOps.nil ?_
    refine AWp.seq ?_
    refine AWp.cond_f rfl ?_
    refine AWp.exit ?_
    refine AWp.seq ?_
    refine AWp.region ?_
    refine AOps.cons rfl rfl (q_assign) ?_
    refine AOps.nil ?_
    refine AWp.ret ?_
    show Fin te Try.f32 _ _
    refine q_ret (0) [_] [_] ?_
    exact congrArg tf (eqF_all hlen fun k hk => hI k (by omega)).symm
set_option maxRecDepth 20000 in
set_option maxHeartbeats 2000000 in
theorem c_ciceroneplain_SameTexts (l m : List (List UInt8)) (lv lv' lw lw' : Nat) (hl : l.length ≤ 140737488351232) : AC Try.prog 23 [.fz lv l.length (cl (lc lv' bc) l), .fz lw m.length (cl (lc lw' bc) m)] emp (Ret (tf (decide (l = m)))) := by
 refine AC.intro te_ok (fn := Try.f23) ⟨Try.func23, rfl, rfl⟩ (Nat.le_of_ble_eq_true rfl) ?_
 refine AWp.seq ?_
 refine AWp.region ?_
 refine AOps.cons rfl rfl (q_assign) ?_
 refine AOps.nil ?_
 refine AWp.seq ?_
 refine AWp.region ?_
 refine AOps.cons rfl rfl (q_move) ?_
 refine AOps.cons rfl rfl (q_move) ?_
 refine AOps.cons rfl rfl (q_call (lv + lv' + lw + lw') (hc := (c_EqualFunc_bytes l m lv lv' lw lw' (fun a b => decide (a = b)) hl (fun x _ y _ => c_bytes_Equal x y lv' lw')))) ?_
 refine AOps.cons rfl rfl (q_assign) ?_
 refine AOps.nil ?_
 refine AWp.ret ?_
 show Fin te Try.f23 _ _
 refine q_ret (0) [_] [_] ?_
 exact congrArg tf eqF_dec
set_option maxRecDepth 20000 in
set_option maxHeartbeats 2000000 in
theorem c_size (w : List UInt8) (v off m : Nat) (b : Bool) (hm : off + m = w.length) (hw : w.length ≤ 140737488355328) : AC Try.prog 31 [.ptr 0 0 0] (hlook [(0, .box [.sl 1 v off m 1, tf b]), (1, .row (cl bc w) 1 v)]) (RetH (.tup [i64 (szN (w.drop off)), tf (szB (w.drop off))]) [(0, .box [.sl 1 v off m 1, tf b]), (1, .row (cl bc w) 1 v)]) := by
 refine AC.intro te_ok (fn := Try.f31) ⟨Try.func31, rfl, rfl⟩ (Nat.le_of_ble_eq_true rfl) ?_
 refine AWp.seq ?_
 refine AWp.region ?_
 refine AOps.cons rfl rfl (q_assign) ?_
 refine AOps.cons rfl rfl (q_assign) ?_
 refine AOps.nil ?_
 refine AWp.seq ?_
 refine AWp.seq ?_
 refine AWp.region ?_
 refine AOps.cons rfl rfl (q_move) ?_
 refine AOps.cons rfl rfl (q_nil) ?_
 refine AOps.cons rfl rfl (q_fa) ?_
 refine AOps.cons rfl rfl (q_load) ?_
 refine AOps.cons rfl rfl (q_len) ?_
 refine AOps.dec rfl rfl (q_lss) (fun h1_5 => ?_) (fun h1_5 => ?_)
 ·
  refine AOps.nil ?_
  refine AWp.cond_t rfl ?_
  refine AWp.seq ?_
  refine AWp.region ?_
  refine AOps.cons rfl rfl (q_assign) ?_
  refine AOps.cons rfl rfl (q_assign) ?_
  refine AOps.nil ?_
  refine AWp.ret ?_
  show Fin te Try.f31 _ _
  refine q_retH (0) [] [_, _] [_, _] [(0, .box [.sl 1 v off m 1, tf b]), (1, .row (cl bc w) 1 v)] ?_
  rw [szB, szN, if_pos (by simp; omega), decide_eq_false (by simp; omega)]; rfl
 ·
  refine AOps.nil ?_
  refine AWp.cond_f rfl ?_
  refine AWp.skip ?_
  refine AWp.seq ?_
  have hb0 := (w.getD (off + Int.toNat 0 * 1) default).toNat_lt
  have hb1 := (w.getD (off + Int.toNat 1 * 1) default).toNat_lt
  have hb2 := (w[off]?.getD default).toNat_lt
  have hb3 := (w[off + 1]?.getD default).toNat_lt
  refine AWp.draws [⟨0, [0], [], some 11, _, []⟩,
      ⟨1, [11], [0], some 12, _, []⟩,
      ⟨2, [12], [0], some 13, _, []⟩,
      ⟨3, [13], [0], some 14, _, []⟩,
      ⟨4, [14], [1], some 15, _, []⟩,
      ⟨5, [15], [1], some 16, _, []⟩,
      ⟨6, [16], [], some 17, _, []⟩,
      ⟨7, [17], [], some 18, _, []⟩,
      ⟨8, [0], [], some 19, _, []⟩,
      ⟨9, [19], [0], some 20, _, []⟩,
      ⟨10, [20], [0], some 21, _, []⟩,
      ⟨11, [21], [0], some 22, _, []⟩,
      ⟨12, [22], [1], some 23, _, []⟩,
      ⟨13, [23], [1], some 24, _, []⟩,
      ⟨14, [24], [], some 25, _, []⟩,
      ⟨15, [18, 25], [], some 26, _, []⟩,
      ⟨16, [26], [], some 27, _, []⟩,
      ⟨17, [27], [], some 4, _, []⟩]
   [⟨0, [0], [], some 11, .any, []⟩,
       ⟨1, [11], [0], some 12, .any, []⟩,
       ⟨2, [12], [0], some 13, .any, []⟩,
       ⟨3, [13], [0], some 14, .any, []⟩,
       ⟨4, [14], [1], some 15, .any, []⟩,
       ⟨5, [15], [1], some 16, .any, []⟩,
       ⟨6, [16], [], some 17, .any, []⟩,
       ⟨7, [17], [], some 18, .any, []⟩,
       ⟨8, [0], [], some 19, .any, []⟩,
       ⟨9, [19], [0], some 20, .any, []⟩,
       ⟨10, [20], [0], some 21, .any, []⟩,
       ⟨11, [21], [0], some 22, .any, []⟩,
       ⟨12, [22], [1], some 23, .any, []⟩,
       ⟨13, [23], [1], some 24, .any, []⟩,
       ⟨14, [24], [], some 25, .any, []⟩,
       ⟨15, [18, 25], [], some 26, .any, []⟩,
       ⟨16, [26], [], some 27, .any, []⟩,
       ⟨17, [27], [], some 4, .any, []⟩]
   mixed_ok rfl (by kernel_rfl) ⟨DS.ok_over fun s0 => OpAt.go rfl rfl (q_move),
       DS.ok_over fun s0 => OpAt.go rfl rfl (q_nil),
       DS.ok_over fun s0 => OpAt.go rfl rfl (q_fa),
       DS.ok_over fun s0 => OpAt.go rfl rfl (q_load),
       DS.ok_over fun s0 => OpAt.go rfl rfl (q_ix),
       DS.ok_over fun s0 => OpAt.go rfl rfl (q_load),
       DS.ok_over fun s0 => OpAt.go rfl rfl (q_conv_8i),
       DS.ok_over fun s0 => OpAt.go rfl rfl (q_shl 8),
       DS.ok_over fun s0 => OpAt.go rfl rfl (q_move),
       DS.ok_over fun s0 => OpAt.go rfl rfl (q_nil),
       DS.ok_over fun s0 => OpAt.go rfl rfl (q_fa),
       DS.ok_over fun s0 => OpAt.go rfl rfl (q_load),
       DS.ok_over fun s0 => OpAt.go rfl rfl (q_ix),
       DS.ok_over fun s0 => OpAt.go rfl rfl (q_load),
       DS.ok_over fun s0 => OpAt.go rfl rfl (q_conv_8i),
       DS.ok_over fun s0 => OpAt.go rfl rfl (q_or_bytes),
       DS.ok_over fun s0 => OpAt.go rfl rfl (q_add),
       DS.ok_over fun s0 => OpAt.go rfl rfl (q_assign), trivial⟩ ?_
  dsimp only [final, DS.upd, AS.seto]
  refine AWp.seq ?_
  refine AWp.draws [⟨0, [4], [], some 28, _, []⟩,
      ⟨1, [4], [], some 29, _, []⟩,
      ⟨2, [0], [], some 30, _, []⟩,
      ⟨3, [30], [0], some 31, _, []⟩,
      ⟨4, [31], [0], some 32, _, []⟩,
      ⟨5, [32], [0], some 33, _, []⟩,
      ⟨6, [33], [1], some 34, _, []⟩,
      ⟨7, [29, 34], [], some 35, _, []⟩,
      ⟨8, [28], [], some 2, _, []⟩,
      ⟨9, [35], [], some 3, _, []⟩]
   [⟨0, [4], [], some 28, .any, []⟩,
       ⟨1, [4], [], some 29, .any, []⟩,
       ⟨2, [0], [], some 30, .any, []⟩,
       ⟨3, [30], [0], some 31, .any, []⟩,
       ⟨4, [31], [0], some 32, .any, []⟩,
       ⟨5, [32], [0], some 33, .any, []⟩,
       ⟨6, [33], [1], some 34, .any, []⟩,
       ⟨7, [29, 34], [], some 35, .any, []⟩,
       ⟨8, [28], [], some 2, .any, []⟩,
       ⟨9, [35], [], some 3, .any, []⟩]
   mixed_ok rfl (by kernel_rfl) ⟨DS.ok_over fun s0 => OpAt.go rfl rfl (q_move),
       DS.ok_over fun s0 => OpAt.go rfl rfl (q_move),
       DS.ok_over fun s0 => OpAt.go rfl rfl (q_move),
       DS.ok_over fun s0 => OpAt.go rfl rfl (q_nil),
       DS.ok_over fun s0 => OpAt.go rfl rfl (q_fa),
       DS.ok_over fun s0 => OpAt.go rfl rfl (q_load),
       DS.ok_over fun s0 => OpAt.go rfl rfl (q_len),
       DS.ok_over fun s0 => OpAt.go rfl rfl (q_leq),
       DS.ok_over fun s0 => OpAt.go rfl rfl (q_assign),
       DS.ok_over fun s0 => OpAt.go rfl rfl (q_assign), trivial⟩ ?_
  dsimp only [final, DS.upd, AS.seto]
  refine AWp.ret ?_
  show Fin te Try.f31 _ _
  refine q_retH (0) [] [_, _] [_, _] [(0, .box [.sl 1 v off m 1, tf b]), (1, .row (cl bc w) 1 v)] ?_
  rw [szB_at hm h1_5, szN_at hm h1_5]; rfl
set_option maxRecDepth 20000 in
set_option maxHeartbeats 2000000 in
theorem c_Feed (w c : List UInt8) (v off m lv : Nat) (hm : off + m = w.length) (hw : m + c.length ≤ 11728124029610) : AC Try.prog 20 [.ptr 0 0 0, .fz lv c.length (cl bc c)] (hlook [(0, .box [.sl 1 v off m 1, tf true]), (1, .row (cl bc w) 1 v)]) (RetH (.fz 0 (feed (w.drop off ++ c)).1.length (cl (lc 0 bc) (feed (w.drop off ++ c)).1)) [(0, .box [.sl 1 (v + 1) ((w.drop off ++ c).length - (feed (w.drop off ++ c)).2.length) (feed (w.drop off ++ c)).2.length 1, tf true]), (1, .row (cl bc (w.drop off ++ c)) 1 (v + 1))]) := by
 have hW : (w.drop off ++ c).length = m + c.length := by simp; omega
 refine AC.intro te_ok (fn := Try.f20) ⟨Try.func20, rfl, rfl⟩ (Nat.le_of_ble_eq_true rfl) ?_
 refine AWp.seq ?_
 refine AWp.region ?_
 refine AOps.cons rfl rfl (q_nilz (0) (lc 0 bc)) ?_
 refine AOps.nil ?_
 refine AWp.seq ?_
 refine AWp.seq ?_
 refine AWp.region ?_
 refine AOps.cons rfl rfl (q_move) ?_
 refine AOps.cons rfl rfl (q_pnil) ?_
 refine AOps.cons rfl rfl (q_move) ?_
 refine AOps.gcons rfl rfl rfl rfl rfl (q_move) ?_
 refine AOps.gcons rfl rfl rfl rfl rfl (q_nil) ?_
 refine AOps.gcons rfl rfl rfl rfl rfl (q_fa) ?_
 refine AOps.gcons rfl rfl rfl rfl rfl ((OpOk.bool_is (c := true) (q_load) (rfl))) ?_
 refine AOps.gcons rfl rfl rfl rfl rfl (q_not) ?_
 refine AOps.cons rfl rfl (q_pick) ?_
 refine AOps.nil ?_
 refine AWp.cond_f rfl ?_
 refine AWp.skip ?_
 refine AWp.seq ?_
 refine AWp.region ?_
 refine AOps.cons rfl rfl (q_nilrow 400 1 (lc 0 bc)) ?_
 refine AOps.nil ?_
 refine AWp.seq ?_
 refine AWp.region ?_
 refine AOps.cons rfl rfl (q_move) ?_
 refine AOps.cons rfl rfl (q_move) ?_
 refine AOps.cons rfl rfl (q_nil) ?_
 refine AOps.cons rfl rfl (q_fa) ?_
 refine AOps.cons rfl rfl (q_fa) ?_
 refine AOps.cons rfl rfl (q_load) ?_
 refine AOps.cons rfl rfl (q_move) ?_
 refine AOps.cons rfl rfl (q_appo off) ?_
 refine AOps.cons rfl rfl (q_nil) ?_
 refine AOps.cons rfl rfl (q_fa) ?_
 refine AOps.cons rfl rfl (q_fa) ?_
 refine AOps.cons rfl rfl (q_store) ?_
 refine AOps.nil ?_
 refine AWp.seq ?_
 refine AWp.seq ?_
 refine AWp.region ?_
 refine AOps.cons rfl rfl (q_move) ?_
 refine AOps.cons rfl rfl (q_nil) ?_
 refine AOps.cons rfl rfl (q_fa) ?_
 refine AOps.cons rfl rfl (q_callB (lv) [(0, 0), (1, 1)] [] [(_, _), (_, _)] (hc := c_size (w.drop off ++ c) (v + 1) 0 _ true (by omega) (by omega))) ?_
 refine AOps.cons rfl rfl (q_move) ?_
 refine AOps.cons rfl rfl (q_extract) ?_
 refine AOps.cons rfl rfl (q_extract) ?_
 refine AOps.cons rfl rfl (q_assign) ?_
 refine AOps.cons rfl rfl (q_assign) ?_
 refine AOps.nil ?_
 refine AWp.block ?_
 refine AWp.loopR (α := List (List UInt8) × Nat × Nat × Nat) [5, 6, 7, 35, 36, 37, 38, 39, 40, 41, 42, 43, 44, 45, 46, 47, 48, 49, 50, 51, 52, 53, 54, 55, 56, 57, 58, 59, 60, 61, 62, 63, 64] (fun x_ => [(5, .sl 400 (x_.2.2.2) 0 (x_.1).length 1), (6, i64 (szN ((w.drop off ++ c).drop (x_.2.1)))), (7, tf (szB ((w.drop off ++ c).drop (x_.2.1))))]) (fun x_ => [(0, .box [.sl 1 (v + 1) (x_.2.1) (x_.2.2.1) 1, tf true]), (1, .row (cl bc (w.drop off ++ c)) 1 (v + 1)), (400, .row (cl (lc 0 bc) (x_.1)) 1 (x_.2.2.2))]) (fun x_ => (x_.2.1) + (x_.2.2.1) = (w.drop off ++ c).length ∧ (x_.1).length * 2 ≤ (x_.2.1) ∧ feed (w.drop off ++ c) = ((x_.1) ++ (feed ((w.drop off ++ c).drop (x_.2.1))).1, (feed ((w.drop off ++ c).drop (x_.2.1))).2)) (fun x_ => (w.drop off ++ c).length - (x_.2.1)) ([], 0, (w.drop off ++ c).length, 0) ?_ (Back.mk' (HasT.cons (HasT.cons (HasT.cons HasT.nil))) (HasH.cons (HasH.cons (HasH.cons HasH.nil)))) ?_
 ·
  exact ⟨by simp, by simp, by simp⟩
 ·
  rintro ⟨fs, k, q, vf⟩ hI6
  change k + q = (w.drop off ++ c).length ∧ fs.length * 2 ≤ k ∧ feed (w.drop off ++ c) = (fs ++ (feed ((w.drop off ++ c).drop k)).1, (feed ((w.drop off ++ c).drop k)).2) at hI6
  obtain ⟨hk, hfs, hI⟩ := hI6
  refine AWp.as (s' := AS.over _ [5, 6, 7, 35, 36, 37, 38, 39, 40, 41, 42, 43, 44, 45, 46, 47, 48, 49, 50, 51, 52, 53, 54, 55, 56, 57, 58, 59, 60, 61, 62, 63, 64] [(5, .sl 400 vf 0 fs.length 1), (6, i64 (szN ((w.drop off ++ c).drop k))), (7, tf (szB ((w.drop off ++ c).drop k)))] [(0, .box [.sl 1 (v + 1) k q 1, tf true]), (1, .row (cl bc (w.drop off ++ c)) 1 (v + 1)), (400, .row (cl (lc 0 bc) fs) 1 vf)]) rfl ?_
  refine AWp.seq ?_
  refine AWp.seq ?_
  refine AWp.region ?_
  refine AOps.bool rfl rfl (q_move) (fun h6_0 => ?_) (fun h6_0 => ?_)
  ·
   refine AOps.nil ?_
   refine AWp.cond_t rfl ?_
   refine AWp.skip ?_
   refine AWp.seq ?_
   refine AWp.block ?_
   refine AWp.seq ?_
   refine AWp.region ?_
   have hn := szN_ge h6_0
   rw [List.length_drop] at hn
   refine AOps.cons rfl rfl (q_move) ?_
   refine AOps.cons rfl rfl (q_move) ?_
   refine AOps.cons rfl rfl (q_nil) ?_
   refine AOps.cons rfl rfl (q_fa) ?_
   refine AOps.cons rfl rfl (q_fa) ?_
   refine AOps.cons rfl rfl (q_load) ?_
   refine AOps.cons rfl rfl (q_move) ?_
   refine AOps.cons rfl rfl (q_sl) ?_
   refine AOps.cons rfl rfl (q_call (lv) (hc := c_bytes_Clone _ _ (by first | assumption | omega | decide | (simp; omega) | (simp [*]; done)))) ?_
   refine AOps.cons rfl rfl (q_bs 909 (lc 0 bc) [_] [(_, _)]) ?_
   refine AOps.cons rfl rfl (q_app) ?_
   refine AOps.cons rfl rfl (q_assign) ?_
   refine AOps.nil ?_
   refine AWp.region ?_
   refine AOps.cons rfl rfl (q_move) ?_
   refine AOps.cons rfl rfl (q_move) ?_
   refine AOps.cons rfl rfl (q_nil) ?_
   refine AOps.cons rfl rfl (q_fa) ?_
   refine AOps.cons rfl rfl (q_fa) ?_
   refine AOps.cons rfl rfl (q_load) ?_
   refine AOps.cons rfl rfl (q_move) ?_
   refine AOps.cons rfl rfl (q_sl) ?_
   refine AOps.cons rfl rfl (q_nil) ?_
   refine AOps.cons rfl rfl (q_fa) ?_
   refine AOps.cons rfl rfl (q_fa) ?_
   refine AOps.cons rfl rfl (q_store) ?_
   refine AOps.nil ?_
   refine AWp.region ?_
   refine AOps.cons rfl rfl (q_move) ?_
   refine AOps.cons rfl rfl (q_nil) ?_
   refine AOps.cons rfl rfl (q_fa) ?_
   refine AOps.cons rfl rfl (q_callB (lv) [(0, 0), (1, 1)] [] [(_, _), (_, _)] (hc := c_size (w.drop off ++ c) (v + 1) _ _ true (by omega) (by omega))) ?_
   refine AOps.cons rfl rfl (q_move) ?_
   refine AOps.cons rfl rfl (q_extract) ?_
   refine AOps.cons rfl rfl (q_extract) ?_
   refine AOps.cons rfl rfl (q_assign) ?_
   refine AOps.cons rfl rfl (q_assign) ?_
   refine AOps.nil ?_
   refine ⟨(_, _, _, _), ?_, Back.mk' (HasT.cons (HasT.cons (HasT.cons HasT.nil))) (HasH.cons (HasH.cons (HasH.cons HasH.nil))), ?_⟩
   ·
    try dsimp only
    rw [feed_yes h6_0, List.drop_drop] at hI
    refine ⟨by omega, by simp only [List.length_append, List.length_cons, List.length_nil]; omega, ?_⟩
    rw [hI, List.append_assoc, List.drop_take, List.drop_drop]
    simp
   ·
    try dsimp only
    omega
  ·
   refine AOps.nil ?_
   refine AWp.cond_f rfl ?_
   refine AWp.exit ?_
   refine AWp.seq ?_
   refine AWp.region ?_
   refine AOps.cons rfl rfl (q_move) ?_
   refine AOps.cons rfl rfl (q_assign) ?_
   refine AOps.nil ?_
   refine AWp.ret ?_
   show Fin te Try.f20 _ _
   rw [feed_no h6_0] at hI
   obtain rfl : q = (feed (w.drop off ++ c)).2.length := by rw [hI]; simp only [List.length_drop]; omega
   obtain rfl : k = (w.drop off ++ c).length - (feed (w.drop off ++ c)).2.length := by omega
   refine q_retH (0) [] [_] [_] [(0, .box [.sl 1 (v + 1) ((w.drop off ++ c).length - (feed (w.drop off ++ c)).2.length) (feed (w.drop off ++ c)).2.length 1, tf true]), (1, .row (cl bc (w.drop off ++ c)) 1 (v + 1))] ?_
   rw [hI]; simp [resVal]
set_option maxRecDepth 20000 in
set_option maxHeartbeats 2000000 in
theorem c_Left (w : List UInt8) (v off m : Nat) (b : Bool) : AC Try.prog 21 [.ptr 0 0 0] (hlook [(0, .box [.sl 1 v off m 1, tf b]), (1, .row (cl bc w) 1 v)]) (RetH (i64 m) [(0, .box [.sl 1 v off m 1, tf b]), (1, .row (cl bc w) 1 v)]) := by
 refine AC.intro te_ok (fn := Try.f21) ⟨Try.func21, rfl, rfl⟩ (Nat.le_of_ble_eq_true rfl) ?_
 refine AWp.seq ?_
 refine AWp.region ?_
 refine AOps.cons rfl rfl (q_assign) ?_
 refine AOps.nil ?_
 refine AWp.seq ?_
 refine AWp.seq ?_
 refine AWp.region ?_
 refine AOps.cons rfl rfl (q_move) ?_
 refine AOps.cons rfl rfl (q_pnil) ?_
 refine AOps.nil ?_
 refine AWp.cond_f rfl ?_
 refine AWp.skip ?_
 refine AWp.seq ?_
 refine AWp.region ?_
 refine AOps.cons rfl rfl (q_move) ?_
 refine AOps.cons rfl rfl (q_nil) ?_
 refine AOps.cons rfl rfl (q_fa) ?_
 refine AOps.cons rfl rfl (q_fa) ?_
 refine AOps.cons rfl rfl (q_load) ?_
 refine AOps.cons rfl rfl (q_len) ?_
 refine AOps.cons rfl rfl (q_assign) ?_
 refine AOps.nil ?_
 refine AWp.ret ?_
 show Fin te Try.f21 _ _
 refine q_retH (0) [] [_] [_] [(0, .box [.sl 1 v off m 1, tf b]), (1, .row (cl bc w) 1 v)] ?_
 rfl
set_option maxRecDepth 20000 in
set_option maxHeartbeats 2000000 in
theorem c_prefix_New  : AC Try.prog 19 [] (hlook []) (RetH (.ptr 8 0 0) [(8, .box [.sl 9 0 0 0 1, tf true]), (9, .row (cl bc []) 1 0)]) := by
 refine AC.intro te_ok (fn := Try.f19) ⟨Try.func19, rfl, rfl⟩ (Nat.le_of_ble_eq_true rfl) ?_
 refine AWp.seq ?_
 refine AWp.region ?_
 refine AOps.cons rfl rfl (q_assign) ?_
 refine AOps.nil ?_
 refine AWp.seq ?_
 refine AWp.region ?_
 refine AOps.cons rfl rfl (q_build [(_, _)]) ?_
 refine AOps.cons rfl rfl (q_box 8) ?_
 refine AOps.cons rfl rfl (q_assign) ?_
 refine AOps.weak (Weak.nilcell 8 9 0 1 bc) ?_
 refine AOps.nil ?_
 refine AWp.ret ?_
 show Fin te Try.f19 _ _
 refine q_retH (0) [] [_] [.ptr 8 0 0] [(8, .box [.sl 9 0 0 0 1, tf true]), (9, .row (cl bc []) 1 0)] ?_
 rfl
end Go.Proofs.Ytahkngplohnliaa.Fw


set_option linter.unusedVariables false
set_option linter.unusedSimpArgs false
namespace Go.Proofs.Ytahkngplohnliaa.Fw
open Go.RowKit
end Go.Proofs.Ytahkngplohnliaa.Fw


set_option linter.unusedVariables false
set_option linter.unusedSimpArgs false
namespace Go.Proofs.Ytahkngplohnliaa.Fw
open Go.RowKit
end Go.Proofs.Ytahkngplohnliaa.Fw


set_option linter.unusedVariables false
set_option linter.unusedSimpArgs false
namespace Go.Proofs.Ytahkngplohnliaa.Fw
open Go.RowKit
theorem feed_go {q : List UInt8} (h : 2 ≤ q.length) (h2 : 2 + ((q.getD 0 default).toNat * 256 + (q.getD 1 default).toNat) ≤ q.length) : feed q = (((q.take (2 + ((q.getD 0 default).toNat * 256 + (q.getD 1 default).toNat))).drop 2) :: (feed (q.drop (2 + ((q.getD 0 default).toNat * 256 + (q.getD 1 default).toNat)))).1, (feed (q.drop (2 + ((q.getD 0 default).toNat * 256 + (q.getD 1 default).toNat)))).2) := by
  have e : szN q = ((2 + ((q.getD 0 default).toNat * 256 + (q.getD 1 default).toNat) : Nat) : Int) := by
    have e0 : q.getD 0 (0 : UInt8) = q.getD 0 default := rfl
    have e1 : q.getD 1 (0 : UInt8) = q.getD 1 default := rfl
    rw [szN, if_neg (by omega), e0, e1]
    omega
  have hb : szB q = true := by rw [szB_iff, e]; omega
  rw [feed_yes hb, e]; rfl
theorem xor_step {a a2 : List UInt8} {j : Nat} (h : j < a.length) (e : a2 = (a.take j).map (· ^^^ 255) ++ a.drop j) : a2.set j (a2.getD j default ^^^ 255) = (a.take (j + 1)).map (· ^^^ 255) ++ a.drop (j + 1) := by
  have h1 : ((a.take j).map (· ^^^ (255 : UInt8))).length = j := by rw [List.length_map, List.length_take]; omega
  have h2 : a2.getD j default = a.getD j default := by
    rw [e, List.getD_eq_getElem?_getD, List.getElem?_append_right (by omega), h1, Nat.sub_self, List.getElem?_drop, Nat.add_zero, ← List.getD_eq_getElem?_getD]
  rw [h2, e, List.set_append_right _ _ (by omega), h1, Nat.sub_self, List.drop_eq_getElem_cons h, List.set_cons_zero, List.take_succ_eq_append_getElem h, List.map_append, List.append_assoc]
  simp [List.getD_eq_getElem?_getD, List.getElem?_eq_getElem h]
theorem feed_stop {q : List UInt8} (h : q.length < 2 ∨ q.length < 2 + ((q.getD 0 default).toNat * 256 + (q.getD 1 default).toNat)) : feed q = ([], q) := by
  refine feed_no ?_
  cases hb : szB q with
  | false => rfl
  | true =>
    obtain ⟨h1, h2⟩ := szB_iff.1 hb
    rw [szN, if_neg (by omega)] at h2
    have e : (q.getD 0 0).toNat * 256 + (q.getD 1 0).toNat = ((q.getD 0 default).toNat * 256 + (q.getD 1 default).toNat) := rfl
    rw [e] at h2
    omega
set_option maxRecDepth 20000 in
set_option maxHeartbeats 2000000 in
theorem c_rFeed (b c : List UInt8) (lv : Nat) (hw : b.length + c.length ≤ 11728124029610) : AC Try.prog 24 [.ptr 0 0 0, .fz lv c.length (cl bc c)] (hlook [(0, .box [.fz 0 b.length (cl bc b)])]) (RetH (.fz 0 (feed (b ++ c)).1.length (cl (lc 0 bc) (feed (b ++ c)).1)) [(0, .box [.fz 0 (feed (b ++ c)).2.length (cl bc (feed (b ++ c)).2)])]) := by
 have hW : (b ++ c).length = b.length + c.length := by simp
 refine AC.intro te_ok (fn := Try.f24) ⟨Try.func24, rfl, rfl⟩ (Nat.le_of_ble_eq_true rfl) ?_
 refine AWp.seq ?_
 refine AWp.region ?_
 refine AOps.cons rfl rfl (q_nilz (0) (lc 0 bc)) ?_
 refine AOps.nil ?_
 refine AWp.seq ?_
 refine AWp.region ?_
 refine AOps.cons rfl rfl (q_move) ?_
 refine AOps.cons rfl rfl (q_bs 201 bc [] []) ?_
 refine AOps.cons rfl rfl (q_move) ?_
 refine AOps.cons rfl rfl (q_nil) ?_
 refine AOps.cons rfl rfl (q_fa) ?_
 refine AOps.cons rfl rfl (q_load) ?_
 refine AOps.cons rfl rfl (q_app) ?_
 refine AOps.cons rfl rfl (q_move) ?_
 refine AOps.cons rfl rfl (q_app) ?_
 refine AOps.cons rfl rfl (q_nil) ?_
 refine AOps.cons rfl rfl (q_fa) ?_
 refine AOps.cons rfl rfl (q_store) ?_
 refine AOps.nil ?_
 refine AWp.seq ?_
 refine AWp.region ?_
 refine AOps.cons rfl rfl (q_nilrow 300 1 (lc 0 bc)) ?_
 refine AOps.nil ?_
 refine AWp.seq ?_
 refine AWp.block ?_
 refine AWp.loopI (α := List (List UInt8) × List UInt8 × Nat) (fun x_ => mkS [(0, .ptr 0 0 0), (5, .sl 300 (x_.2.2) 0 (x_.1).length 1)] [(0, .box [.fz 0 (x_.2.1).length (cl bc (x_.2.1))]), (300, .row (cl (lc 0 bc) (x_.1)) 1 (x_.2.2))]) (fun x_ => (x_.2.1).length + (x_.1).length * 2 ≤ (b ++ c).length ∧ feed (b ++ c) = ((x_.1) ++ (feed (x_.2.1)).1, (feed (x_.2.1)).2)) (fun x_ => (x_.2.1).length) ([], b ++ c, 0) ?_ (Weak.full (0) []) ?_
 ·
  exact ⟨by simp, by simp⟩
 ·
  rintro ⟨fs, q, vf⟩ hI3
  change q.length + fs.length * 2 ≤ (b ++ c).length ∧ feed (b ++ c) = (fs ++ (feed q).1, (feed q).2) at hI3
  obtain ⟨hfs, hI⟩ := hI3
  refine AWp.as (s' := mkS [(0, .ptr 0 0 0), (5, .sl 300 vf 0 fs.length 1)] [(0, .box [.fz 0 q.length (cl bc q)]), (300, .row (cl (lc 0 bc) fs) 1 vf)]) rfl ?_
  refine AWp.seq ?_
  refine AWp.seq ?_
  refine AWp.region ?_
  refine AOps.cons rfl rfl (q_move) ?_
  refine AOps.cons rfl rfl (q_nil) ?_
  refine AOps.cons rfl rfl (q_fa) ?_
  refine AOps.cons rfl rfl (q_load) ?_
  refine AOps.cons rfl rfl (q_len) ?_
  refine AOps.dec rfl rfl (q_geq) (fun h3_5 => ?_) (fun h3_5 => ?_)
  ·
   refine AOps.nil ?_
   refine AWp.cond_t rfl ?_
   refine AWp.skip ?_
   refine AWp.block ?_
   refine AWp.seq ?_
   have hb0 := (q.getD 0 default).toNat_lt
   have hb1 := (q.getD 1 default).toNat_lt
   have hc0 : (q.getD (Int.toNat 0) default).toNat = (q.getD 0 default).toNat := rfl
   have hc1 : (q.getD (Int.toNat 1) default).toNat = (q.getD 1 default).toNat := rfl
   refine AWp.draws [⟨0, [0], [], some 24, _, []⟩,
       ⟨1, [24], [0], some 25, _, []⟩,
       ⟨2, [25], [0], some 26, _, []⟩,
       ⟨3, [26], [0], some 27, _, []⟩,
       ⟨4, [27], [], some 28, _, []⟩,
       ⟨5, [28], [], some 29, _, []⟩,
       ⟨6, [29], [], some 30, _, []⟩,
       ⟨7, [30], [], some 31, _, []⟩,
       ⟨8, [0], [], some 32, _, []⟩,
       ⟨9, [32], [0], some 33, _, []⟩,
       ⟨10, [33], [0], some 34, _, []⟩,
       ⟨11, [34], [0], some 35, _, []⟩,
       ⟨12, [35], [], some 36, _, []⟩,
       ⟨13, [36], [], some 37, _, []⟩,
       ⟨14, [37], [], some 38, _, []⟩,
       ⟨15, [31, 38], [], some 39, _, []⟩,
       ⟨16, [39], [], some 6, _, []⟩]
    [⟨0, [0], [], some 24, .any, []⟩,
        ⟨1, [24], [0], some 25, .any, []⟩,
        ⟨2, [25], [0], some 26, .any, []⟩,
        ⟨3, [26], [0], some 27, .any, []⟩,
        ⟨4, [27], [], some 28, .any, []⟩,
        ⟨5, [28], [], some 29, .any, []⟩,
        ⟨6, [29], [], some 30, .any, []⟩,
        ⟨7, [30], [], some 31, .any, []⟩,
        ⟨8, [0], [], some 32, .any, []⟩,
        ⟨9, [32], [0], some 33, .any, []⟩,
        ⟨10, [33], [0], some 34, .any, []⟩,
        ⟨11, [34], [0], some 35, .any, []⟩,
        ⟨12, [35], [], some 36, .any, []⟩,
        ⟨13, [36], [], some 37, .any, []⟩,
        ⟨14, [37], [], some 38, .any, []⟩,
        ⟨15, [31, 38], [], some 39, .any, []⟩,
        ⟨16, [39], [], some 6, .any, []⟩]
    mixed_ok rfl (by kernel_rfl) ⟨DS.ok_over fun s0 => OpAt.go rfl rfl (q_move),
        DS.ok_over fun s0 => OpAt.go rfl rfl (q_nil),
        DS.ok_over fun s0 => OpAt.go rfl rfl (q_fa),
        DS.ok_over fun s0 => OpAt.go rfl rfl (q_load),
        DS.ok_over fun s0 => OpAt.go rfl rfl (q_ix),
        DS.ok_over fun s0 => OpAt.go rfl rfl (q_load),
        DS.ok_over fun s0 => OpAt.go rfl rfl (q_conv_8i),
        DS.ok_over fun s0 => OpAt.go rfl rfl (q_mul),
        DS.ok_over fun s0 => OpAt.go rfl rfl (q_move),
        DS.ok_over fun s0 => OpAt.go rfl rfl (q_nil),
        DS.ok_over fun s0 => OpAt.go rfl rfl (q_fa),
        DS.ok_over fun s0 => OpAt.go rfl rfl (q_load),
        DS.ok_over fun s0 => OpAt.go rfl rfl (q_ix),
        DS.ok_over fun s0 => OpAt.go rfl rfl (q_load),
        DS.ok_over fun s0 => OpAt.go rfl rfl (q_conv_8i),
        DS.ok_over fun s0 => OpAt.go rfl rfl (q_add),
        DS.ok_over fun s0 => OpAt.go rfl rfl (q_assign), trivial⟩ ?_
   dsimp only [final, DS.upd, AS.seto]
   refine AWp.seq ?_
   refine AWp.seq ?_
   refine AWp.region ?_
   refine AOps.cons rfl rfl (q_move) ?_
   refine AOps.cons rfl rfl (q_nil) ?_
   refine AOps.cons rfl rfl (q_fa) ?_
   refine AOps.cons rfl rfl (q_load) ?_
   refine AOps.cons rfl rfl (q_len) ?_
   refine AOps.cons rfl rfl (q_move) ?_
   refine AOps.cons rfl rfl (q_add) ?_
   refine AOps.dec rfl rfl (q_lss) (fun h5_7 => ?_) (fun h5_7 => ?_)
   ·
    refine AOps.nil ?_
    refine AWp.cond_t rfl ?_
    refine AWp.exit ?_
    refine AWp.seq ?_
    refine AWp.region ?_
    refine AOps.cons rfl rfl (q_move) ?_
    refine AOps.cons rfl rfl (q_assign) ?_
    refine AOps.nil ?_
    refine AWp.ret ?_
    show Fin te Try.f24 _ _
    have h0 := feed_stop (q := q) (.inr (by omega))
    rw [h0, List.append_nil] at hI
    have h1 : fs = (feed (b ++ c)).1 := by rw [hI]
    have h2 : q = (feed (b ++ c)).2 := by rw [hI]
    clear hI h0
    subst h1
    subst h2
    refine q_retH (0) [] [_] [_] [(0, .box [.fz 0 (feed (b ++ c)).2.length (cl bc (feed (b ++ c)).2)])] ?_
    rfl
   ·
    refine AOps.nil ?_
    refine AWp.cond_f rfl ?_
    refine AWp.skip ?_
    refine AWp.seq ?_
    refine AWp.region ?_
    have eN : ((2 : Int) + (((q.getD (Int.toNat 0) default).toNat : Int) * 256 + ((q.getD (Int.toNat 1) default).toNat : Int))).toNat = 2 + ((q.getD 0 default).toNat * 256 + (q.getD 1 default).toNat) := by omega
    refine AOps.cons rfl rfl (q_move) ?_
    refine AOps.cons rfl rfl (q_bs 701 bc [] []) ?_
    refine AOps.cons rfl rfl (q_move) ?_
    refine AOps.cons rfl rfl (q_nil) ?_
    refine AOps.cons rfl rfl (q_fa) ?_
    refine AOps.cons rfl rfl (q_load) ?_
    refine AOps.cons rfl rfl (q_move) ?_
    refine AOps.cons rfl rfl (q_add) ?_
    refine AOps.cons rfl rfl (q_sl) ?_
    refine AOps.cons rfl rfl (q_app) ?_
    refine AOps.weak (Weak.full 0 [] (t := [(0, .ptr 0 0 0), (48, .sl 300 vf 0 fs.length 1), (57, .fz 0 (List.drop (Int.toNat 2) (List.take ((2 : Int) + (((q.getD (Int.toNat 0) default).toNat : Int) * 256 + ((q.getD (Int.toNat 1) default).toNat : Int))).toNat q)).length (cl bc (List.drop (Int.toNat 2) (List.take ((2 : Int) + (((q.getD (Int.toNat 0) default).toNat : Int) * 256 + ((q.getD (Int.toNat 1) default).toNat : Int))).toNat q)))), (6, i64 (((q.getD (Int.toNat 0) default).toNat : Int) * 256 + ((q.getD (Int.toNat 1) default).toNat : Int)))]) (hl := [(0, .box [.fz 0 q.length (cl bc q)]), (300, .row (cl (lc 0 bc) fs) 1 vf)])) ?_
    refine AOps.cons rfl rfl (q_bs 710 (lc 0 bc) [_] [(_, _)]) ?_
    refine AOps.cons rfl rfl (q_app) ?_
    refine AOps.cons rfl rfl (q_assign) ?_
    refine AOps.nil ?_
    refine AWp.region ?_
    refine AOps.cons rfl rfl (q_move) ?_
    refine AOps.cons rfl rfl (q_bs 801 bc [] []) ?_
    refine AOps.cons rfl rfl (q_move) ?_
    refine AOps.cons rfl rfl (q_nil) ?_
    refine AOps.cons rfl rfl (q_fa) ?_
    refine AOps.cons rfl rfl (q_load) ?_
    refine AOps.cons rfl rfl (q_move) ?_
    refine AOps.cons rfl rfl (q_add) ?_
    refine AOps.cons rfl rfl (q_sl) ?_
    refine AOps.cons rfl rfl (q_app) ?_
    refine AOps.cons rfl rfl (q_nil) ?_
    refine AOps.cons rfl rfl (q_fa) ?_
    refine AOps.cons rfl rfl (q_store) ?_
    refine AOps.nil ?_
    refine ⟨(_, _, _), ?_, Weak.full (0) [], ?_⟩
    ·
     try dsimp only
     rw [feed_go (q := q) (by omega) (by omega)] at hI
     refine ⟨by simp only [eN, List.nil_append, List.length_append, List.length_cons, List.length_nil, List.length_drop]; omega, ?_⟩
     rw [hI, eN]; simp
    ·
     try dsimp only
     simp only [eN, List.nil_append, List.length_drop]; omega
  ·
   refine AOps.nil ?_
   refine AWp.cond_f rfl ?_
   refine AWp.exit ?_
   refine AWp.seq ?_
   refine AWp.region ?_
   refine AOps.cons rfl rfl (q_move) ?_
   refine AOps.cons rfl rfl (q_assign) ?_
   refine AOps.nil ?_
   refine AWp.ret ?_
   show Fin te Try.f24 _ _
   have h0 := feed_stop (q := q) (.inl (by omega))
   rw [h0, List.append_nil] at hI
   have h1 : fs = (feed (b ++ c)).1 := by rw [hI]
   have h2 : q = (feed (b ++ c)).2 := by rw [hI]
   clear hI h0
   subst h1
   subst h2
   refine q_retH (0) [] [_] [_] [(0, .box [.fz 0 (feed (b ++ c)).2.length (cl bc (feed (b ++ c)).2)])] ?_
   rfl
set_option maxRecDepth 20000 in
set_option maxHeartbeats 2000000 in
theorem c_ciceroneplain_Spoil (b : List UInt8) (v : Nat) (hb : b.length ≤ 140737488351232) : AC Try.prog 25 [.sl 1 0 0 1 1] (hlook [(0, .row (cl bc b) 1 v), (1, .row [.sl 0 v 0 b.length 1] 1 0)]) (RetH (.tup []) [(0, .row (cl bc (b.map (· ^^^ 255))) 1 v), (1, .row [.sl 0 v 0 b.length 1] 1 0)]) := by
 refine AC.intro te_ok (fn := Try.f25) ⟨Try.func25, rfl, rfl⟩ (Nat.le_of_ble_eq_true rfl) ?_
 refine AWp.seq ?_
 refine AWp.region ?_
 refine AOps.cons rfl rfl (q_move) ?_
 refine AOps.cons rfl rfl (q_len) ?_
 refine AOps.cons rfl rfl (q_move) ?_
 refine AOps.nil ?_
 refine AWp.block ?_
 refine AWp.loopR (α := Nat × List UInt8) [3, 4, 7, 8, 9, 10, 11, 12, 13, 14, 15, 16, 17, 18, 19, 20, 21, 22, 23] (fun x_ => [(7, i64 (x_.1))]) (fun x_ => [(0, .row (cl bc (x_.2)) 1 v)]) (fun x_ => ((x_.1) = 0 ∧ (x_.2) = b) ∨ ((x_.1) = 1 ∧ (x_.2) = b.map (· ^^^ 255))) (fun x_ => 1 - (x_.1)) (0, b) ?_ (Back.mk' (HasT.cons HasT.nil) (HasH.cons HasH.nil)) ?_
 ·
  exact .inl ⟨rfl, rfl⟩
 ·
  rintro ⟨i, a⟩ hI1
  change (i = 0 ∧ a = b) ∨ (i = 1 ∧ a = b.map (· ^^^ 255)) at hI1
  obtain ha := hI1
  refine AWp.as (s' := AS.over _ [3, 4, 7, 8, 9, 10, 11, 12, 13, 14, 15, 16, 17, 18, 19, 20, 21, 22, 23] [(7, i64 i)] [(0, .row (cl bc a) 1 v)]) rfl ?_
  refine AWp.seq ?_
  refine AWp.region ?_
  refine AOps.dec rfl rfl (q_lss) (fun h1_0 => ?_) (fun h1_0 => ?_)
  ·
   refine AOps.nil ?_
   refine AWp.seq ?_
   refine AWp.cond_t rfl ?_
   refine AWp.skip ?_
   refine AWp.seq ?_
   refine AWp.block ?_
   refine AWp.seq ?_
   refine AWp.region ?_
   obtain ⟨rfl, rfl⟩ : i = 0 ∧ a = b := hI1.resolve_right (fun h => by omega)
   ·
    refine AOps.cons rfl rfl (q_ix) ?_
    refine AOps.cons rfl rfl (q_load) ?_
    refine AOps.cons rfl rfl (q_assign) ?_
    refine AOps.nil ?_
    refine AWp.seq ?_
    refine AWp.region ?_
    refine AOps.cons rfl rfl (q_move) ?_
    refine AOps.cons rfl rfl (q_len) ?_
    refine AOps.cons rfl rfl (q_move) ?_
    refine AOps.nil ?_
    refine AWp.block ?_
    refine AWp.loopR (α := Nat × List UInt8) [4, 13, 14, 15, 16, 17, 18, 19, 20, 21, 22] (fun x_ => [(13, i64 (x_.1))]) (fun x_ => [(0, .row (cl bc (x_.2)) 1 v)]) (fun x_ => (x_.1) ≤ a.length ∧ (x_.2) = (a.take (x_.1)).map (· ^^^ 255) ++ a.drop (x_.1)) (fun x_ => a.length - (x_.1)) (0, _) ?_ (Back.mk' (HasT.cons HasT.nil) (HasH.cons HasH.nil)) ?_
    ·
     exact ⟨Nat.zero_le _, by simp⟩
    ·
     rintro ⟨j, a2⟩ hI4
     change j ≤ a.length ∧ a2 = (a.take j).map (· ^^^ 255) ++ a.drop j at hI4
     obtain ⟨hj, ha2⟩ := hI4
     refine AWp.as (s' := AS.over _ [4, 13, 14, 15, 16, 17, 18, 19, 20, 21, 22] [(13, i64 j)] [(0, .row (cl bc a2) 1 v)]) rfl ?_
     have hal : a2.length = a.length := by rw [ha2]; simp; omega
     refine AWp.seq ?_
     refine AWp.region ?_
     refine AOps.dec rfl rfl (q_lss) (fun h4_0 => ?_) (fun h4_0 => ?_)
     ·
      refine AOps.nil ?_
      refine AWp.seq ?_
      refine AWp.cond_t rfl ?_
      refine AWp.skip ?_
      refine AWp.seq ?_
      refine AWp.block ?_
      refine AWp.seq ?_
      refine AWp.region ?_
      refine AOps.cons rfl rfl (q_move) ?_
      refine AOps.cons rfl rfl (q_assign) ?_
      refine AOps.nil ?_
      refine AWp.region ?_
      refine AOps.cons rfl rfl (q_move) ?_
      refine AOps.cons rfl rfl (q_move) ?_
      refine AOps.cons rfl rfl (q_ix) ?_
      refine AOps.cons rfl rfl (q_load) ?_
      refine AOps.cons rfl rfl (q_xor8 _ 255) ?_
      refine AOps.cons rfl rfl (q_ix) ?_
      refine AOps.cons rfl rfl (q_store) ?_
      refine AOps.nil ?_
      refine AWp.region ?_
      refine AOps.cons rfl rfl (q_add) ?_
      refine AOps.cons rfl rfl (q_move) ?_
      refine AOps.nil ?_
      refine ⟨(j + 1, _), ?_, Back.mk' (HasT.cons HasT.nil) (HasH.cons HasH.nil), ?_⟩
      ·
       try dsimp only
       exact ⟨by omega, xor_step (by omega) ha2⟩
      ·
       try dsimp only
       first | omega | (simp; omega)
     ·
      refine AOps.nil ?_
      refine AWp.seq ?_
      refine AWp.cond_f rfl ?_
      refine AWp.exit ?_
      refine AWp.region ?_
      refine AOps.cons rfl rfl (q_add) ?_
      refine AOps.cons rfl rfl (q_move) ?_
      refine AOps.nil ?_
      refine ⟨(1, a2), ?_, Back.mk' (HasT.cons HasT.nil) (HasH.cons HasH.nil), ?_⟩
      ·
       try dsimp only
       obtain rfl : j = a.length := by omega
       exact .inr ⟨rfl, by rw [ha2]; simp⟩
      ·
       try dsimp only
       decide
  ·
   refine AOps.nil ?_
   refine AWp.seq ?_
   refine AWp.cond_f rfl ?_
   refine AWp.exit ?_
   show Fin te Try.f25 _ _
   obtain ⟨rfl, rfl⟩ : i = 1 ∧ a = b.map (· ^^^ 255) := hI1.resolve_left (fun h => by omega)
   refine q_retH (0) [] [] [] [(_, _), (_, _)] (hobj := ⟨rfl, ⟨_, rfl, lobj_row (fun _ => rfl)⟩, rfl, ⟨_, rfl, rfl, rfl, lv_sl rfl rfl, trivial⟩, trivial⟩) ?_
   rfl
end Go.Proofs.Ytahkngplohnliaa.Fw


set_option linter.unusedVariables false
set_option linter.unusedSimpArgs false
namespace Go.Proofs.Ytahkngplohnliaa.Fw
open Go.RowKit
theorem szB_rest (b : List UInt8) : szB (feed b).2 = false := by
  induction b using feed.induct with
  | case1 b h ih => rw [feed_yes h]; exact ih
  | case2 b h => rw [feed_no (by simpa using h)]; simpa using h
theorem rest_len (b : List UInt8) : (feed b).2.length ≤ 65537 := by
  have h := szB_rest b
  generalize (feed b).2 = q at h
  have h2 := (szN_lt q).2
  rcases Nat.lt_or_ge q.length 2 with h3 | h3
  · omega
  · by_cases h4 : szN q ≤ q.length
    · rw [szB_iff.2 ⟨h3, h4⟩] at h; cases h
    · omega
theorem rest_drop (b : List UInt8) : (feed b).2 = b.drop (b.length - (feed b).2.length) ∧ (feed b).2.length ≤ b.length := by
  induction b using feed.induct with
  | case1 b h ih =>
    rw [feed_yes h]
    have hn := szN_ge h
    obtain ⟨h1, h2⟩ := ih
    rw [List.length_drop] at h2
    refine ⟨?_, by dsimp only; omega⟩
    dsimp only
    conv => lhs; rw [h1]
    rw [List.drop_drop, List.length_drop]
    congr 1
    omega
  | case2 b h => rw [feed_no (by simpa using h)]; simp
theorem fst_len (b : List UInt8) : (feed b).1.length * 2 ≤ b.length := by
  induction b using feed.induct with
  | case1 b h ih =>
    rw [feed_yes h]
    have hn := szN_ge h
    rw [List.length_drop] at ih
    simp only [List.length_cons]
    omega
  | case2 b h => rw [feed_no (by simpa using h)]; simp
set_option maxRecDepth 20000 in
set_option maxHeartbeats 2000000 in
theorem c_ciceronelaw11_PrefixLives (l : List (List UInt8)) (hl : l.length ≤ 1073741824) (hb : ∀ x ∈ l, x.length ≤ 1073741824) : AC Try.prog 7 [.fz 0 l.length (cl (lc 0 bc) l)] emp (Ret (tf true)) := by
 refine AC.intro te_ok (fn := Try.f7) ⟨Try.func7, rfl, rfl⟩ (Nat.le_of_ble_eq_true rfl) ?_
 refine AWp.seq ?_
 refine AWp.region ?_
 refine AOps.cons rfl rfl (q_assign) ?_
 refine AOps.nil ?_
 refine AWp.seq ?_
 refine AWp.region ?_
 refine AOps.cons rfl rfl (q_callB (0) [] [(8, 2008), (9, 2009)] [(_, _), (_, _)] (hc := c_prefix_New)) ?_
 refine AOps.cons rfl rfl (q_build []) ?_
 refine AOps.cons rfl rfl (q_box 202) ?_
 refine AOps.cons rfl rfl (q_assign) ?_
 refine AOps.cons rfl rfl (q_assign) ?_
 refine AOps.nil ?_
 refine AWp.seq ?_
 refine AWp.seq ?_
 refine AWp.region ?_
 refine AOps.cons rfl rfl (q_move) ?_
 refine AOps.cons rfl rfl (q_len) ?_
 refine AOps.cons rfl rfl (q_move) ?_
 refine AOps.nil ?_
 refine AWp.block ?_
 refine AWp.loopI (α := Nat × List UInt8 × Nat × Nat × Nat × List UInt8) (fun x_ => mkS [(12, .fz 0 l.length (cl (lc 0 bc) l)), (13, i64 l.length), (14, i64 (x_.1)), (3, .ptr 2008 0 0), (4, .ptr 202 0 0)] [(2008, .box [.sl 2009 (x_.2.2.2.2.1) (x_.2.2.1) (x_.2.2.2.1) 1, tf true]), (2009, .row (cl bc (x_.2.1)) 1 (x_.2.2.2.2.1)), (202, .box [.fz 0 (x_.2.2.2.2.2).length (cl bc (x_.2.2.2.2.2))])]) (fun x_ => (x_.1) ≤ l.length ∧ (x_.2.2.1) + (x_.2.2.2.1) = (x_.2.1).length ∧ (x_.2.2.2.2.2) = (x_.2.1).drop (x_.2.2.1) ∧ (x_.2.2.2.1) ≤ 65537) (fun x_ => l.length - (x_.1)) (0, [], 0, 0, 0, []) ?_ (Weak.full (0) []) ?_
 ·
  exact ⟨Nat.zero_le _, rfl, rfl, by decide⟩
 ·
  rintro ⟨i, w, o, m, v, q⟩ hI3
  change i ≤ l.length ∧ o + m = w.length ∧ q = w.drop o ∧ m ≤ 65537 at hI3
  obtain ⟨hi, hom, hq, hm⟩ := hI3
  refine AWp.as (s' := mkS [(12, .fz 0 l.length (cl (lc 0 bc) l)), (13, i64 l.length), (14, i64 i), (3, .ptr 2008 0 0), (4, .ptr 202 0 0)] [(2008, .box [.sl 2009 v o m 1, tf true]), (2009, .row (cl bc w) 1 v), (202, .box [.fz 0 q.length (cl bc q)])]) rfl ?_
  have hql : q.length = m := by rw [hq, List.length_drop]; omega
  refine AWp.seq ?_
  refine AWp.region ?_
  refine AOps.dec rfl rfl (q_lss) (fun h3_0 => ?_) (fun h3_0 => ?_)
  ·
   refine AOps.nil ?_
   refine AWp.seq ?_
   refine AWp.cond_t rfl ?_
   refine AWp.skip ?_
   refine AWp.seq ?_
   refine AWp.block ?_
   refine AWp.seq ?_
   refine AWp.region ?_
   have hxb := hb _ (getD_mem (l := l) (i := i) (by omega))
   have hfl := fst_len (w.drop o ++ (l.getD i default))
   have hwd : (w.drop o ++ (l.getD i default)).length = m + (l.getD i default).length := by simp; omega
   refine AOps.cons rfl rfl (q_ix) ?_
   refine AOps.cons rfl rfl (q_load) ?_
   refine AOps.cons rfl rfl (q_assign) ?_
   refine AOps.nil ?_
   refine AWp.seq ?_
   refine AWp.region ?_
   refine AOps.cons rfl rfl (q_move) ?_
   refine AOps.cons rfl rfl (q_callB (0) [] [(8, 6018)] [(_, _)] (hc := (co_Clone (l.getD i default) 0 (by omega)))) ?_
   refine AOps.cons rfl rfl (q_assign) ?_
   refine AOps.nil ?_
   refine AWp.seq ?_
   refine AWp.seq ?_
   refine AWp.draws [⟨0, [3], [], some 20, _, []⟩,
       ⟨1, [7], [], some 21, _, []⟩,
       ⟨2, [20, 21], [2008, 2009, 6018], some 22, _, [(2008, _), (2009, _)]⟩,
       ⟨3, [4], [], some 23, _, []⟩,
       ⟨4, [6], [], some 24, _, []⟩,
       ⟨5, [23, 24], [202], some 25, _, [(202, _)]⟩,
       ⟨6, [22, 25], [], some 26, _, []⟩,
       ⟨7, [26], [], some 27, _, []⟩,
       ⟨8, [27], [], some 28, _, []⟩,
       ⟨9, [3, 28], [], some 29, _, []⟩,
       ⟨10, [28, 29], [2008, 2009], some 30, _, [(2008, _), (2009, _)]⟩,
       ⟨11, [4, 28], [], some 31, _, []⟩,
       ⟨12, [28, 31], [202], some 32, _, []⟩,
       ⟨13, [28, 32], [202], some 33, _, []⟩,
       ⟨14, [28, 33], [202], some 34, _, []⟩,
       ⟨15, [28, 34], [], some 35, _, []⟩,
       ⟨16, [28, 30, 35], [], some 36, _, []⟩,
       ⟨17, [28, 36], [], some 37, _, []⟩]
    [⟨0, [3], [], some 20, .any, []⟩,
        ⟨1, [7], [], some 21, .any, []⟩,
        ⟨2, [20, 21], [2008, 2009, 6018], some 22, .any, [(2008, .box []), (2009, .box [])]⟩,
        ⟨3, [4], [], some 23, .any, []⟩,
        ⟨4, [6], [], some 24, .any, []⟩,
        ⟨5, [23, 24], [202], some 25, .any, [(202, .box [])]⟩,
        ⟨6, [22, 25], [], some 26, .any, []⟩,
        ⟨7, [26], [], some 27, .any, []⟩,
        ⟨8, [27], [], some 28, .any, []⟩,
        ⟨9, [3, 28], [], some 29, .any, []⟩,
        ⟨10, [28, 29], [2008, 2009], some 30, .any, [(2008, .box []), (2009, .box [])]⟩,
        ⟨11, [4, 28], [], some 31, .any, []⟩,
        ⟨12, [28, 31], [202], some 32, .any, []⟩,
        ⟨13, [28, 32], [202], some 33, .any, []⟩,
        ⟨14, [28, 33], [202], some 34, .any, []⟩,
        ⟨15, [28, 34], [], some 35, .any, []⟩,
        ⟨16, [28, 30, 35], [], some 36, .any, []⟩,
        ⟨17, [28, 36], [], some 37, .any, []⟩]
    mixed_ok rfl (by kernel_rfl) ⟨DS.ok_over fun s0 => OpAt.go rfl rfl (q_move),
        DS.ok_over fun s0 => OpAt.go rfl rfl (q_move),
        DS.ok_over fun s0 => OpAt.go rfl rfl (q_callB (0) [(0, 2008), (1, 2009)] [] [(_, _), (_, _)] (hc := (c_Feed w (l.getD i default) v o m 1 hom (by omega)))),
        DS.ok_over fun s0 => OpAt.go rfl rfl (q_move),
        DS.ok_over fun s0 => OpAt.go rfl rfl (q_move),
        DS.ok_over fun s0 => OpAt.go rfl rfl (q_callB (0) [(0, 202)] [] [(_, _)] (hc := (c_rFeed q (l.getD i default) 0 (by omega)))),
        DS.ok_over fun s0 => OpAt.go rfl rfl ((OpOk.bool_is (c := true) (q_call (0) (hc := (c_ciceroneplain_SameTexts (feed (w.drop o ++ (l.getD i default))).1 (feed (q ++ (l.getD i default))).1 0 0 0 0 (by omega)))) (decide_eq_true (by rw [hq])))),
        DS.ok_over fun s0 => OpAt.go rfl rfl (q_not),
        DS.ok_over fun s0 => OpAt.go rfl rfl (q_move (hy := by exact rfl)),
        DS.ok_over fun s0 => OpAt.ggo rfl rfl rfl rfl rfl (q_move),
        DS.ok_over fun s0 => OpAt.ggo rfl rfl rfl rfl rfl (q_callB (0) [(0, 2008), (1, 2009)] [] [(_, _), (_, _)] (hc := (c_Left _ _ _ _ true))),
        DS.ok_over fun s0 => OpAt.ggo rfl rfl rfl rfl rfl (q_move),
        DS.ok_over fun s0 => OpAt.ggo rfl rfl rfl rfl rfl (q_nil),
        DS.ok_over fun s0 => OpAt.ggo rfl rfl rfl rfl rfl (q_fa),
        DS.ok_over fun s0 => OpAt.ggo rfl rfl rfl rfl rfl (q_load),
        DS.ok_over fun s0 => OpAt.ggo rfl rfl rfl rfl rfl (q_len),
        DS.ok_over fun s0 => OpAt.ggo rfl rfl rfl rfl rfl ((OpOk.dec_f (q_neq) (fun k => k (by rw [hq])))),
        DS.ok_over fun s0 => OpAt.go rfl rfl (q_pick), trivial⟩ ?_
   dsimp only [final, DS.upd, AS.seto]
   refine AWp.cond_f rfl ?_
   refine AWp.skip ?_
   refine AWp.region ?_
   refine AOps.cons rfl rfl (q_move) ?_
   refine AOps.cons rfl rfl (q_bsr 901 [(_, _)]) ?_
   refine AOps.cons rfl rfl (q_callB (0) [(0, 6018), (1, 901)] [] [(_, _), (_, _)] (hobj := by exact ⟨rfl, ⟨_, rfl, lobj_row (fun _ => rfl)⟩, rfl, ⟨_, rfl, rfl, rfl, lv_sl rfl rfl, trivial⟩, trivial⟩) (hc := (c_ciceroneplain_Spoil (l.getD i default) 0 (by omega)))) ?_
   refine AOps.nil ?_
   refine AWp.region ?_
   refine AOps.cons rfl rfl (q_add) ?_
   refine AOps.cons rfl rfl (q_move) ?_
   refine AOps.nil ?_
   refine ⟨(i + 1, w.drop o ++ (l.getD i default), (w.drop o ++ (l.getD i default)).length - (feed (w.drop o ++ (l.getD i default))).2.length, (feed (w.drop o ++ (l.getD i default))).2.length, v + 1, (feed (q ++ (l.getD i default))).2), ?_, Weak.full (0) [], ?_⟩
   ·
    try dsimp only
    obtain ⟨r1, r2⟩ := rest_drop (w.drop o ++ (l.getD i default))
    exact ⟨by omega, by omega, by rw [hq]; exact r1, rest_len _⟩
   ·
    try dsimp only
    first | omega | (simp; omega)
  ·
   refine AOps.nil ?_
   refine AWp.seq ?_
   refine AWp.cond_f rfl ?_
   refine AWp.exit ?_
   refine AWp.seq ?_
   refine AWp.region ?_
   have hfl := fst_len (w.drop o ++ [0])
   have hwd : (w.drop o ++ ([0] : List UInt8)).length = m + 1 := by simp; omega
   refine AOps.cons rfl rfl (q_move) ?_
   refine AOps.cons rfl rfl (q_bs 1101 bc [0] [(_, _)]) ?_
   refine AOps.cons rfl rfl (q_callB (0) [(0, 2008), (1, 2009)] [] [(_, _), (_, _)] (hc := (c_Feed w [0] v o m 1 hom (by simp; omega)))) ?_
   refine AOps.cons rfl rfl (q_assign) ?_
   refine AOps.nil ?_
   refine AWp.seq ?_
   refine AWp.draws [⟨0, [8], [], some 45, _, []⟩,
       ⟨1, [4], [], some 46, _, []⟩,
       ⟨2, [], [1202], some 47, _, [(1202, _)]⟩,
       ⟨3, [46, 47], [202, 1202], some 48, _, [(202, _)]⟩,
       ⟨4, [45, 48], [], some 49, _, []⟩,
       ⟨5, [49], [], some 50, _, []⟩,
       ⟨6, [3, 50], [], some 51, _, []⟩,
       ⟨7, [50, 51], [2008, 2009], some 52, _, [(2008, _), (2009, _)]⟩,
       ⟨8, [4, 50], [], some 53, _, []⟩,
       ⟨9, [50, 53], [202], some 54, _, []⟩,
       ⟨10, [50, 54], [202], some 55, _, []⟩,
       ⟨11, [50, 55], [202], some 56, _, []⟩,
       ⟨12, [50, 56], [], some 57, _, []⟩,
       ⟨13, [50, 52, 57], [], some 58, _, []⟩,
       ⟨14, [50, 58], [], some 59, _, []⟩,
       ⟨15, [59], [], some 2, _, []⟩]
    [⟨0, [8], [], some 45, .any, []⟩,
        ⟨1, [4], [], some 46, .any, []⟩,
        ⟨2, [], [1202], some 47, .any, [(1202, .box [])]⟩,
        ⟨3, [46, 47], [202, 1202], some 48, .any, [(202, .box [])]⟩,
        ⟨4, [45, 48], [], some 49, .any, []⟩,
        ⟨5, [49], [], some 50, .any, []⟩,
        ⟨6, [3, 50], [], some 51, .any, []⟩,
        ⟨7, [50, 51], [2008, 2009], some 52, .any, [(2008, .box []), (2009, .box [])]⟩,
        ⟨8, [4, 50], [], some 53, .any, []⟩,
        ⟨9, [50, 53], [202], some 54, .any, []⟩,
        ⟨10, [50, 54], [202], some 55, .any, []⟩,
        ⟨11, [50, 55], [202], some 56, .any, []⟩,
        ⟨12, [50, 56], [], some 57, .any, []⟩,
        ⟨13, [50, 52, 57], [], some 58, .any, []⟩,
        ⟨14, [50, 58], [], some 59, .any, []⟩,
        ⟨15, [59], [], some 2, .any, []⟩]
    mixed_ok rfl (by kernel_rfl) ⟨DS.ok_over fun s0 => OpAt.go rfl rfl (q_move),
        DS.ok_over fun s0 => OpAt.go rfl rfl (q_move),
        DS.ok_over fun s0 => OpAt.go rfl rfl (q_bs 1202 bc [0] [(_, _)]),
        DS.ok_over fun s0 => OpAt.go rfl rfl (q_callB (0) [(0, 202)] [] [(_, _)] (hc := (c_rFeed q [0] 1 (by simp; omega)))),
        DS.ok_over fun s0 => OpAt.go rfl rfl ((OpOk.bool_is (c := true) (q_call (0) (hc := (c_ciceroneplain_SameTexts (feed (w.drop o ++ [0])).1 (feed (q ++ [0])).1 0 0 0 0 (by omega)))) (decide_eq_true (by rw [hq])))),
        DS.ok_over fun s0 => OpAt.go rfl rfl (q_move (hy := by exact rfl)),
        DS.ok_over fun s0 => OpAt.ggo rfl rfl rfl rfl rfl (q_move),
        DS.ok_over fun s0 => OpAt.ggo rfl rfl rfl rfl rfl (q_callB (0) [(0, 2008), (1, 2009)] [] [(_, _), (_, _)] (hc := (c_Left _ _ _ _ true))),
        DS.ok_over fun s0 => OpAt.ggo rfl rfl rfl rfl rfl (q_move),
        DS.ok_over fun s0 => OpAt.ggo rfl rfl rfl rfl rfl (q_nil),
        DS.ok_over fun s0 => OpAt.ggo rfl rfl rfl rfl rfl (q_fa),
        DS.ok_over fun s0 => OpAt.ggo rfl rfl rfl rfl rfl (q_load),
        DS.ok_over fun s0 => OpAt.ggo rfl rfl rfl rfl rfl (q_len),
        DS.ok_over fun s0 => OpAt.ggo rfl rfl rfl rfl rfl ((OpOk.dec_t (q_eql) (by rw [hq]))),
        DS.ok_over fun s0 => OpAt.go rfl rfl (q_pick),
        DS.ok_over fun s0 => OpAt.go rfl rfl (q_assign), trivial⟩ ?_
   dsimp only [final, DS.upd, AS.seto]
   refine AWp.ret ?_
   show Fin te Try.f7 _ _
   refine q_ret (0) [_] [_] ?_
   rfl
end Go.Proofs.Ytahkngplohnliaa.Fw


set_option linter.unusedVariables false
set_option linter.unusedSimpArgs false
set_option linter.unusedSectionVars false
namespace Go.Proofs.Ytahkngplohnliaa.Fw.Up
open Go.RowKit Go.ChangeShapes Go.WideShapes
def upB : Nat := 1073741824
def Has (te : TE) : Nat → TypeId → List AV → Prop
  | 0, _, _ => False
  | d + 1, t, cs => match te.get t with
    | none => False
    | some i => match i.k with
      | .bool => ∃ b, cs = [tf b]
      | .int k => ∃ n : Int, (Lit.int k n).wf = true ∧ cs = [.v (.int k n)]
      | .str => ∃ l : List UInt8, l.length ≤ upB ∧ cs = [str l]
      | .slice e => ∃ es : List (List AV), (∀ c ∈ es, Has te d e c) ∧ (∀ j, te.get e = some j → es.length * j.bytes ≤ upB) ∧ cs = [.fz 0 es.length es.flatten]
      | .arr m e => ∃ es : List (List AV), es.length = m ∧ (∀ c ∈ es, Has te d e c) ∧ cs = es.flatten
      | .struct fs => hasFs (Has te d) fs cs
      | _ => False
theorem exists_list {α : Type} {p : Nat → α → Prop} : ∀ n : Nat, (∀ i, i < n → ∃ x, p i x) → ∃ l : List α, l.length = n ∧ ∀ i x, l[i]? = some x → p i x
  | 0, _ => ⟨[], rfl, fun i x h => by simp at h⟩
  | n + 1, h => by
    obtain ⟨l, h1, h2⟩ := exists_list n fun i hi => h i (by omega)
    obtain ⟨x, hx⟩ := h n (by omega)
    refine ⟨l ++ [x], by simp [h1], fun i y hy => ?_⟩
    by_cases hi : i < n
    · rw [List.getElem?_append_left (by omega)] at hy
      exact h2 i y hy
    · rw [List.getElem?_append_right (by omega)] at hy
      have : i - l.length = 0 := by
        have := (List.getElem?_eq_some_iff.1 hy).1
        simp at this
        omega
      rw [this] at hy
      simp at hy
      subst hy
      have : i = n := by omega
      subst this
      exact hx
theorem flatten_length_of {α : Type} {m : Nat} : ∀ {es : List (List α)}, (∀ c ∈ es, c.length = m) → es.flatten.length = es.length * m
  | [], _ => by simp
  | c :: es, h => by
    rw [List.flatten_cons, List.length_append, h c List.mem_cons_self, flatten_length_of fun x hx => h x (List.mem_cons_of_mem _ hx), List.length_cons, Nat.add_mul, Nat.one_mul, Nat.add_comm]
theorem flatten_get {α : Type} {m : Nat} (hm : 0 < m) : ∀ {es : List (List α)}, (∀ c ∈ es, c.length = m) → ∀ {j : Nat} {x : α}, es.flatten[j]? = some x → ∃ c, es[j / m]? = some c ∧ c[j % m]? = some x
  | [], _, j, x, hj => by simp at hj
  | c :: es, h, j, x, hj => by
    have hc := h c List.mem_cons_self
    rw [List.flatten_cons] at hj
    by_cases h1 : j < m
    · rw [List.getElem?_append_left (by omega)] at hj
      exact ⟨c, by rw [Nat.div_eq_of_lt h1]; rfl, by rw [Nat.mod_eq_of_lt h1]; exact hj⟩
    · rw [List.getElem?_append_right (by omega), hc] at hj
      obtain ⟨c', k1, k2⟩ := flatten_get hm (fun x hx => h x (List.mem_cons_of_mem _ hx)) hj
      refine ⟨c', ?_, ?_⟩
      · have : j / m = (j - m) / m + 1 := by
          rw [Nat.div_eq_sub_div hm (by omega)]
        rw [this]
        simpa using k1
      · rw [Nat.mod_eq_sub_mod (by omega)]
        exact k2
abbrev noL : Lent := fun _ _ => False
abbrev noO : PMap := fun _ => none
theorem may_none (lv b : Nat) : may noO noL lv b := ⟨owned_none, fun _ _ h => h⟩
theorem weightsAll_mem {H : Type} {P : Program} {e : TypeId} : ∀ {l : List (DataW H)} {d : DataW H}, d ∈ l → ∀ m ∈ d.weights P e, m ∈ DataW.weightsAll P e l
  | a :: l, d, h, m, hm => by
    simp only [DataW.weightsAll, List.mem_append]
    rcases List.mem_cons.1 h with rfl | h
    · exact .inl hm
    · exact .inr (weightsAll_mem h m hm)
section
variable {P : Program} {te : TE} {w : World} {H : Type} {enc : TypeId × Value → H} {held : Bool}
def CellsAre (w : World) (cs : List Value) (av : List AV) : Prop := av.length = cs.length ∧ ∀ (j : Nat) c, av[j]? = some c → c.ok 0 = true ∧ ∃ v, cs[j]? = some v ∧ Rep w noO noL c v
theorem CellsAre.one {v : Value} {a : AV} (h1 : a.ok 0 = true) (h2 : Rep w noO noL a v) : CellsAre w [v] [a] :=
  ⟨rfl, fun j c hj => by
    cases j with
    | zero => simp at hj; subst hj; exact ⟨h1, v, rfl, h2⟩
    | succ j => simp at hj⟩
theorem Tells.cells {t : TypeId} {i : TI} (h : Tells P t i) : P.cellsOf t = i.size ∧ P.bytesOf t = i.bytes := by
  obtain ⟨f, z, h1, h2, h3, _⟩ := h.info
  exact ⟨by simp [Program.cellsOf, h1, h2], by simp [Program.bytesOf, h1, h3]⟩
theorem open_fields (hte : TEok P te) {d n : Nat} (ih : ∀ t, plainT te d t = true → ∀ n (cs : List Value) x, DataW.trod enc P w 0 (fun _ => true) held n t cs = some x → (∀ m ∈ x.1.weights P t, m ≤ upB) → ∃ av, Has te d t av ∧ CellsAre w cs av)
    {cs : List Value} : ∀ (l : List Field) (o : Nat) (xs : List (DataW H × List MemPlace)), xs.length = l.length → (∀ (i : Nat) (f : Field), l[i]? = some f → DataW.trod enc P w 0 (fun _ => true) held n f.type ((cs.drop f.offset).take (P.cellsOf f.type)) = xs[i]?) →
      contig te o (l.map fun f => (f.offset, f.type)) cs.length = true → ((l.map fun f => (f.offset, f.type)).all fun p => plainT te d p.2) = true →
      (∀ m ∈ DataW.weightsEach P (l.map (·.type)) (xs.map (·.1)), m ≤ upB) → ∃ av, hasFs (Has te d) (l.map fun f => (f.offset, f.type)) av ∧ CellsAre w (cs.drop o) av
  | [], o, xs, hx, hf, hc, hp, hw => by
    simp only [List.map_nil, contig] at hc
    have := Nat.eq_of_beq_eq_true hc
    refine ⟨[], rfl, by simp; omega, fun j c hj => by simp at hj⟩
  | f :: l, o, [], hx, hf, hc, hp, hw => by simp at hx
  | f :: l, o, y :: xs, hx, hf, hc, hp, hw => by
    simp only [List.map_cons, contig, Bool.and_eq_true] at hc
    obtain ⟨c1, c2⟩ := hc
    have c1 := Nat.eq_of_beq_eq_true c1
    simp only [List.map_cons, List.all_cons, Bool.and_eq_true] at hp
    have h0 := hf 0 f rfl
    simp only [List.getElem?_cons_zero] at h0
    simp only [List.map_cons, DataW.weightsEach, List.mem_append] at hw
    obtain ⟨a, a1, a2⟩ := ih f.type hp.1 n _ y h0 fun m hm => hw m (.inl hm)
    cases hg : te.get f.type with
    | none => rw [hg] at c2; cases c2
    | some j =>
      rw [hg] at c2
      simp only at c2
      obtain ⟨b, b1, b2⟩ := open_fields hte ih l (o + j.size) xs (by simpa using hx) (fun i g hg => by simpa using hf (i + 1) g (by simpa using hg)) c2 hp.2 (fun m hm => hw m (.inr hm))
      rw [((hte.tells hg).cells).1, ← c1] at a2
      refine ⟨a ++ b, ⟨a, b, rfl, a1, b1⟩, ?_⟩
      have hle : ∀ (l : List (Nat × TypeId)) (o : Nat), contig te o l cs.length = true → o ≤ cs.length := by
        intro l
        induction l with
        | nil => intro o h; simp only [contig] at h; exact Nat.le_of_eq (Nat.eq_of_beq_eq_true h)
        | cons p l ihl =>
          intro o h
          obtain ⟨po, pt⟩ := p
          simp only [contig, Bool.and_eq_true] at h
          cases hgp : te.get pt with
          | none => rw [hgp] at h; cases h.2
          | some q =>
            rw [hgp] at h
            have := ihl _ h.2
            omega
      have hlen := hle _ _ c2
      have al : a.length = j.size := by rw [a2.1]; simp; omega
      refine ⟨by rw [List.length_append, al, b2.1]; simp; omega, fun k c hk => ?_⟩
      by_cases hk1 : k < a.length
      · rw [List.getElem?_append_left hk1] at hk
        obtain ⟨z1, v, z2, z3⟩ := a2.2 k c hk
        rw [List.getElem?_take, if_pos (by omega)] at z2
        exact ⟨z1, v, z2, z3⟩
      · rw [List.getElem?_append_right (by omega)] at hk
        obtain ⟨z1, v, z2, z3⟩ := b2.2 _ c hk
        refine ⟨z1, v, ?_, z3⟩
        rw [List.getElem?_drop] at z2 ⊢
        rw [← z2]
        congr 1
        omega
theorem open_has (hte : TEok P te) : ∀ d t, plainT te d t = true → ∀ n (cs : List Value) x, DataW.trod enc P w 0 (fun _ => true) held n t cs = some x → (∀ m ∈ x.1.weights P t, m ≤ upB) →
    ∃ av, Has te d t av ∧ CellsAre w cs av
  | 0, t, hp, n, cs, x, h, hw => by simp [plainT] at hp
  | d + 1, t, hp, n, cs, x, h, hw => by
    have ih := open_has hte d
    simp only [plainT] at hp
    simp only [Has]
    cases hg : te.get t with
    | none => rw [hg] at hp; cases hp
    | some i =>
      rw [hg] at hp
      have ht := hte.tells hg
      obtain ⟨k, size, bytes, zero⟩ := i
      cases k with
      | int k =>
        obtain ⟨m, rfl, rfl, h3⟩ := DataW.trod_int (ht.int rfl) h
        exact ⟨[.v (.int k m)], ⟨m, h3, rfl⟩, .one rfl .v⟩
      | bool =>
        obtain ⟨b, rfl, rfl⟩ := DataW.trod_bool (ht.bool rfl) h
        exact ⟨[tf b], ⟨b, rfl⟩, .one rfl .v⟩
      | str =>
        obtain ⟨s, rfl, rfl, _⟩ := DataW.trod_string (ht.str rfl) h
        exact ⟨[str s.data.toList], ⟨_, hw _ (by simp [DataW.weights]), rfl⟩, .one rfl .v⟩
      | slice e =>
        simp only [Bool.and_eq_true] at hp
        obtain ⟨hp1, hp2⟩ := hp
        cases he : te.get e with
        | none => rw [he] at hp2; cases hp2
        | some j =>
          rw [he] at hp2
          have hpos : 0 < j.size := Nat.blt_eq.mp hp2
          have hce := (hte.tells he).cells
          rcases DataW.trod_slice (ht.slice rfl) h with ⟨rfl, rfl⟩ | ⟨a, len, cap, elems, rest, n', rfl, rfl, rfl, hb, hlc, hcm, hel, hget, _, _⟩
          · exact ⟨[.fz 0 0 []], ⟨[], by simp, fun _ _ => by simp, rfl⟩, .one rfl .fz0⟩
          · have hwt : ∀ y ∈ elems, ∀ m ∈ y.1.weights P e, m ≤ upB := fun y hy m hm => by
              refine hw m ?_
              simp only [DataW.weights, ht.slice rfl, List.mem_cons, List.mem_append]
              exact .inr (.inl (weightsAll_mem (List.mem_map_of_mem hy) m hm))
            have hone : ∀ i, i < len → ∃ av, Has te d e av ∧ av.length = j.size ∧ ∀ (r : Nat) c, av[r]? = some c → c.ok 0 = true ∧ ∃ v, w.cell? ((a.add (i * j.size)).add r) = some v ∧ Rep w noO noL c v := by
              intro i hi
              have h1 := hget i hi
              have hil : i < elems.length := by omega
              rw [List.getElem?_eq_getElem hil] at h1
              obtain ⟨cs', h2, h3⟩ := Option.bind_eq_some_iff.1 h1
              obtain ⟨_, q1, q2⟩ := World.cells?_some h2
              obtain ⟨av, b1, b2, b3⟩ := ih e hp1 n' cs' _ h3 (hwt _ (List.getElem_mem hil))
              rw [hce.1] at q1 q2
              refine ⟨av, b1, by rw [b2, q1], fun r c hr => ?_⟩
              obtain ⟨z1, v, z2, z3⟩ := b3 r c hr
              have hrl : r < j.size := by rw [← q1, ← b2]; exact (List.getElem?_eq_some_iff.1 hr).1
              exact ⟨z1, v, by rw [q2 r hrl, z2], z3⟩
            obtain ⟨es, l1, l2⟩ := exists_list len hone
            have hlen : ∀ c ∈ es, c.length = j.size := fun c hc => by
              obtain ⟨i, hi⟩ := List.mem_iff_getElem?.1 hc
              exact (l2 i c hi).2.1
            have hfl := flatten_length_of hlen
            refine ⟨[.fz 0 es.length es.flatten], ⟨es, fun c hc => ?_, fun j' hj' => ?_, rfl⟩, .one rfl ?_⟩
            · obtain ⟨i, hi⟩ := List.mem_iff_getElem?.1 hc
              exact (l2 i c hi).1
            · rw [he] at hj'
              cases hj'
              have := hw ((elems.length + rest.length) * P.bytesOf e) (by simp [DataW.weights, ht.slice rfl])
              rw [hce.2] at this
              have h2 : es.length * j.bytes ≤ (elems.length + rest.length) * j.bytes := Nat.mul_le_mul_right _ (by omega)
              omega
            · by_cases hl0 : len = 0
              · have : es = [] := List.eq_nil_of_length_eq_zero (by omega)
                subst this
                rw [hl0]
                exact .fz0
              ·
                have hc0 : ∀ q, q < es.flatten.length → ∃ c v, es.flatten[q]? = some c ∧ c.ok 0 = true ∧ w.cell? (a.add q) = some v ∧ Rep w noO noL c v := by
                  intro q hq
                  obtain ⟨c, k1, k2⟩ := flatten_get hpos hlen (List.getElem?_eq_getElem hq)
                  obtain ⟨_, _, g3⟩ := l2 _ c k1
                  obtain ⟨z1, v, z2, z3⟩ := g3 _ _ k2
                  refine ⟨_, v, List.getElem?_eq_getElem hq, z1, ?_, z3⟩
                  rw [Addr.add_add, Nat.mul_comm, Nat.div_add_mod] at z2
                  exact z2
                have hpf : 0 < es.flatten.length := by rw [hfl, l1]; exact Nat.mul_pos (by omega) hpos
                obtain ⟨b, o, sp⟩ := a
                have hsp : sp = none := by
                  obtain ⟨c, v, _, _, h3, _⟩ := hc0 0 hpf
                  simp only [Addr.add, if_true, World.cell?] at h3
                  split at h3
                  · split at h3
                    · cases h3
                    · rename_i hs
                      simpa using hs
                  · cases h3
                subst hsp
                rw [l1]
                refine .fz (fun q => (w.cell? ⟨b, o + q, none⟩).getD undef) (may_none _ _) hlc (fun c hc => ?_) (fun q hq => ?_) (fun q c hq => ?_) hpf
                · obtain ⟨q, hq⟩ := List.mem_iff_getElem?.1 hc
                  obtain ⟨c', v, h1, h2, _⟩ := hc0 q (List.getElem?_eq_some_iff.1 hq).1
                  rw [hq] at h1
                  cases h1
                  exact h2
                · obtain ⟨c', v, h1, h2, h3, h4⟩ := hc0 q hq
                  rw [Addr.add_lit] at h3
                  rw [h3]
                  rfl
                · obtain ⟨c', v, h1, h2, h3, h4⟩ := hc0 q (List.getElem?_eq_some_iff.1 hq).1
                  rw [hq] at h1
                  cases h1
                  rw [Addr.add_lit] at h3
                  rw [h3]
                  exact h4
      | arr m e =>
        simp only [Bool.and_eq_true] at hp
        obtain ⟨hp1, hp2⟩ := hp
        cases he : te.get e with
        | none => rw [he] at hp2; cases hp2
        | some j =>
          rw [he] at hp2
          simp only [Bool.and_eq_true] at hp2
          have hpos : 0 < j.size := Nat.blt_eq.mp hp2.1
          have hsz : size = m * j.size := Nat.eq_of_beq_eq_true hp2.2
          have hce := (hte.tells he).cells
          obtain ⟨xs, n', rfl, rfl, hl, hxl, hget⟩ := DataW.trod_array (ht.arr rfl) h
          have hl : cs.length = m * j.size := by rw [hl, ht.cells.1, ← hsz]
          have hone : ∀ i, i < m → ∃ av, Has te d e av ∧ CellsAre w ((cs.drop (i * j.size)).take j.size) av := by
            intro i hi
            have h1 := hget i hi
            have hil : i < xs.length := by omega
            rw [List.getElem?_eq_getElem hil, hce.1] at h1
            refine ih e hp1 n' _ _ h1 fun q hq => hw q ?_
            simp only [DataW.weights, ht.arr rfl]
            exact weightsAll_mem (List.mem_map_of_mem (List.getElem_mem hil)) q hq
          obtain ⟨es, l1, l2⟩ := exists_list m hone
          have hlen : ∀ c ∈ es, c.length = j.size := fun c hc => by
            obtain ⟨i, hi⟩ := List.mem_iff_getElem?.1 hc
            have hil : i < m := by rw [← l1]; exact (List.getElem?_eq_some_iff.1 hi).1
            rw [(l2 i c hi).2.1]
            show ((cs.drop (i * j.size)).take j.size).length = j.size
            have : (i + 1) * j.size ≤ m * j.size := Nat.mul_le_mul_right _ hil
            rw [Nat.add_mul, Nat.one_mul, ← hl] at this
            simp
            omega
          refine ⟨es.flatten, ⟨es, l1, fun c hc => ?_, rfl⟩, by rw [flatten_length_of hlen, l1, hl], fun q c hq => ?_⟩
          · obtain ⟨i, hi⟩ := List.mem_iff_getElem?.1 hc
            exact (l2 i c hi).1
          · obtain ⟨c', k1, k2⟩ := flatten_get hpos hlen hq
            obtain ⟨z1, v, z2, z3⟩ := (l2 _ c' k1).2.2 _ c k2
            refine ⟨z1, v, ?_, z3⟩
            rw [List.getElem?_take, if_pos (Nat.mod_lt _ hpos), List.getElem?_drop, Nat.mul_comm, Nat.div_add_mod] at z2
            exact z2
      | struct fs =>
        simp only [Bool.and_eq_true] at hp
        obtain ⟨fl, f1, f2⟩ := ht.struct rfl
        obtain ⟨xs, n', rfl, rfl, hl, hxl, hget⟩ := DataW.trod_struct f1 h
        rw [ht.cells.1] at hl
        subst f2
        simp only at hl
        rw [← hl] at hp
        have := open_fields hte ih (n := n') (cs := cs) fl.toList 0 xs (by simpa using hxl) (fun i f hf => hget i f (by simpa using hf)) hp.1 hp.2 (fun m hm => hw m (by simpa [DataW.weights, f1] using hm))
        simpa using this
      | _ => cases hp
end
def HasArgs (te : TE) (d : Nat) : List TypeId → List AV → Prop
  | [], [] => True
  | t :: ts, a :: r => (∃ i cs, te.get t = some i ∧ Has te d t cs ∧ a = mkAV i.k.agg cs) ∧ HasArgs te d ts r
  | _, _ => False
theorem HasArgs.length {te : TE} {d : Nat} : ∀ {ts : List TypeId} {l : List AV}, HasArgs te d ts l → l.length = ts.length
  | [], [], _ => rfl
  | t :: ts, a :: r, h => by simp [HasArgs.length h.2]
  | [], _ :: _, h => h.elim
  | _ :: _, [], h => h.elim
section
variable {P : Program} {te : TE} {w : World} {H : Type} {enc : TypeId × Value → H}
theorem scalar_cells {t : TypeId} {v : Value} {dsc : TypeDesc} {r : Reach} {base : Nat} (hu : P.underlying t = some dsc) (hn : (match dsc with | .int _ | .bool | .string | .slice _ => true | _ => false) = true)
    (h : Value.okWide P w r base t v) : v.cells = #[v] := by
  cases dsc <;> simp at hn
  · simp only [Value.okWide, hu, Cell.okWide] at h
    cases v <;> simp_all [Cell.ok, Value.cells]
  · simp only [Value.okWide, hu, Cell.okWide] at h
    cases v <;> simp_all [Cell.ok, Value.cells]
  · simp only [Value.okWide, hu, Cell.okWide] at h
    cases v <;> simp_all [Cell.ok, Value.cells]
  · simp only [Value.okWide, hu, Cell.okWide] at h
    cases v <;> simp_all [Cell.ok, Value.cells]
theorem arg_rep (hte : TEok P te) {d : Nat} {t : TypeId} {i : TI} {v : Value} {r : Reach} {base : Nat} {l : List AV} (hg : te.get t = some i) (hp : plainT te d t = true) (hv : Value.okWide P w r base t v)
    (hc : CellsAre w v.cells.toList l) : Rep w noO noL (mkAV i.k.agg l) v := by
  cases d with
  | zero => simp [plainT] at hp
  | succ d =>
    simp only [plainT, hg] at hp
    have ht := hte.tells hg
    have one : v.cells = #[v] → i.k.agg = false → Rep w noO noL (mkAV i.k.agg l) v := by
      intro h1 h2
      rw [h1] at hc
      obtain ⟨h3, h4⟩ := hc
      have h3 : l.length = 1 := h3
      obtain ⟨a, rfl⟩ := List.length_eq_one_iff.1 h3
      obtain ⟨_, v', h5, h6⟩ := h4 0 a rfl
      simp at h5
      subst h5
      rw [h2]
      exact h6
    have many : (∃ cs, v = .agg cs) → i.k.agg = true → Rep w noO noL (mkAV i.k.agg l) v := by
      rintro ⟨cs, rfl⟩ h2
      simp only [Value.cells] at hc
      obtain ⟨h3, h4⟩ := hc
      rw [h2]
      refine .agg (fun j => cs.getD j undef) (by simpa using h3.symm) (fun j hj => ?_) (fun j c hj => ?_)
      · have : j < cs.size := by simp at h3; omega
        simp [Array.getD, this]
      · obtain ⟨_, v, h5, h6⟩ := h4 j c hj
        rw [Array.getElem?_toList] at h5
        rw [Array.getD_eq_getD_getElem?, h5]
        exact h6
    obtain ⟨k, size, bytes, zero⟩ := i
    cases k with
    | int k => exact one (scalar_cells (ht.int rfl) rfl hv) rfl
    | bool => exact one (scalar_cells (ht.bool rfl) rfl hv) rfl
    | str => exact one (scalar_cells (ht.str rfl) rfl hv) rfl
    | slice e => exact one (scalar_cells (ht.slice rfl) rfl hv) rfl
    | arr m e =>
      refine many ?_ rfl
      simp only [Value.okWide, ht.arr rfl] at hv
      exact ⟨hv.choose, hv.choose_spec.1⟩
    | struct fs =>
      obtain ⟨fl, f1, f2⟩ := ht.struct rfl
      refine many ?_ rfl
      simp only [Value.okWide, f1] at hv
      exact ⟨hv.choose, hv.choose_spec.1⟩
    | _ => cases hp
theorem open_args (hte : TEok P te) {d : Nat} {r : Reach} {base : Nat} : ∀ {ts : List TypeId} {vs : List Value} {ds : List (DataW H)} {ps : List MemPlace}, DataW.TrodAll enc P w 0 (fun _ => true) true ts vs ds ps → (ts.all fun t => plainT te d t) = true →
    (∀ (j : Nat) t v, ts[j]? = some t → vs[j]? = some v → Value.okWide P w r base t v) → (∀ m ∈ DataW.weightsEach P ts ds, m ≤ upB) →
    ∃ l, HasArgs te d ts l ∧ vs.length = l.length ∧ ∀ (j : Nat) c, l[j]? = some c → ∃ v, vs[j]? = some v ∧ Rep w noO noL c v
  | [], [], [], ps, h, hp, hv, hw => ⟨[], trivial, rfl, fun j c hj => by simp at hj⟩
  | t :: ts, v :: vs, x :: ds, ps, h, hp, hv, hw => by
    obtain ⟨p, q, ⟨n, h1⟩, h2, rfl⟩ := h
    simp only [List.all_cons, Bool.and_eq_true] at hp
    simp only [DataW.weightsEach, List.mem_append] at hw
    obtain ⟨l, l1, l2, l3⟩ := open_args hte h2 hp.2 (fun j t v ht hv' => hv (j + 1) t v (by simpa using ht) (by simpa using hv')) (fun m hm => hw m (.inr hm))
    obtain ⟨a, a1, a2⟩ := open_has hte d t hp.1 n _ _ h1 (fun m hm => hw m (.inl hm))
    have hg : ∃ i, te.get t = some i := by
      cases d with
      | zero => simp [plainT] at hp
      | succ d =>
        have := hp.1
        simp only [plainT] at this
        cases hg : te.get t with
        | none => rw [hg] at this; cases this
        | some i => exact ⟨i, rfl⟩
    obtain ⟨i, hg⟩ := hg
    have hr := arg_rep hte hg hp.1 (hv 0 t v rfl rfl) a2
    refine ⟨mkAV i.k.agg a :: l, ⟨⟨i, a, hg, a1, rfl⟩, l1⟩, by simp [l2], fun j c hj => ?_⟩
    cases j with
    | zero => simp at hj; subst hj; exact ⟨v, rfl, hr⟩
    | succ j => simpa using l3 j c (by simpa using hj)
  | [], _ :: _, _, _, h, _, _, _ => by simp [DataW.TrodAll] at h
  | [], [], _ :: _, _, h, _, _, _ => by simp [DataW.TrodAll] at h
  | _ :: _, [], _, _, h, _, _, _ => by simp [DataW.TrodAll] at h
  | _ :: _, _ :: _, [], _, h, _, _, _ => by simp [DataW.TrodAll] at h
theorem trodAll_stay (hl : laidOutB P = true) {w' : World} (hb : Below w.heap.size w w') : ∀ {ts : List TypeId} {vs : List Value} {ds : List (DataW H)} {ps : List MemPlace}, DataW.TrodAll enc P w 0 (fun _ => true) true ts vs ds ps →
    (ts.all fun t => P.readableRec t && decide (t < P.types.size)) = true → DataW.TrodAll enc P w' 0 (fun b => decide (b < w.heap.size)) true ts vs ds ps
  | [], [], [], ps, h, hp => h
  | t :: ts, v :: vs, y :: ds, ps, h, hp => by
    obtain ⟨p, q, h1, h2, rfl⟩ := h
    simp only [List.all_cons, Bool.and_eq_true, decide_eq_true_eq] at hp
    have hlt : ∀ x ∈ p, x.block < w.heap.size := fun x hx => by obtain ⟨n, h1⟩ := h1; exact DataW.trod_lt n _ _ _ h1 x hx
    exact ⟨p, q, Below.trod hl hp.1.1 hp.1.2 h1 hb hlt, trodAll_stay hl hb h2 (by simpa using hp.2), rfl⟩
  | [], _ :: _, _, _, h, _ => by simp [DataW.TrodAll] at h
  | [], [], _ :: _, _, h, _ => by simp [DataW.TrodAll] at h
  | _ :: _, [], _, _, h, _ => by simp [DataW.TrodAll] at h
  | _ :: _, _ :: _, [], _, h, _ => by simp [DataW.TrodAll] at h
theorem law_row (hte : TEok P te) {f : FuncId} {fn : Func} {s : ChangeSpec} {d : Nat} {tb : TypeId} (hl : laidOutB P = true) (hp : (fn.params.toList.all fun t => plainT te d t) = true)
    (hp2 : (fn.params.toList.all fun t => P.readableRec t && decide (t < P.types.size)) = true) (hres : fn.resultTypes = #[tb]) (hb : P.underlying tb = some .bool) (hvars : s.vars = [])
    (hfn : ∀ ds : List (DataW H), ds.length = fn.params.toList.length → (s.fn H ds).results = [.lit (.bool true)] ∧ (s.fn H ds).args = ds ∧ (s.fn H ds).vars = [])
    (hac : ∀ l, HasArgs te d fn.params.toList l → AC P f l emp (Ret (tf true)))
    {W : World} {base : Nat} {args : Array Value} {ds gs : List (DataW H)} {before : List MemPlace}
    (hval : ∀ (j : Nat) t v, fn.params[j]? = some t → args[j]? = some v → Value.okWide P W .any base t v) (hW : DataW.Whole enc P fn.params.toList s.vars false W args.toList ds gs before)
    (hsz : (DataW.weightsEach P (fn.params.toList ++ s.plain.varTypes P) (ds ++ gs)).all (· ≤ upB) = true) :
    Calls P f args W fun e W' => ∃ v, e = .returned v ∧ s.post enc P fn false true false false W args v W' := by
  have hW' := hW
  obtain ⟨p, q, hA, hV, rfl, hfz, hnd⟩ := hW
  rw [hvars] at hV
  obtain ⟨rfl, rfl⟩ := trodVars_none hV
  have hlen : ∀ {ts : List TypeId} {vs : List Value} {ds : List (DataW H)} {ps : List MemPlace}, DataW.TrodAll enc P W 0 (fun _ => true) true ts vs ds ps → ds.length = ts.length := by
    intro ts
    induction ts with
    | nil => intro vs ds ps h; cases vs <;> cases ds <;> first | rfl | (simp [DataW.TrodAll] at h)
    | cons t ts ih =>
      intro vs ds ps h
      cases vs with
      | nil => simp [DataW.TrodAll] at h
      | cons v vs =>
        cases ds with
        | nil => simp [DataW.TrodAll] at h
        | cons x ds =>
          obtain ⟨_, _, _, h2, _⟩ := h
          simp [ih h2]
  have hdl := hlen hA
  obtain ⟨l, l1, l2, l3⟩ := open_args hte hA hp (fun j t v ht hv => hval j t v (by simpa using ht) (by simpa using hv)) (fun m hm => by
    have := List.all_eq_true.1 hsz m ?_
    · simpa using this
    · rw [List.append_nil]
      have key : ∀ (ts us : List TypeId) (ds : List (DataW H)), m ∈ DataW.weightsEach P ts ds → m ∈ DataW.weightsEach P (ts ++ us) ds := by
        intro ts
        induction ts with
        | nil => intro us ds h; simp [DataW.weightsEach] at h
        | cons t ts ih =>
          intro us ds h
          cases ds with
          | nil => simp [DataW.weightsEach] at h
          | cons x ds =>
            simp only [DataW.weightsEach, List.mem_append, List.cons_append] at h ⊢
            exact h.imp id (ih us ds)
      exact key _ _ _ hm)
  obtain ⟨_, hcall⟩ := hac l l1
  have hs0 : HSim W noO noL emp := ⟨(fun id ob h => by cases h), fun _ _ => rfl, (fun id l b o h => by cases h), (fun id id' l l' b o o' h => by cases h), fun k b h => h.elim⟩
  refine hcall noL W noO args hs0 ⟨by simpa using l2, fun j c hj => by simpa using l3 j c hj⟩ _ ?_ ?_
  · intro r h' w' φ' v hR hs' g hr
    obtain ⟨hr1, _⟩ := hR
    cases hr1
    cases hr
    have bel : Below W.heap.size W w' := ⟨g.os, g.tape, g.output, g.size, fun k hk => g.keep k hk owned_none⟩
    obtain ⟨f1, f2, f3⟩ := hfn ds hdl
    refine ⟨_, rfl, ds, [], p ++ [], [], p, [], hW', ?_, ?_, ?_, bel.frame _, fun h => by cases h⟩
    · rw [List.append_nil, f1, hres]
      exact trodAll_mk1 (shut_bool hb true)
    · rw [List.append_nil, f2]
      exact trodAll_stay hl bel hA hp2
    · rw [List.append_nil, f3, hvars]
      rfl
  · intro x h' w' φ' hR
    exact absurd hR.1 (by simp)
end
section
variable {te : TE}
theorem has_u8 {d : Nat} {t : TypeId} {i : TI} {cs : List AV} (h : Has te d t cs) (hg : te.get t = some i) (hk : i.k = .int .u8) : ∃ b : UInt8, cs = [u8 b.toNat] := by
  cases d with
  | zero => simp [Has] at h
  | succ d =>
    simp only [Has, hg, hk] at h
    obtain ⟨n, h1, rfl⟩ := h
    have h2 : (0 : Int) ≤ n ∧ n ≤ 255 := by
      simp only [Lit.wf, Bool.and_eq_true, decide_eq_true_eq] at h1
      have e1 : IntKind.u8.min = 0 := by decide
      have e2 : IntKind.u8.max = 255 := by decide
      omega
    refine ⟨byte n, ?_⟩
    rw [byte_toNat, Int.emod_eq_of_lt h2.1 (by omega)]
theorem choose_eq {α : Type} {f : α → List AV} {q : α → Prop} : ∀ {es : List (List AV)}, (∀ c ∈ es, ∃ a, c = f a ∧ q a) → ∃ l : List α, es = l.map f ∧ ∀ a ∈ l, q a
  | [], _ => ⟨[], rfl, fun a h => by simp at h⟩
  | c :: es, h => by
    obtain ⟨a, rfl, ha⟩ := h c List.mem_cons_self
    obtain ⟨l, h1, h2⟩ := choose_eq fun x hx => h x (List.mem_cons_of_mem _ hx)
    refine ⟨a :: l, by rw [h1]; rfl, fun x hx => ?_⟩
    rcases List.mem_cons.1 hx with rfl | hx
    · exact ha
    · exact h2 x hx
theorem has_slice {α : Type} {f : α → List AV} {q : α → Prop} {d : Nat} {t e : TypeId} {i j : TI} {cs : List AV} (h : Has te (d + 1) t cs) (hg : te.get t = some i) (hk : i.k = .slice e) (he : te.get e = some j)
    (hq : ∀ c, Has te d e c → ∃ a, c = f a ∧ q a) : ∃ l : List α, cs = [.fz 0 l.length (l.flatMap f)] ∧ l.length * j.bytes ≤ 1073741824 ∧ ∀ a ∈ l, q a := by
  simp only [Has, hg, hk] at h
  obtain ⟨es, h1, h2, h3⟩ := h
  obtain ⟨l, rfl, h4⟩ := choose_eq (f := f) (q := q) fun c hc => hq c (h1 c hc)
  exact ⟨l, by rw [h3, List.length_map, List.flatMap_def], by have := h2 j he; rw [List.length_map] at this; exact this, h4⟩
theorem has_bytes {d : Nat} {t e : TypeId} {i j : TI} {cs : List AV} (h : Has te (d + 1) t cs) (hg : te.get t = some i) (hk : i.k = .slice e) (he : te.get e = some j) (hj : j.k = .int .u8) (hb : j.bytes = 1) :
    ∃ l : List UInt8, cs = [.fz 0 l.length (cl bc l)] ∧ l.length ≤ 1073741824 := by
  obtain ⟨l, h1, h2, _⟩ := has_slice (f := bc) (q := fun _ => True) h hg hk he fun c hc => by
    obtain ⟨b, hb⟩ := has_u8 hc he hj
    exact ⟨b, hb, trivial⟩
  exact ⟨l, h1, by rw [hb] at h2; omega⟩
theorem arg_cons {d : Nat} {t : TypeId} {i : TI} {ts : List TypeId} {l : List AV} (h : HasArgs te d (t :: ts) l) (hg : te.get t = some i) : ∃ cs r, Has te d t cs ∧ HasArgs te d ts r ∧ l = mkAV i.k.agg cs :: r := by
  cases l with
  | nil => exact h.elim
  | cons a r =>
    obtain ⟨⟨i', cs, h1, h2, h3⟩, h4⟩ := h
    rw [hg] at h1
    cases h1
    subst h3
    exact ⟨cs, r, h2, h4, rfl⟩
theorem arg_nil {d : Nat} {l : List AV} (h : HasArgs te d [] l) : l = [] := by
  cases l with
  | nil => rfl
  | cons a r => exact h.elim
theorem args1 {d : Nat} {t : TypeId} {i : TI} {l : List AV} (h : HasArgs te d [t] l) (hg : te.get t = some i) : ∃ cs, Has te d t cs ∧ l = [mkAV i.k.agg cs] := by
  obtain ⟨cs, r, h1, h2, rfl⟩ := arg_cons h hg
  obtain rfl := arg_nil h2
  exact ⟨cs, h1, rfl⟩
end
section
variable {te : TE}
theorem has_sl {α : Type} {f : α → List AV} {q : α → Prop} {d : Nat} {t e : TypeId} {i j : TI} {cs : List AV} (h : Has te (d + 1) t cs) (hg : te.get t = some i) (hk : i.k = .slice e) (he : te.get e = some j)
    (hq : ∀ c, Has te d e c → ∃ a, c = f a ∧ q a) : ∃ l : List α, cs = [.fz 0 l.length (cl f l)] ∧ l.length * j.bytes ≤ 1073741824 ∧ ∀ a ∈ l, q a := has_slice h hg hk he hq
theorem has_bytess {d : Nat} {t e e2 : TypeId} {i j j2 : TI} {cs : List AV} (h : Has te (d + 2) t cs) (hg : te.get t = some i) (hk : i.k = .slice e) (he : te.get e = some j) (hj : j.k = .slice e2) (he2 : te.get e2 = some j2) (hj2 : j2.k = .int .u8) (hb2 : j2.bytes = 1) (hb : j.bytes = 24) :
    ∃ l : List (List UInt8), cs = [.fz 0 l.length (cl (lc 0 bc) l)] ∧ l.length * 24 ≤ 1073741824 ∧ ∀ x ∈ l, x.length ≤ 1073741824 := by
  obtain ⟨l, h1, h2, h3⟩ := has_sl (f := lc 0 bc) (q := fun x => x.length ≤ 1073741824) h hg hk he fun c hc => by
    obtain ⟨b, h1, h2⟩ := has_bytes hc he hj he2 hj2 hb2
    exact ⟨b, h1, h2⟩
  exact ⟨l, h1, by rw [hb] at h2; exact h2, h3⟩
end
section
variable {H : Type} {P : Program} {K : Nat}
theorem one_le (d : DataW H) : 1 ≤ Rows.uptoBulk d := by
  cases d with
  | lit l => cases l <;> simp [Rows.uptoBulk]
  | nil => simp [Rows.uptoBulk]
  | ptr d => simp [Rows.uptoBulk]
  | slice elems spare => simp [Rows.uptoBulk]
  | agg parts => simp [Rows.uptoBulk]
  | iface t d => simp [Rows.uptoBulk]
  | map entries => simp [Rows.uptoBulk]
  | held h => simp [Rows.uptoBulk]
theorem len_le : ∀ l : List (DataW H), l.length ≤ Rows.uptoBulkAll l
  | [] => by simp [Rows.uptoBulkAll]
  | x :: r => by have := one_le x; have := len_le r; simp only [Rows.uptoBulkAll, List.length_cons]; omega
theorem le_mulr {m a b : Nat} (h : m ≤ a) (hb : 1 ≤ b) : m ≤ a * b := Nat.le_trans h (Nat.le_mul_of_pos_right _ hb)
theorem plain_desc {te : TE} (hte : TEok P te) {d : Nat} {t : TypeId} {D : TypeDesc} (h : plainT te d t = true) (hu : P.underlying t = some D) : ∃ d' i, d = d' + 1 ∧ te.get t = some i ∧ i.k.chk D = true := by
  cases d with
  | zero => simp [plainT] at h
  | succ d =>
    cases hg : te.get t with
    | none => simp [plainT, hg] at h
    | some i =>
      obtain ⟨D', h1, h2⟩ := (hte.tells hg).desc
      rw [hu] at h1
      cases h1
      exact ⟨d, i, rfl, rfl, h2⟩
theorem plain_slice {te : TE} (hte : TEok P te) {d : Nat} {t e : TypeId} (h : plainT te d t = true) (hu : P.underlying t = some (.slice e)) : ∃ d', plainT te d' e = true ∧ ∃ j, te.get e = some j := by
  obtain ⟨d', ⟨k, sz, by_, z⟩, rfl, hg, hc⟩ := plain_desc hte h hu
  cases k <;> simp only [TK.chk, Bool.false_eq_true] at hc
  rename_i e'
  have := Nat.eq_of_beq_eq_true hc
  subst this
  simp only [plainT, hg, Bool.and_eq_true] at h
  cases he : te.get e' with
  | none => rw [he] at h; cases h.2
  | some j => exact ⟨d', h.1, j, rfl⟩
theorem plain_arr {te : TE} (hte : TEok P te) {d n : Nat} {t e : TypeId} (h : plainT te d t = true) (hu : P.underlying t = some (.array n e)) : ∃ d', plainT te d' e = true := by
  obtain ⟨d', ⟨k, sz, by_, z⟩, rfl, hg, hc⟩ := plain_desc hte h hu
  cases k <;> simp only [TK.chk, Bool.false_eq_true, Bool.and_eq_true] at hc
  rename_i e'
  have := Nat.eq_of_beq_eq_true hc.2
  subst this
  simp only [plainT, hg, Bool.and_eq_true] at h
  exact ⟨d', h.1⟩
theorem plain_struct {te : TE} (hte : TEok P te) {d : Nat} {t : TypeId} {fs : Array Field} (h : plainT te d t = true) (hu : P.underlying t = some (.struct fs)) : ∃ d', ∀ t ∈ fs.toList.map (·.type), plainT te d' t = true := by
  obtain ⟨d', ⟨k, sz, by_, z⟩, rfl, hg, hc⟩ := plain_desc hte h hu
  cases k <;> simp only [TK.chk, Bool.false_eq_true] at hc
  rename_i l
  have hl : l = fs.toList.map fun f => (f.offset, f.type) := by simpa using hc
  simp only [plainT, hg, Bool.and_eq_true, List.all_eq_true] at h
  refine ⟨d', fun t ht => ?_⟩
  obtain ⟨f, hf, rfl⟩ := List.mem_map.1 ht
  exact h.2 (f.offset, f.type) (by rw [hl]; exact List.mem_map.2 ⟨f, hf, rfl⟩)
theorem plain_ptr {te : TE} (hte : TEok P te) {d : Nat} {t e : TypeId} (h : plainT te d t = true) (hu : P.underlying t = some (.pointer e)) : False := by
  obtain ⟨d', ⟨k, sz, by_, z⟩, rfl, hg, hc⟩ := plain_desc hte h hu
  cases k <;> simp only [TK.chk, Bool.false_eq_true] at hc
  simp [plainT, hg] at h
theorem plain_map {te : TE} (hte : TEok P te) {d : Nat} {t k e : TypeId} (h : plainT te d t = true) (hu : P.underlying t = some (.map k e)) : False := by
  obtain ⟨d', ⟨k, sz, by_, z⟩, rfl, hg, hc⟩ := plain_desc hte h hu
  cases k <;> simp only [TK.chk, Bool.false_eq_true] at hc
  simp [plainT, hg] at h
mutual
theorem w_le {te : TE} (hte : TEok P te) (hK : ∀ t j, te.get t = some j → P.bytesOf t ≤ K) (h1 : 1 ≤ K) : ∀ (x : DataW H) (d : Nat) (t : TypeId), plainT te d t = true → ∀ m ∈ x.weights P t, m ≤ Rows.uptoBulk x * K
  | .lit l, d, t, hp, m, h => by
    cases l with
    | string b =>
      simp only [DataW.weights, List.mem_singleton] at h
      subst h
      exact le_mulr (by simp [Rows.uptoBulk]) h1
    | _ => simp [DataW.weights] at h
  | .nil, d, t, hp, m, h => by simp [DataW.weights] at h
  | .ptr x, d, t, hp, m, h => by
    simp only [DataW.weights] at h
    split at h
    · rename_i hu; exact (plain_ptr hte hp hu).elim
    · cases h
  | .slice es sp, d, t, hp, m, h => by
    simp only [DataW.weights] at h
    split at h
    · rename_i e hu
      obtain ⟨d', hp', j, hj⟩ := plain_slice hte hp hu
      rcases List.mem_cons.1 h with rfl | h
      · have h2 := len_le es
        have h3 := len_le sp
        exact Nat.mul_le_mul (by simp only [Rows.uptoBulk]; omega) (hK _ _ hj)
      · rcases List.mem_append.1 h with h | h
        · exact Nat.le_trans (w_all hte hK h1 es d' e hp' m h) (Nat.mul_le_mul_right _ (by simp only [Rows.uptoBulk]; omega))
        · exact Nat.le_trans (w_all hte hK h1 sp d' e hp' m h) (Nat.mul_le_mul_right _ (by simp only [Rows.uptoBulk]; omega))
    · cases h
  | .agg ps, d, t, hp, m, h => by
    simp only [DataW.weights] at h
    split at h
    · rename_i fs hu
      obtain ⟨d', hp'⟩ := plain_struct hte hp hu
      exact Nat.le_trans (w_each hte hK h1 ps d' _ hp' m h) (Nat.mul_le_mul_right _ (by simp only [Rows.uptoBulk]; omega))
    · rename_i n e hu
      obtain ⟨d', hp'⟩ := plain_arr hte hp hu
      exact Nat.le_trans (w_all hte hK h1 ps d' e hp' m h) (Nat.mul_le_mul_right _ (by simp only [Rows.uptoBulk]; omega))
    · cases h
  | .iface t2 x, d, t, hp, m, h => by simp [DataW.weights] at h
  | .map es, d, t, hp, m, h => by
    simp only [DataW.weights] at h
    split at h
    · rename_i hu; exact (plain_map hte hp hu).elim
    · cases h
  | .held x, d, t, hp, m, h => by simp [DataW.weights] at h
theorem w_all {te : TE} (hte : TEok P te) (hK : ∀ t j, te.get t = some j → P.bytesOf t ≤ K) (h1 : 1 ≤ K) : ∀ (l : List (DataW H)) (d : Nat) (e : TypeId), plainT te d e = true → ∀ m ∈ DataW.weightsAll P e l, m ≤ Rows.uptoBulkAll l * K
  | [], d, e, hp, m, h => by simp [DataW.weightsAll] at h
  | x :: r, d, e, hp, m, h => by
    simp only [DataW.weightsAll, List.mem_append] at h
    rcases h with h | h
    · exact Nat.le_trans (w_le hte hK h1 x d e hp m h) (Nat.mul_le_mul_right _ (by simp only [Rows.uptoBulkAll]; omega))
    · exact Nat.le_trans (w_all hte hK h1 r d e hp m h) (Nat.mul_le_mul_right _ (by simp only [Rows.uptoBulkAll]; omega))
theorem w_each {te : TE} (hte : TEok P te) (hK : ∀ t j, te.get t = some j → P.bytesOf t ≤ K) (h1 : 1 ≤ K) : ∀ (l : List (DataW H)) (d : Nat) (ts : List TypeId), (∀ t ∈ ts, plainT te d t = true) → ∀ m ∈ DataW.weightsEach P ts l, m ≤ Rows.uptoBulkAll l * K
  | [], d, ts, hp, m, h => by cases ts <;> simp [DataW.weightsEach] at h
  | x :: r, d, [], hp, m, h => by simp [DataW.weightsEach] at h
  | x :: r, d, t :: ts, hp, m, h => by
    simp only [DataW.weightsEach, List.mem_append] at h
    rcases h with h | h
    · exact Nat.le_trans (w_le hte hK h1 x d t (hp t List.mem_cons_self) m h) (Nat.mul_le_mul_right _ (by simp only [Rows.uptoBulkAll]; omega))
    · exact Nat.le_trans (w_each hte hK h1 r d ts (fun t ht => hp t (List.mem_cons_of_mem _ ht)) m h) (Nat.mul_le_mul_right _ (by simp only [Rows.uptoBulkAll]; omega))
end
theorem sized {te : TE} (hte : TEok P te) (hb : (te.all fun p => Nat.ble p.2.bytes 1024) = true) {d : Nat} {ts us : List TypeId} {l : List (DataW H)} (hp : (ts.all fun t => plainT te d t) = true) (hus : us = []) (hk : Rows.uptoSmall H l = true) : (DataW.weightsEach P (ts ++ us) l).all (· ≤ upB) = true := by
  have h : Rows.uptoBulkAll l ≤ 1048576 := of_decide_eq_true hk
  subst hus
  rw [List.append_nil]
  refine List.all_eq_true.2 fun m hm => decide_eq_true ?_
  have hK : ∀ t j, te.get t = some j → P.bytesOf t ≤ 1024 := fun t j hg => by
    rw [((hte.tells hg).cells).2]
    have key : ∀ r : TE, (r.all fun p => Nat.ble p.2.bytes 1024) = true → TE.get r t = some j → j.bytes ≤ 1024 := by
      intro r
      induction r with
      | nil => intro _ h; cases h
      | cons p r ih =>
        intro h1 h2
        simp only [List.all_cons, Bool.and_eq_true] at h1
        simp only [TE.get] at h2
        cases hb : Nat.beq t p.1 with
        | true => rw [hb] at h2; cases h2; exact Nat.le_of_ble_eq_true h1.1
        | false => rw [hb] at h2; exact ih h1.2 h2
    exact key te hb hg
  have h2 := w_each hte hK (by decide) l d ts (fun t ht => List.all_eq_true.1 hp t ht) m hm
  show m ≤ 1073741824
  omega
end
end Go.Proofs.Ytahkngplohnliaa.Fw.Up


