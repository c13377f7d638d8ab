/- The texts V04k, Q17, V04m, V04n, V04o, V04q, V05a, V05b, V05c, V05d, V05e, V05f, L04k, V04r, V04s, V04t, one behind the other: what the walks and plain laws need; conditions stand with each theorem. -/
import Derived.Defers
import Derived.Recover
import Derived.Tactics
import Derived.Tactics2
import Derived.Test.YtkfccjbihcbmiaaCat4
set_option linter.unusedVariables false
set_option linter.unusedSimpArgs false
namespace Go.Proofs.Ytkfccjbihcbmiaa.Fw
open Go.RowKit
def cN (b : List UInt8) (j : Nat) : Nat := (dC b j).toNat
theorem cN_eq (b : List UInt8) (j : Nat) : dC b j = (cN b j : Int) ∧ cN b j ≤ 65535 := by
  have h : 0 ≤ dC b j ∧ dC b j ≤ 65535 := by
    unfold dC
    split
    · have := num_lt b j; omega
    · omega
  unfold cN; omega
theorem dE_zero' {b : List UInt8} (h : dE b = 0) : ¬ b.length < 12 := fun k => by rw [dE_short k] at h; cases h
def rdQs (b : List UInt8) : Nat → List Qu → Nat → Except Int (List Qu × Nat)
  | 0, acc, p => .ok (acc, p)
  | k + 1, acc, p => match rdN b 20 p p b.length none [] with
    | .error e => .error e
    | .ok a => if b.length < a.2 + 4 then .error 20 else rdQs b k (acc ++ [⟨a.1, bN b a.2 2, bN b (a.2 + 2) 2⟩]) (a.2 + 4)
def rdRs (b : List UInt8) : Nat → List Rr → Nat → Except Int (List Rr × Nat)
  | 0, acc, p => .ok (acc, p)
  | k + 1, acc, p => match rdR b p with
    | .error e => .error e
    | .ok a => rdRs b k (acc ++ [a.1]) a.2
def bindE {α β : Type} : Except Int α → (α → Except Int β) → Except Int β
  | .error e, _ => .error e
  | .ok a, f => f a
def hdM (b : List UInt8) : Hdr := ⟨(dH b).id, (dH b).resp, (dH b).op, (dH b).aa, (dH b).tc, (dH b).rd, (dH b).ra, (dH b).code⟩
def rdM (b : List UInt8) : Except Int Msg :=
  if 65535 < b.length then .error 42 else if dE b ≠ 0 then .error (dE b) else
  bindE (rdQs b (cN b 2) [] 12) fun q => bindE (rdRs b (cN b 3) [] q.2) fun x => bindE (rdRs b (cN b 4) [] x.2) fun y => bindE (rdRs b (cN b 5) [] y.2) fun z =>
    if z.2 = b.length then .ok ⟨hdM b, q.1, x.1, y.1, z.1⟩ else .error 41
theorem rdR_ok {b : List UInt8} {p : Nat} {a : Rr × Nat} (h : rdR b p = .ok a) : p < a.2 ∧ a.2 ≤ b.length := by
  unfold rdR at h
  cases h1 : rdN b 20 p p b.length none [] with
  | error e => rw [h1] at h; cases h
  | ok c =>
    obtain ⟨_, h2, h3⟩ := rdN_ok0 h1
    rw [h1, rdR1] at h
    split at h
    · cases h
    · cases h4 : rdD b (bN b c.2 2) (c.2 + 10) (c.2 + 10 + bN b (c.2 + 8) 2) with
      | error e => rw [h4] at h; cases h
      | ok d => rw [h4, rdR2] at h; cases h; simp only; omega
theorem rdQs_err {b : List UInt8} {k : Nat} {acc : List Qu} {p : Nat} {e : Int} (h : rdN b 20 p p b.length none [] = .error e) : rdQs b (k + 1) acc p = .error e := by simp only [rdQs, h]
theorem rdQs_bad {b : List UInt8} {k : Nat} {acc : List Qu} {p : Nat} {a : List UInt8 × Nat} (h : rdN b 20 p p b.length none [] = .ok a) (h1 : b.length < a.2 + 4) : rdQs b (k + 1) acc p = .error 20 := by simp only [rdQs, h, if_pos h1]
theorem rdQs_ok {b : List UInt8} {k : Nat} {acc : List Qu} {p : Nat} {a : List UInt8 × Nat} (h : rdN b 20 p p b.length none [] = .ok a) (h1 : ¬ b.length < a.2 + 4) : rdQs b (k + 1) acc p = rdQs b k (acc ++ [⟨a.1, bN b a.2 2, bN b (a.2 + 2) 2⟩]) (a.2 + 4) := by simp only [rdQs, h, if_neg h1]
theorem rdRs_err {b : List UInt8} {k : Nat} {acc : List Rr} {p : Nat} {e : Int} (h : rdR b p = .error e) : rdRs b (k + 1) acc p = .error e := by simp only [rdRs, h]
theorem rdRs_ok {b : List UInt8} {k : Nat} {acc : List Rr} {p : Nat} {a : Rr × Nat} (h : rdR b p = .ok a) : rdRs b (k + 1) acc p = rdRs b k (acc ++ [a.1]) a.2 := by simp only [rdRs, h]
section rdM
variable {b : List UInt8}
theorem rdM_q (h : ¬ 65535 < b.length) (h0 : dE b = 0) : rdM b = bindE (rdQs b (cN b 2) [] 12) fun q => bindE (rdRs b (cN b 3) [] q.2) fun x => bindE (rdRs b (cN b 4) [] x.2) fun y => bindE (rdRs b (cN b 5) [] y.2) fun z => if z.2 = b.length then .ok ⟨hdM b, q.1, x.1, y.1, z.1⟩ else .error 41 := by rw [rdM, if_neg h, if_neg (by simp [h0])]
theorem bindE_err {α β : Type} {r : Except Int α} {e : Int} {f : α → Except Int β} (h : r = .error e) : bindE r f = .error e := by rw [h]; rfl
theorem bindE_ok {α β : Type} {r : Except Int α} {a : α} {f : α → Except Int β} (h : r = .ok a) : bindE r f = f a := by rw [h]; rfl
end rdM
set_option maxRecDepth 20000 in
set_option maxHeartbeats 2000000 in
theorem c_rdmsg (b : List UInt8) (hb : b.length ≤ 140737488351232) : AC Try.prog 39 [.ptr 0 0 0] (hlook [(0, .box [.fz 1 b.length (cl bc b), i64 0])]) (RetP (perr (rdM b)) (.agg (msgC (resE (rdM b)))) [(0, .box [.fz 1 b.length (cl bc b), i64 (b.length : Int)])] (fun k => [(0, .box [.fz 1 b.length (cl bc b), i64 k])])) := by
 refine AC.intro te_ok (fn := Try.f39) ⟨Try.func39, rfl, rfl⟩ (Nat.le_of_ble_eq_true rfl) ?_
 refine AWp.seq ?_
 refine AWp.region ?_
 refine AOps.cons rfl rfl (q_alloc 100) ?_
 refine AOps.nil ?_
 refine AWp.seq ?_
 refine AWp.region ?_
 refine AOps.cons rfl rfl (q_move) ?_
 refine AOps.cons rfl rfl (q_nil) ?_
 refine AOps.cons rfl rfl (q_fa) ?_
 refine AOps.cons rfl rfl (q_load) ?_
 refine AOps.cons rfl rfl (q_len) ?_
 refine AOps.cons rfl rfl (q_leq) ?_
 refine AOps.callP (hp' := fun k => []) (1) [] [] [] (c_wire_no (decide ((b.length : Int) ≤ 65535)) 42) (fun h1_6 => ?_) (fun x k h1_6 => ?_)
 ·
  refine AOps.nil ?_
  refine AWp.seq ?_
  refine AWp.region ?_
  have g1 : ¬ 65535 < b.length := by have := pNo_none h1_6; simp at this; omega
  have hb2 : b.length ≤ 65535 := by omega
  refine AOps.cons rfl rfl (q_move) ?_
  refine AOps.cons rfl rfl (q_nil) ?_
  refine AOps.cons rfl rfl (q_fa) ?_
  refine AOps.cons rfl rfl (q_load) ?_
  refine AOps.cons rfl rfl (q_call (1) (hc := (c_header_Decode b 1 (by omega)))) ?_
  refine AOps.cons rfl rfl (q_move) ?_
  refine AOps.cons rfl rfl (q_extract) ?_
  refine AOps.cons rfl rfl (q_extract) ?_
  refine AOps.cons rfl rfl (q_extract) ?_
  refine AOps.cons rfl rfl (q_alloc 309) ?_
  refine AOps.cons rfl rfl (q_alloc 310) ?_
  refine AOps.cons rfl rfl (q_store) ?_
  refine AOps.cons rfl rfl (q_store) ?_
  refine AOps.cons rfl rfl (q_assign) ?_
  refine AOps.nil ?_
  refine AWp.seq ?_
  refine AWp.region ?_
  refine AOps.cons rfl rfl (q_move) ?_
  refine AOps.cons rfl rfl (q_eql) ?_
  refine AOps.cons rfl rfl (q_move) ?_
  refine AOps.callP (hp' := fun k => []) (1) [] [] [] (c_wire_no (decide (dE b = 0)) (dE b)) (fun h3_3 => ?_) (fun x k h3_3 => ?_)
  ·
   refine AOps.nil ?_
   refine AWp.seq ?_
   refine AWp.region ?_
   have hz : dE b = 0 := by have := pNo_none h3_3; simpa using this
   have hz1 := dE_zero' hz
   obtain ⟨e2, l2⟩ := cN_eq b 2
   obtain ⟨e3, l3⟩ := cN_eq b 3
   obtain ⟨e4, l4⟩ := cN_eq b 4
   obtain ⟨e5, l5⟩ := cN_eq b 5
   refine AOps.cons rfl rfl (q_move) ?_
   refine AOps.cons rfl rfl (q_nil) ?_
   refine AOps.cons rfl rfl (q_fa) ?_
   refine AOps.cons rfl rfl (q_store) ?_
   refine AOps.nil ?_
   refine AWp.seq ?_
   refine AWp.region ?_
   refine AOps.cons rfl rfl (q_load) ?_
   refine AOps.cons rfl rfl (q_build [(_, _)]) ?_
   refine AOps.cons rfl rfl (q_alloc 602) ?_
   refine AOps.cons rfl rfl (q_store) ?_
   refine AOps.nil ?_
   refine AWp.seq ?_
   refine AWp.seq ?_
   refine AWp.region ?_
   refine AOps.weak (Weak.nilcell 602 9008 8 3 quc) ?_
   refine AOps.weak (Weak.nilcell 602 9009 9 5 rrc) ?_
   refine AOps.weak (Weak.nilcell 602 9010 10 5 rrc) ?_
   refine AOps.weak (Weak.nilcell 602 9011 11 5 rrc) ?_
   refine AOps.cons rfl rfl (q_ixa) ?_
   refine AOps.cons rfl rfl (q_load) ?_
   refine AOps.cons rfl rfl (q_move) ?_
   refine AOps.nil ?_
   refine AWp.block ?_
   refine AWp.loopR (α := Nat × List Qu × Nat × Nat) [7, 37, 38, 39, 40, 41, 42, 43, 44, 45, 46, 47, 48, 49, 50, 51, 52, 53, 54, 55, 56, 57, 58, 59] (fun x_ => [(37, i64 (x_.1))]) (fun x_ => [(0, .box [.fz 1 b.length (cl bc b), i64 (x_.2.2.1)]), (602, .box [i64 (dH b).id, tf (dH b).resp, i64 (dH b).op, tf (dH b).aa, tf (dH b).tc, tf (dH b).rd, tf (dH b).ra, i64 (dH b).code, .sl 9008 ((x_.2.2.2)) 0 ((x_.2.1)).length 3, .sl 9009 (0) 0 (([] : List Rr)).length 5, .sl 9010 (0) 0 (([] : List Rr)).length 5, .sl 9011 (0) 0 (([] : List Rr)).length 5]), (9008, .row (cl quc (x_.2.1)) 3 (x_.2.2.2))]) (fun x_ => (x_.1) ≤ cN b 2 ∧ rdQs b (cN b 2 - (x_.1)) (x_.2.1) (x_.2.2.1) = rdQs b (cN b 2) [] 12 ∧ (x_.2.1).length = (x_.1) ∧ (x_.2.2.1) ≤ b.length) (fun x_ => cN b 2 - (x_.1)) (0, [], 12, 0) ?_ (Back.mk' (HasT.cons HasT.nil) (HasH.cons (HasH.cons (HasH.cons HasH.nil)))) ?_
   ·
    exact ⟨Nat.zero_le _, rfl, rfl, by show 12 ≤ _; omega⟩
   ·
    rintro ⟨i, qs, p, v⟩ hI7
    change i ≤ cN b 2 ∧ rdQs b (cN b 2 - i) qs p = rdQs b (cN b 2) [] 12 ∧ qs.length = i ∧ p ≤ b.length at hI7
    obtain ⟨hi, hE, hql, hp⟩ := hI7
    refine AWp.as (s' := AS.over _ [7, 37, 38, 39, 40, 41, 42, 43, 44, 45, 46, 47, 48, 49, 50, 51, 52, 53, 54, 55, 56, 57, 58, 59] [(37, i64 i)] [(0, .box [.fz 1 b.length (cl bc b), i64 p]), (602, .box [i64 (dH b).id, tf (dH b).resp, i64 (dH b).op, tf (dH b).aa, tf (dH b).tc, tf (dH b).rd, tf (dH b).ra, i64 (dH b).code, .sl 9008 (v) 0 (qs).length 3, .sl 9009 (0) 0 (([] : List Rr)).length 5, .sl 9010 (0) 0 (([] : List Rr)).length 5, .sl 9011 (0) 0 (([] : List Rr)).length 5]), (9008, .row (cl quc qs) 3 v)]) rfl ?_
    refine AWp.seq ?_
    refine AWp.region ?_
    refine AOps.dec rfl rfl (q_lss) (fun h7_0 => ?_) (fun h7_0 => ?_)
    ·
     refine AOps.nil ?_
     refine AWp.seq ?_
     refine AWp.cond_t rfl ?_
     refine AWp.skip ?_
     refine AWp.seq ?_
     refine AWp.block ?_
     refine AWp.seq ?_
     refine AWp.region ?_
     refine AOps.cons rfl rfl (q_move) ?_
     refine AOps.cons rfl rfl (q_move) ?_
     refine AOps.cons rfl rfl (q_nil) ?_
     refine AOps.cons rfl rfl (q_fa) ?_
     refine AOps.cons rfl rfl (q_load) ?_
     refine AOps.cons rfl rfl (q_len) ?_
     refine AOps.callP (hp' := fun k => [(0, .box [_, i64 k])]) (1) [(0, 0)] [] [(_, _)] (c_rdname b 20 p b.length hb2 (Nat.le_refl _) (by omega)) (fun h8_6 => ?_) (fun x k h8_6 => ?_)
     ·
      obtain ⟨a, ha⟩ := perr_none h8_6
      obtain ⟨n1, n2, n3⟩ := rdN_ok0 ha
      rw [ha]
      dsimp only [resE]
      refine AOps.cons rfl rfl (q_build [(_, _)]) ?_
      refine AOps.cons rfl rfl (q_alloc 908) ?_
      refine AOps.cons rfl rfl (q_store) ?_
      refine AOps.nil ?_
      refine AWp.seq ?_
      refine AWp.region ?_
      refine AOps.cons rfl rfl (q_move) ?_
      refine AOps.callP (hp' := fun k => [(0, .box [_, i64 k])]) (1) [(0, 0)] [] [(_, _)] (c_rdnum b a.2 2 hb2 (by omega) (by omega)) (fun h9_1 => ?_) (fun x k h9_1 => ?_)
      ·
       refine AOps.cons rfl rfl (q_move) ?_
       refine AOps.callP (hp' := fun k => [(0, .box [_, i64 k])]) (1) [(0, 0)] [] [(_, _)] (c_rdnum b (a.2 + 2) 2 hb2 (by omega) (by omega)) (fun h9_3 => ?_) (fun x k h9_3 => ?_)
       ·
        refine AOps.cons rfl rfl (q_fa) ?_
        refine AOps.cons rfl rfl (q_store) ?_
        refine AOps.cons rfl rfl (q_fa) ?_
        refine AOps.cons rfl rfl (q_store) ?_
        refine AOps.nil ?_
        refine AWp.region ?_
        have g2 : ¬ b.length < a.2 + 4 := by have := pNo_none h9_3; simp at this; omega
        refine AOps.cons rfl rfl (q_fa) ?_
        refine AOps.cons rfl rfl (q_load) ?_
        refine AOps.cons rfl rfl (q_load) ?_
        refine AOps.cons rfl rfl (q_bs 1103 quc [⟨a.1, bN b a.2 2, bN b (a.2 + 2) 2⟩] [(_, _)]) ?_
        refine AOps.cons rfl rfl (q_app) ?_
        refine AOps.cons rfl rfl (q_fa) ?_
        refine AOps.cons rfl rfl (q_store) ?_
        refine AOps.nil ?_
        refine AWp.region ?_
        refine AOps.cons rfl rfl (q_add) ?_
        refine AOps.cons rfl rfl (q_move) ?_
        refine AOps.nil ?_
        refine ⟨(i + 1, qs ++ [⟨a.1, bN b a.2 2, bN b (a.2 + 2) 2⟩], a.2 + 4, v + 1), ?_, Back.mk' (HasT.cons HasT.nil) (HasH.cons (HasH.cons (HasH.cons HasH.nil))), ?_⟩
        ·
         try dsimp only
         refine ⟨by omega, ?_, by rw [List.length_append, hql]; rfl, by omega⟩
         rw [← hE, show cN b 2 - i = (cN b 2 - (i + 1)) + 1 by omega, rdQs_ok ha g2]
        ·
         try dsimp only
         first | omega | (simp; omega)
       ·
        show Post te Try.f39 _ (.panic _) _
        refine Post.panicH (1) (k) ?_ (by repeat' (first | exact trivial | exact lv_ok rfl | exact lv_sl rfl rfl | exact lv_ptr rfl rfl | exact lv_mp rfl rfl | exact lobj_row (fun _ => rfl) | refine lobj_box ?_ | refine ⟨rfl, ⟨_, rfl, ?_⟩, ?_⟩ | refine ⟨?_, ?_⟩)) rfl
        obtain ⟨c1, rfl⟩ := pNo_some h9_3
        rw [rdM_q g1 hz, bindE_err (e := 20) (by rw [← hE, show cN b 2 - i = (cN b 2 - (i + 1)) + 1 by omega, rdQs_bad ha (by simp at c1; omega)])]; rfl
      ·
       show Post te Try.f39 _ (.panic _) _
       refine Post.panicH (1) (k) ?_ (by repeat' (first | exact trivial | exact lv_ok rfl | exact lv_sl rfl rfl | exact lv_ptr rfl rfl | exact lv_mp rfl rfl | exact lobj_row (fun _ => rfl) | refine lobj_box ?_ | refine ⟨rfl, ⟨_, rfl, ?_⟩, ?_⟩ | refine ⟨?_, ?_⟩)) rfl
       obtain ⟨c1, rfl⟩ := pNo_some h9_1
       rw [rdM_q g1 hz, bindE_err (e := 20) (by rw [← hE, show cN b 2 - i = (cN b 2 - (i + 1)) + 1 by omega, rdQs_bad ha (by simp at c1; omega)])]; rfl
     ·
      show Post te Try.f39 _ (.panic _) _
      refine Post.panicH (1) (k) ?_ (by repeat' (first | exact trivial | exact lv_ok rfl | exact lv_sl rfl rfl | exact lv_ptr rfl rfl | exact lv_mp rfl rfl | exact lobj_row (fun _ => rfl) | refine lobj_box ?_ | refine ⟨rfl, ⟨_, rfl, ?_⟩, ?_⟩ | refine ⟨?_, ?_⟩)) rfl
      obtain ⟨e, he1, rfl⟩ := perr_some h8_6
      rw [rdM_q g1 hz, bindE_err (e := e) (by rw [← hE, show cN b 2 - i = (cN b 2 - (i + 1)) + 1 by omega, rdQs_err he1])]; rfl
    ·
     refine AOps.nil ?_
     refine AWp.seq ?_
     refine AWp.cond_f rfl ?_
     refine AWp.exit ?_
     refine AWp.seq ?_
     refine AWp.seq ?_
     refine AWp.region ?_
     obtain rfl : i = cN b 2 := by omega
     rw [Nat.sub_self, rdQs] at hE
     have hQ := hE.symm
     obtain ⟨p1, hp1⟩ : ∃ x, x = p := ⟨_, rfl⟩
     rw [← hp1] at hQ
     refine AOps.cons rfl rfl (q_fa) ?_
     refine AOps.cons rfl rfl (q_fa) ?_
     refine AOps.cons rfl rfl (q_fa) ?_
     refine AOps.cons rfl rfl (q_bs 1303 (fun k => [AV.ptr 602 0 k]) [9, 10, 11] [(_, _), (_, _), (_, _)]) ?_
     refine AOps.cons rfl rfl (q_len) ?_
     refine AOps.cons rfl rfl (q_move) ?_
     refine AOps.nil ?_
     refine AWp.block ?_
     refine AWp.loopR (α := Nat × List Rr × List Rr × List Rr × Nat × Nat × Nat × Nat) [8, 9, 65, 66, 67, 68, 69, 70, 71, 72, 73, 74, 75, 76, 77, 78, 79, 80, 81, 82, 83, 84, 85, 86] (fun x_ => [(65, i64 (x_.1))]) (fun x_ => [(0, .box [.fz 1 b.length (cl bc b), i64 (x_.2.2.2.2.1)]), (602, .box [i64 (dH b).id, tf (dH b).resp, i64 (dH b).op, tf (dH b).aa, tf (dH b).tc, tf (dH b).rd, tf (dH b).ra, i64 (dH b).code, .sl 9008 (v) 0 (qs).length 3, .sl 9009 ((x_.2.2.2.2.2.1)) 0 ((x_.2.1)).length 5, .sl 9010 ((x_.2.2.2.2.2.2.1)) 0 ((x_.2.2.1)).length 5, .sl 9011 ((x_.2.2.2.2.2.2.2)) 0 ((x_.2.2.2.1)).length 5]), (9009, .row (cl rrc ((x_.2.1))) 5 ((x_.2.2.2.2.2.1))), (9010, .row (cl rrc ((x_.2.2.1))) 5 ((x_.2.2.2.2.2.2.1))), (9011, .row (cl rrc ((x_.2.2.2.1))) 5 ((x_.2.2.2.2.2.2.2)))]) (fun x_ => (x_.1) ≤ 3 ∧ (x_.2.2.2.2.1) ≤ b.length ∧ (((x_.1) = 0 ∧ (x_.2.1) = [] ∧ (x_.2.2.1) = [] ∧ (x_.2.2.2.1) = [] ∧ (x_.2.2.2.2.1) = p1) ∨ ((x_.1) = 1 ∧ rdRs b (cN b 3) [] p1 = .ok ((x_.2.1), (x_.2.2.2.2.1)) ∧ (x_.2.2.1) = [] ∧ (x_.2.2.2.1) = []) ∨ ((x_.1) = 2 ∧ (∃ p2, rdRs b (cN b 3) [] p1 = .ok ((x_.2.1), p2) ∧ rdRs b (cN b 4) [] p2 = .ok ((x_.2.2.1), (x_.2.2.2.2.1))) ∧ (x_.2.2.2.1) = []) ∨ ((x_.1) = 3 ∧ ∃ p2 p3, rdRs b (cN b 3) [] p1 = .ok ((x_.2.1), p2) ∧ rdRs b (cN b 4) [] p2 = .ok ((x_.2.2.1), p3) ∧ rdRs b (cN b 5) [] p3 = .ok ((x_.2.2.2.1), (x_.2.2.2.2.1))))) (fun x_ => 3 - (x_.1)) (0, [], [], [], p, 0, 0, 0) ?_ (Back.mk' (HasT.cons HasT.nil) (HasH.cons (HasH.cons (HasH.cons (HasH.cons (HasH.cons HasH.nil)))))) ?_
     ·
      exact ⟨Nat.zero_le _, hp, .inl ⟨rfl, rfl, rfl, rfl, hp1.symm⟩⟩
     ·
      rintro ⟨i, A, U, D, p, va, vu, vd⟩ hI13
      change i ≤ 3 ∧ p ≤ b.length ∧ ((i = 0 ∧ A = [] ∧ U = [] ∧ D = [] ∧ p = p1) ∨ (i = 1 ∧ rdRs b (cN b 3) [] p1 = .ok (A, p) ∧ U = [] ∧ D = []) ∨ (i = 2 ∧ (∃ p2, rdRs b (cN b 3) [] p1 = .ok (A, p2) ∧ rdRs b (cN b 4) [] p2 = .ok (U, p)) ∧ D = []) ∨ (i = 3 ∧ ∃ p2 p3, rdRs b (cN b 3) [] p1 = .ok (A, p2) ∧ rdRs b (cN b 4) [] p2 = .ok (U, p3) ∧ rdRs b (cN b 5) [] p3 = .ok (D, p))) at hI13
      obtain ⟨hi, hp, hI⟩ := hI13
      refine AWp.as (s' := AS.over _ [8, 9, 65, 66, 67, 68, 69, 70, 71, 72, 73, 74, 75, 76, 77, 78, 79, 80, 81, 82, 83, 84, 85, 86] [(65, i64 i)] [(0, .box [.fz 1 b.length (cl bc b), i64 p]), (602, .box [i64 (dH b).id, tf (dH b).resp, i64 (dH b).op, tf (dH b).aa, tf (dH b).tc, tf (dH b).rd, tf (dH b).ra, i64 (dH b).code, .sl 9008 (v) 0 (qs).length 3, .sl 9009 (va) 0 (A).length 5, .sl 9010 (vu) 0 (U).length 5, .sl 9011 (vd) 0 (D).length 5]), (9009, .row (cl rrc (A)) 5 (va)), (9010, .row (cl rrc (U)) 5 (vu)), (9011, .row (cl rrc (D)) 5 (vd))]) rfl ?_
      refine AWp.seq ?_
      refine AWp.region ?_
      refine AOps.dec rfl rfl (q_lss) (fun h13_0 => ?_) (fun h13_0 => ?_)
      ·
       refine AOps.nil ?_
       refine AWp.seq ?_
       refine AWp.cond_t rfl ?_
       refine AWp.skip ?_
       refine AWp.seq ?_
       refine AWp.block ?_
       refine AWp.seq ?_
       refine AWp.region ?_
       rcases hI with ⟨rfl, rfl, rfl, rfl, hp1⟩ | ⟨rfl, hA1, rfl, rfl⟩ | ⟨rfl, ⟨p2, hA1, hU1⟩, rfl⟩ | ⟨h3, _⟩
       rotate_left 3
       · exfalso; simp at h13_0; omega
       ·
        refine AOps.cons rfl rfl (q_move) ?_
        refine AOps.cons rfl rfl (q_ix) ?_
        refine AOps.cons rfl rfl (q_load (z := .ptr 602 0 9) (hy := rfl)) ?_
        refine AOps.cons rfl rfl (q_assign) ?_
        refine AOps.cons rfl rfl (q_assign) ?_
        refine AOps.nil ?_
        refine AWp.seq ?_
        refine AWp.region ?_
        refine AOps.cons rfl rfl (q_move) ?_
        refine AOps.cons rfl rfl (q_add) ?_
        refine AOps.cons rfl rfl (q_ixa) ?_
        refine AOps.cons rfl rfl (q_load) ?_
        refine AOps.cons rfl rfl (q_move) ?_
        refine AOps.nil ?_
        refine AWp.block ?_
        refine AWp.loopR (α := Nat × List Rr × Nat × Nat) [74, 75, 76, 77, 78, 79, 80, 81, 82, 83, 84, 85] (fun x_ => [(74, i64 (x_.1))]) (fun x_ => [(0, .box [.fz 1 b.length (cl bc b), i64 (x_.2.2.1)]), (602, .box [i64 (dH b).id, tf (dH b).resp, i64 (dH b).op, tf (dH b).aa, tf (dH b).tc, tf (dH b).rd, tf (dH b).ra, i64 (dH b).code, .sl 9008 (v) 0 (qs).length 3, .sl 9009 ((x_.2.2.2)) 0 ((x_.2.1)).length 5, .sl 9010 (vu) 0 (([] : List Rr)).length 5, .sl 9011 (vd) 0 (([] : List Rr)).length 5]), (9009, .row (cl rrc ((x_.2.1))) 5 ((x_.2.2.2)))]) (fun x_ => (x_.1) ≤ cN b 3 ∧ rdRs b (cN b 3 - (x_.1)) (x_.2.1) (x_.2.2.1) = rdRs b (cN b 3) [] p ∧ (x_.2.1).length = (x_.1) ∧ (x_.2.2.1) ≤ b.length) (fun x_ => cN b 3 - (x_.1)) (0, [], p, va) ?_ (Back.mk' (HasT.cons HasT.nil) (HasH.cons (HasH.cons (HasH.cons HasH.nil)))) ?_
        ·
         exact ⟨Nat.zero_le _, rfl, rfl, hp⟩
        ·
         rintro ⟨j, l, q, w⟩ hI16
         change j ≤ cN b 3 ∧ rdRs b (cN b 3 - j) l q = rdRs b (cN b 3) [] p ∧ l.length = j ∧ q ≤ b.length at hI16
         obtain ⟨hj, hE, hll, hq⟩ := hI16
         refine AWp.as (s' := AS.over _ [74, 75, 76, 77, 78, 79, 80, 81, 82, 83, 84, 85] [(74, i64 j)] [(0, .box [.fz 1 b.length (cl bc b), i64 q]), (602, .box [i64 (dH b).id, tf (dH b).resp, i64 (dH b).op, tf (dH b).aa, tf (dH b).tc, tf (dH b).rd, tf (dH b).ra, i64 (dH b).code, .sl 9008 (v) 0 (qs).length 3, .sl 9009 (w) 0 (l).length 5, .sl 9010 (vu) 0 (([] : List Rr)).length 5, .sl 9011 (vd) 0 (([] : List Rr)).length 5]), (9009, .row (cl rrc (l)) 5 (w))]) rfl ?_
         refine AWp.seq ?_
         refine AWp.region ?_
         refine AOps.dec rfl rfl (q_lss) (fun h16_0 => ?_) (fun h16_0 => ?_)
         ·
          refine AOps.nil ?_
          refine AWp.seq ?_
          refine AWp.cond_t rfl ?_
          refine AWp.skip ?_
          refine AWp.seq ?_
          refine AWp.block ?_
          rcases hpo : perr (rdR b q) with _ | xx
          ·
           refine AWp.drawsX _ [⟨0, [9], [], some 76, _, []⟩,
               ⟨1, [9], [], some 77, _, []⟩,
               ⟨2, [77], [602], some 78, _, []⟩,
               ⟨3, [78], [602], some 79, _, []⟩,
               ⟨4, [0], [], some 80, _, []⟩,
               ⟨5, [80], [0, 1, 2, 3, 4, 5, 6, 7], some 81, _, [(0, _)]⟩,
               ⟨6, [81], [1806], some 82, _, [(1806, _)]⟩,
               ⟨7, [79, 82], [1806, 9009], some 83, _, [(9009, _)]⟩,
               ⟨8, [76], [602], some 84, _, []⟩,
               ⟨9, [83, 84], [602, 9009], none, _, [(602, _)]⟩]
            [⟨0, [9], [], some 76, .any, []⟩,
                ⟨1, [9], [], some 77, .any, []⟩,
                ⟨2, [77], [602], some 78, .any, []⟩,
                ⟨3, [78], [602], some 79, .any, []⟩,
                ⟨4, [0], [], some 80, .any, []⟩,
                ⟨5, [80], [0, 1, 2, 3, 4, 5, 6, 7], some 81, .any, [(0, .box [])]⟩,
                ⟨6, [81], [1806], some 82, .any, [(1806, .box [])]⟩,
                ⟨7, [79, 82], [1806, 9009], some 83, .any, [(9009, .box [])]⟩,
                ⟨8, [76], [602], some 84, .any, []⟩,
                ⟨9, [83, 84], [602, 9009], none, .any, [(602, .box [])]⟩]
            mixed_ok rfl (by kernel_rfl) ⟨DS.okX_over fun s0 => (OpAt.go rfl rfl (q_move)).x,
                DS.okX_over fun s0 => (OpAt.go rfl rfl (q_move)).x,
                DS.okX_over fun s0 => (OpAt.go rfl rfl (q_nil)).x,
                DS.okX_over fun s0 => (OpAt.go rfl rfl (q_load)).x,
                DS.okX_over fun s0 => (OpAt.go rfl rfl (q_move)).x,
                DS.okX_over fun s0 => at_callP (hp' := fun k => [(0, .box [_, i64 k])]) (1) [(0, 0)] [] [(_, _)] (c_rdrec b q hb2 (by omega)) (fun x k h17_5 => ?_),
                DS.okX_over fun s0 => (OpAt.go rfl rfl (q_bs 1806 rrc [(resE (rdR b q)).1] [(_, _)])).x,
                DS.okX_over fun s0 => (OpAt.go rfl rfl (q_app)).x,
                DS.okX_over fun s0 => (OpAt.go rfl rfl (q_nil)).x,
                DS.okX_over fun s0 => (OpAt.go rfl rfl (q_store)).x, trivial⟩ ?_ (fun _ _ h => h)
           ·
            exact absurd (hpo.symm.trans h17_5) (by simp)
           dsimp only [final, DS.upd, AS.seto]
           refine AWp.region ?_
           obtain ⟨a, ha⟩ := perr_none hpo
           have hr := rdR_ok ha
           rw [ha]
           dsimp only [resE]
           refine AOps.cons rfl rfl (q_add) ?_
           refine AOps.cons rfl rfl (q_move) ?_
           refine AOps.nil ?_
           refine ⟨(j + 1, l ++ [a.1], a.2, w + 1), ?_, Back.mk' (HasT.cons HasT.nil) (HasH.cons (HasH.cons (HasH.cons HasH.nil))), ?_⟩
           ·
            try dsimp only
            refine ⟨by omega, ?_, by rw [List.length_append, hll]; rfl, hr.2⟩
            rw [← hE, show cN b 3 - j = (cN b 3 - (j + 1)) + 1 by omega, rdRs_ok ha]
           ·
            try dsimp only
            first | omega | (simp; omega)
          ·
           refine AWp.drawsX _ [⟨0, [9], [], some 76, _, []⟩,
               ⟨1, [9], [], some 77, _, []⟩,
               ⟨2, [77], [602], some 78, _, []⟩,
               ⟨3, [78], [602], some 79, _, []⟩,
               ⟨4, [0], [], some 80, _, []⟩,
               ⟨5, [80], [0, 1, 2, 3, 4, 5, 6, 7], some 81, _, [(0, _)]⟩,
               ⟨6, [81], [1806], some 82, .fz 0 1 [], [(1806, .box [])]⟩,
               ⟨7, [79, 82], [1806, 9009], some 83, .fz 0 1 [], [(9009, .box [])]⟩,
               ⟨8, [76], [602], some 84, _, []⟩,
               ⟨9, [83, 84], [602, 9009], none, .fz 0 1 [], [(602, .box [])]⟩]
            [⟨0, [9], [], some 76, .any, []⟩,
                ⟨1, [9], [], some 77, .any, []⟩,
                ⟨2, [77], [602], some 78, .any, []⟩,
                ⟨3, [78], [602], some 79, .any, []⟩,
                ⟨4, [0], [], some 80, .any, []⟩,
                ⟨5, [80], [0, 1, 2, 3, 4, 5, 6, 7], some 81, .any, [(0, .box [])]⟩,
                ⟨6, [81], [1806], some 82, .any, [(1806, .box [])]⟩,
                ⟨7, [79, 82], [1806, 9009], some 83, .any, [(9009, .box [])]⟩,
                ⟨8, [76], [602], some 84, .any, []⟩,
                ⟨9, [83, 84], [602, 9009], none, .any, [(602, .box [])]⟩]
            mixed_ok rfl (by kernel_rfl) ⟨DS.okX_over fun s0 => (OpAt.go rfl rfl (q_move)).x,
                DS.okX_over fun s0 => (OpAt.go rfl rfl (q_move)).x,
                DS.okX_over fun s0 => (OpAt.go rfl rfl (q_nil)).x,
                DS.okX_over fun s0 => (OpAt.go rfl rfl (q_load)).x,
                DS.okX_over fun s0 => (OpAt.go rfl rfl (q_move)).x,
                DS.okX_over fun s0 => at_callP (hp' := fun k => [(0, .box [_, i64 k])]) (1) [(0, 0)] [] [(_, _)] (AC.bad hpo (c_rdrec b q hb2 (by omega))) (fun x k h17_5 => ?_),
                DS.okX_over fun s0 => OpAtX.bot (d := 81) rfl,
                DS.okX_over fun s0 => OpAtX.bot (d := 82) rfl,
                DS.okX_over fun s0 => (OpAt.go rfl rfl (q_nil)).x,
                DS.okX_over fun s0 => OpAtX.bot (d := 83) rfl, trivial⟩ ?_ (fun _ _ h => h)
           ·
            show Post te Try.f39 _ (.panic _) _
            refine Post.panicH (1) (k) ?_ (by repeat' (first | exact trivial | exact lv_ok rfl | exact lv_sl rfl rfl | exact lv_ptr rfl rfl | exact lv_mp rfl rfl | exact lobj_row (fun _ => rfl) | refine lobj_box ?_ | refine ⟨rfl, ⟨_, rfl, ?_⟩, ?_⟩ | refine ⟨?_, ?_⟩)) rfl
            obtain ⟨e, he1, rfl⟩ := perr_some h17_5
            have hX : rdRs b (cN b 3) [] p = .error e := by rw [← hE, show cN b 3 - j = (cN b 3 - (j + 1)) + 1 by omega, rdRs_err he1]
            rw [hp1] at hX
            rw [rdM_q g1 hz, bindE_ok hQ]; dsimp only
            rw [bindE_err hX]; rfl
           dsimp only [final, DS.upd, AS.seto]
           exact AWp.bot (d := 81) rfl
         ·
          refine AOps.nil ?_
          refine AWp.seq ?_
          refine AWp.cond_f rfl ?_
          refine AWp.exit ?_
          refine AWp.region ?_
          obtain rfl : j = cN b 3 := by omega
          rw [Nat.sub_self, rdRs] at hE
          have hA := hE.symm
          refine AOps.cons rfl rfl (q_add) ?_
          refine AOps.cons rfl rfl (q_move) ?_
          refine AOps.nil ?_
          refine ⟨(1, l, ([] : List Rr), ([] : List Rr), q, w, vu, vd), ?_, Back.mk' (HasT.cons HasT.nil) (HasH.cons (HasH.cons (HasH.cons (HasH.cons (HasH.cons HasH.nil))))), ?_⟩
          ·
           try dsimp only
           exact ⟨by omega, hq, .inr (.inl ⟨rfl, hp1 ▸ hA, rfl, rfl⟩)⟩
          ·
           try dsimp only
           first | omega | (simp; omega)
       ·
        refine AOps.cons rfl rfl (q_move) ?_
        refine AOps.cons rfl rfl (q_ix) ?_
        refine AOps.cons rfl rfl (q_load (z := .ptr 602 0 10) (hy := rfl)) ?_
        refine AOps.cons rfl rfl (q_assign) ?_
        refine AOps.cons rfl rfl (q_assign) ?_
        refine AOps.nil ?_
        refine AWp.seq ?_
        refine AWp.region ?_
        refine AOps.cons rfl rfl (q_move) ?_
        refine AOps.cons rfl rfl (q_add) ?_
        refine AOps.cons rfl rfl (q_ixa) ?_
        refine AOps.cons rfl rfl (q_load) ?_
        refine AOps.cons rfl rfl (q_move) ?_
        refine AOps.nil ?_
        refine AWp.block ?_
        refine AWp.loopR (α := Nat × List Rr × Nat × Nat) [74, 75, 76, 77, 78, 79, 80, 81, 82, 83, 84, 85] (fun x_ => [(74, i64 (x_.1))]) (fun x_ => [(0, .box [.fz 1 b.length (cl bc b), i64 (x_.2.2.1)]), (602, .box [i64 (dH b).id, tf (dH b).resp, i64 (dH b).op, tf (dH b).aa, tf (dH b).tc, tf (dH b).rd, tf (dH b).ra, i64 (dH b).code, .sl 9008 (v) 0 (qs).length 3, .sl 9009 (va) 0 (A).length 5, .sl 9010 ((x_.2.2.2)) 0 ((x_.2.1)).length 5, .sl 9011 (vd) 0 (([] : List Rr)).length 5]), (9010, .row (cl rrc ((x_.2.1))) 5 ((x_.2.2.2)))]) (fun x_ => (x_.1) ≤ cN b 4 ∧ rdRs b (cN b 4 - (x_.1)) (x_.2.1) (x_.2.2.1) = rdRs b (cN b 4) [] p ∧ (x_.2.1).length = (x_.1) ∧ (x_.2.2.1) ≤ b.length) (fun x_ => cN b 4 - (x_.1)) (0, [], p, vu) ?_ (Back.mk' (HasT.cons HasT.nil) (HasH.cons (HasH.cons (HasH.cons HasH.nil)))) ?_
        ·
         exact ⟨Nat.zero_le _, rfl, rfl, hp⟩
        ·
         rintro ⟨j, l, q, w⟩ hI16
         change j ≤ cN b 4 ∧ rdRs b (cN b 4 - j) l q = rdRs b (cN b 4) [] p ∧ l.length = j ∧ q ≤ b.length at hI16
         obtain ⟨hj, hE, hll, hq⟩ := hI16
         refine AWp.as (s' := AS.over _ [74, 75, 76, 77, 78, 79, 80, 81, 82, 83, 84, 85] [(74, i64 j)] [(0, .box [.fz 1 b.length (cl bc b), i64 q]), (602, .box [i64 (dH b).id, tf (dH b).resp, i64 (dH b).op, tf (dH b).aa, tf (dH b).tc, tf (dH b).rd, tf (dH b).ra, i64 (dH b).code, .sl 9008 (v) 0 (qs).length 3, .sl 9009 (va) 0 (A).length 5, .sl 9010 (w) 0 (l).length 5, .sl 9011 (vd) 0 (([] : List Rr)).length 5]), (9010, .row (cl rrc (l)) 5 (w))]) rfl ?_
         refine AWp.seq ?_
         refine AWp.region ?_
         refine AOps.dec rfl rfl (q_lss) (fun h16_0 => ?_) (fun h16_0 => ?_)
         ·
          refine AOps.nil ?_
          refine AWp.seq ?_
          refine AWp.cond_t rfl ?_
          refine AWp.skip ?_
          refine AWp.seq ?_
          refine AWp.block ?_
          rcases hpo : perr (rdR b q) with _ | xx
          ·
           refine AWp.drawsX _ [⟨0, [9], [], some 76, _, []⟩,
               ⟨1, [9], [], some 77, _, []⟩,
               ⟨2, [77], [602], some 78, _, []⟩,
               ⟨3, [78], [602], some 79, _, []⟩,
               ⟨4, [0], [], some 80, _, []⟩,
               ⟨5, [80], [0, 1, 2, 3, 4, 5, 6, 7], some 81, _, [(0, _)]⟩,
               ⟨6, [81], [1806], some 82, _, [(1806, _)]⟩,
               ⟨7, [79, 82], [1806, 9010], some 83, _, [(9010, _)]⟩,
               ⟨8, [76], [602], some 84, _, []⟩,
               ⟨9, [83, 84], [602, 9010], none, _, [(602, _)]⟩]
            [⟨0, [9], [], some 76, .any, []⟩,
                ⟨1, [9], [], some 77, .any, []⟩,
                ⟨2, [77], [602], some 78, .any, []⟩,
                ⟨3, [78], [602], some 79, .any, []⟩,
                ⟨4, [0], [], some 80, .any, []⟩,
                ⟨5, [80], [0, 1, 2, 3, 4, 5, 6, 7], some 81, .any, [(0, .box [])]⟩,
                ⟨6, [81], [1806], some 82, .any, [(1806, .box [])]⟩,
                ⟨7, [79, 82], [1806, 9010], some 83, .any, [(9010, .box [])]⟩,
                ⟨8, [76], [602], some 84, .any, []⟩,
                ⟨9, [83, 84], [602, 9010], none, .any, [(602, .box [])]⟩]
            mixed_ok rfl (by kernel_rfl) ⟨DS.okX_over fun s0 => (OpAt.go rfl rfl (q_move)).x,
                DS.okX_over fun s0 => (OpAt.go rfl rfl (q_move)).x,
                DS.okX_over fun s0 => (OpAt.go rfl rfl (q_nil)).x,
                DS.okX_over fun s0 => (OpAt.go rfl rfl (q_load)).x,
                DS.okX_over fun s0 => (OpAt.go rfl rfl (q_move)).x,
                DS.okX_over fun s0 => at_callP (hp' := fun k => [(0, .box [_, i64 k])]) (1) [(0, 0)] [] [(_, _)] (c_rdrec b q hb2 (by omega)) (fun x k h17_5 => ?_),
                DS.okX_over fun s0 => (OpAt.go rfl rfl (q_bs 1806 rrc [(resE (rdR b q)).1] [(_, _)])).x,
                DS.okX_over fun s0 => (OpAt.go rfl rfl (q_app)).x,
                DS.okX_over fun s0 => (OpAt.go rfl rfl (q_nil)).x,
                DS.okX_over fun s0 => (OpAt.go rfl rfl (q_store)).x, trivial⟩ ?_ (fun _ _ h => h)
           ·
            exact absurd (hpo.symm.trans h17_5) (by simp)
           dsimp only [final, DS.upd, AS.seto]
           refine AWp.region ?_
           obtain ⟨a, ha⟩ := perr_none hpo
           have hr := rdR_ok ha
           rw [ha]
           dsimp only [resE]
           refine AOps.cons rfl rfl (q_add) ?_
           refine AOps.cons rfl rfl (q_move) ?_
           refine AOps.nil ?_
           refine ⟨(j + 1, l ++ [a.1], a.2, w + 1), ?_, Back.mk' (HasT.cons HasT.nil) (HasH.cons (HasH.cons (HasH.cons HasH.nil))), ?_⟩
           ·
            try dsimp only
            refine ⟨by omega, ?_, by rw [List.length_append, hll]; rfl, hr.2⟩
            rw [← hE, show cN b 4 - j = (cN b 4 - (j + 1)) + 1 by omega, rdRs_ok ha]
           ·
            try dsimp only
            first | omega | (simp; omega)
          ·
           refine AWp.drawsX _ [⟨0, [9], [], some 76, _, []⟩,
               ⟨1, [9], [], some 77, _, []⟩,
               ⟨2, [77], [602], some 78, _, []⟩,
               ⟨3, [78], [602], some 79, _, []⟩,
               ⟨4, [0], [], some 80, _, []⟩,
               ⟨5, [80], [0, 1, 2, 3, 4, 5, 6, 7], some 81, _, [(0, _)]⟩,
               ⟨6, [81], [1806], some 82, .fz 0 1 [], [(1806, .box [])]⟩,
               ⟨7, [79, 82], [1806, 9010], some 83, .fz 0 1 [], [(9010, .box [])]⟩,
               ⟨8, [76], [602], some 84, _, []⟩,
               ⟨9, [83, 84], [602, 9010], none, .fz 0 1 [], [(602, .box [])]⟩]
            [⟨0, [9], [], some 76, .any, []⟩,
                ⟨1, [9], [], some 77, .any, []⟩,
                ⟨2, [77], [602], some 78, .any, []⟩,
                ⟨3, [78], [602], some 79, .any, []⟩,
                ⟨4, [0], [], some 80, .any, []⟩,
                ⟨5, [80], [0, 1, 2, 3, 4, 5, 6, 7], some 81, .any, [(0, .box [])]⟩,
                ⟨6, [81], [1806], some 82, .any, [(1806, .box [])]⟩,
                ⟨7, [79, 82], [1806, 9010], some 83, .any, [(9010, .box [])]⟩,
                ⟨8, [76], [602], some 84, .any, []⟩,
                ⟨9, [83, 84], [602, 9010], none, .any, [(602, .box [])]⟩]
            mixed_ok rfl (by kernel_rfl) ⟨DS.okX_over fun s0 => (OpAt.go rfl rfl (q_move)).x,
                DS.okX_over fun s0 => (OpAt.go rfl rfl (q_move)).x,
                DS.okX_over fun s0 => (OpAt.go rfl rfl (q_nil)).x,
                DS.okX_over fun s0 => (OpAt.go rfl rfl (q_load)).x,
                DS.okX_over fun s0 => (OpAt.go rfl rfl (q_move)).x,
                DS.okX_over fun s0 => at_callP (hp' := fun k => [(0, .box [_, i64 k])]) (1) [(0, 0)] [] [(_, _)] (AC.bad hpo (c_rdrec b q hb2 (by omega))) (fun x k h17_5 => ?_),
                DS.okX_over fun s0 => OpAtX.bot (d := 81) rfl,
                DS.okX_over fun s0 => OpAtX.bot (d := 82) rfl,
                DS.okX_over fun s0 => (OpAt.go rfl rfl (q_nil)).x,
                DS.okX_over fun s0 => OpAtX.bot (d := 83) rfl, trivial⟩ ?_ (fun _ _ h => h)
           ·
            show Post te Try.f39 _ (.panic _) _
            refine Post.panicH (1) (k) ?_ (by repeat' (first | exact trivial | exact lv_ok rfl | exact lv_sl rfl rfl | exact lv_ptr rfl rfl | exact lv_mp rfl rfl | exact lobj_row (fun _ => rfl) | refine lobj_box ?_ | refine ⟨rfl, ⟨_, rfl, ?_⟩, ?_⟩ | refine ⟨?_, ?_⟩)) rfl
            obtain ⟨e, he1, rfl⟩ := perr_some h17_5
            have hX : rdRs b (cN b 4) [] p = .error e := by rw [← hE, show cN b 4 - j = (cN b 4 - (j + 1)) + 1 by omega, rdRs_err he1]
            rw [rdM_q g1 hz, bindE_ok hQ]; dsimp only
            rw [bindE_ok hA1]; dsimp only
            rw [bindE_err hX]; rfl
           dsimp only [final, DS.upd, AS.seto]
           exact AWp.bot (d := 81) rfl
         ·
          refine AOps.nil ?_
          refine AWp.seq ?_
          refine AWp.cond_f rfl ?_
          refine AWp.exit ?_
          refine AWp.region ?_
          obtain rfl : j = cN b 4 := by omega
          rw [Nat.sub_self, rdRs] at hE
          have hA := hE.symm
          refine AOps.cons rfl rfl (q_add) ?_
          refine AOps.cons rfl rfl (q_move) ?_
          refine AOps.nil ?_
          refine ⟨(2, A, l, ([] : List Rr), q, va, w, vd), ?_, Back.mk' (HasT.cons HasT.nil) (HasH.cons (HasH.cons (HasH.cons (HasH.cons (HasH.cons HasH.nil))))), ?_⟩
          ·
           try dsimp only
           exact ⟨by omega, hq, .inr (.inr (.inl ⟨rfl, ⟨_, hA1, hA⟩, rfl⟩))⟩
          ·
           try dsimp only
           first | omega | (simp; omega)
       ·
        refine AOps.cons rfl rfl (q_move) ?_
        refine AOps.cons rfl rfl (q_ix) ?_
        refine AOps.cons rfl rfl (q_load (z := .ptr 602 0 11) (hy := rfl)) ?_
        refine AOps.cons rfl rfl (q_assign) ?_
        refine AOps.cons rfl rfl (q_assign) ?_
        refine AOps.nil ?_
        refine AWp.seq ?_
        refine AWp.region ?_
        refine AOps.cons rfl rfl (q_move) ?_
        refine AOps.cons rfl rfl (q_add) ?_
        refine AOps.cons rfl rfl (q_ixa) ?_
        refine AOps.cons rfl rfl (q_load) ?_
        refine AOps.cons rfl rfl (q_move) ?_
        refine AOps.nil ?_
        refine AWp.block ?_
        refine AWp.loopR (α := Nat × List Rr × Nat × Nat) [74, 75, 76, 77, 78, 79, 80, 81, 82, 83, 84, 85] (fun x_ => [(74, i64 (x_.1))]) (fun x_ => [(0, .box [.fz 1 b.length (cl bc b), i64 (x_.2.2.1)]), (602, .box [i64 (dH b).id, tf (dH b).resp, i64 (dH b).op, tf (dH b).aa, tf (dH b).tc, tf (dH b).rd, tf (dH b).ra, i64 (dH b).code, .sl 9008 (v) 0 (qs).length 3, .sl 9009 (va) 0 (A).length 5, .sl 9010 (vu) 0 (U).length 5, .sl 9011 ((x_.2.2.2)) 0 ((x_.2.1)).length 5]), (9011, .row (cl rrc ((x_.2.1))) 5 ((x_.2.2.2)))]) (fun x_ => (x_.1) ≤ cN b 5 ∧ rdRs b (cN b 5 - (x_.1)) (x_.2.1) (x_.2.2.1) = rdRs b (cN b 5) [] p ∧ (x_.2.1).length = (x_.1) ∧ (x_.2.2.1) ≤ b.length) (fun x_ => cN b 5 - (x_.1)) (0, [], p, vd) ?_ (Back.mk' (HasT.cons HasT.nil) (HasH.cons (HasH.cons (HasH.cons HasH.nil)))) ?_
        ·
         exact ⟨Nat.zero_le _, rfl, rfl, hp⟩
        ·
         rintro ⟨j, l, q, w⟩ hI16
         change j ≤ cN b 5 ∧ rdRs b (cN b 5 - j) l q = rdRs b (cN b 5) [] p ∧ l.length = j ∧ q ≤ b.length at hI16
         obtain ⟨hj, hE, hll, hq⟩ := hI16
         refine AWp.as (s' := AS.over _ [74, 75, 76, 77, 78, 79, 80, 81, 82, 83, 84, 85] [(74, i64 j)] [(0, .box [.fz 1 b.length (cl bc b), i64 q]), (602, .box [i64 (dH b).id, tf (dH b).resp, i64 (dH b).op, tf (dH b).aa, tf (dH b).tc, tf (dH b).rd, tf (dH b).ra, i64 (dH b).code, .sl 9008 (v) 0 (qs).length 3, .sl 9009 (va) 0 (A).length 5, .sl 9010 (vu) 0 (U).length 5, .sl 9011 (w) 0 (l).length 5]), (9011, .row (cl rrc (l)) 5 (w))]) rfl ?_
         refine AWp.seq ?_
         refine AWp.region ?_
         refine AOps.dec rfl rfl (q_lss) (fun h16_0 => ?_) (fun h16_0 => ?_)
         ·
          refine AOps.nil ?_
          refine AWp.seq ?_
          refine AWp.cond_t rfl ?_
          refine AWp.skip ?_
          refine AWp.seq ?_
          refine AWp.block ?_
          rcases hpo : perr (rdR b q) with _ | xx
          ·
           refine AWp.drawsX _ [⟨0, [9], [], some 76, _, []⟩,
               ⟨1, [9], [], some 77, _, []⟩,
               ⟨2, [77], [602], some 78, _, []⟩,
               ⟨3, [78], [602], some 79, _, []⟩,
               ⟨4, [0], [], some 80, _, []⟩,
               ⟨5, [80], [0, 1, 2, 3, 4, 5, 6, 7], some 81, _, [(0, _)]⟩,
               ⟨6, [81], [1806], some 82, _, [(1806, _)]⟩,
               ⟨7, [79, 82], [1806, 9011], some 83, _, [(9011, _)]⟩,
               ⟨8, [76], [602], some 84, _, []⟩,
               ⟨9, [83, 84], [602, 9011], none, _, [(602, _)]⟩]
            [⟨0, [9], [], some 76, .any, []⟩,
                ⟨1, [9], [], some 77, .any, []⟩,
                ⟨2, [77], [602], some 78, .any, []⟩,
                ⟨3, [78], [602], some 79, .any, []⟩,
                ⟨4, [0], [], some 80, .any, []⟩,
                ⟨5, [80], [0, 1, 2, 3, 4, 5, 6, 7], some 81, .any, [(0, .box [])]⟩,
                ⟨6, [81], [1806], some 82, .any, [(1806, .box [])]⟩,
                ⟨7, [79, 82], [1806, 9011], some 83, .any, [(9011, .box [])]⟩,
                ⟨8, [76], [602], some 84, .any, []⟩,
                ⟨9, [83, 84], [602, 9011], none, .any, [(602, .box [])]⟩]
            mixed_ok rfl (by kernel_rfl) ⟨DS.okX_over fun s0 => (OpAt.go rfl rfl (q_move)).x,
                DS.okX_over fun s0 => (OpAt.go rfl rfl (q_move)).x,
                DS.okX_over fun s0 => (OpAt.go rfl rfl (q_nil)).x,
                DS.okX_over fun s0 => (OpAt.go rfl rfl (q_load)).x,
                DS.okX_over fun s0 => (OpAt.go rfl rfl (q_move)).x,
                DS.okX_over fun s0 => at_callP (hp' := fun k => [(0, .box [_, i64 k])]) (1) [(0, 0)] [] [(_, _)] (c_rdrec b q hb2 (by omega)) (fun x k h17_5 => ?_),
                DS.okX_over fun s0 => (OpAt.go rfl rfl (q_bs 1806 rrc [(resE (rdR b q)).1] [(_, _)])).x,
                DS.okX_over fun s0 => (OpAt.go rfl rfl (q_app)).x,
                DS.okX_over fun s0 => (OpAt.go rfl rfl (q_nil)).x,
                DS.okX_over fun s0 => (OpAt.go rfl rfl (q_store)).x, trivial⟩ ?_ (fun _ _ h => h)
           ·
            exact absurd (hpo.symm.trans h17_5) (by simp)
           dsimp only [final, DS.upd, AS.seto]
           refine AWp.region ?_
           obtain ⟨a, ha⟩ := perr_none hpo
           have hr := rdR_ok ha
           rw [ha]
           dsimp only [resE]
           refine AOps.cons rfl rfl (q_add) ?_
           refine AOps.cons rfl rfl (q_move) ?_
           refine AOps.nil ?_
           refine ⟨(j + 1, l ++ [a.1], a.2, w + 1), ?_, Back.mk' (HasT.cons HasT.nil) (HasH.cons (HasH.cons (HasH.cons HasH.nil))), ?_⟩
           ·
            try dsimp only
            refine ⟨by omega, ?_, by rw [List.length_append, hll]; rfl, hr.2⟩
            rw [← hE, show cN b 5 - j = (cN b 5 - (j + 1)) + 1 by omega, rdRs_ok ha]
           ·
            try dsimp only
            first | omega | (simp; omega)
          ·
           refine AWp.drawsX _ [⟨0, [9], [], some 76, _, []⟩,
               ⟨1, [9], [], some 77, _, []⟩,
               ⟨2, [77], [602], some 78, _, []⟩,
               ⟨3, [78], [602], some 79, _, []⟩,
               ⟨4, [0], [], some 80, _, []⟩,
               ⟨5, [80], [0, 1, 2, 3, 4, 5, 6, 7], some 81, _, [(0, _)]⟩,
               ⟨6, [81], [1806], some 82, .fz 0 1 [], [(1806, .box [])]⟩,
               ⟨7, [79, 82], [1806, 9011], some 83, .fz 0 1 [], [(9011, .box [])]⟩,
               ⟨8, [76], [602], some 84, _, []⟩,
               ⟨9, [83, 84], [602, 9011], none, .fz 0 1 [], [(602, .box [])]⟩]
            [⟨0, [9], [], some 76, .any, []⟩,
                ⟨1, [9], [], some 77, .any, []⟩,
                ⟨2, [77], [602], some 78, .any, []⟩,
                ⟨3, [78], [602], some 79, .any, []⟩,
                ⟨4, [0], [], some 80, .any, []⟩,
                ⟨5, [80], [0, 1, 2, 3, 4, 5, 6, 7], some 81, .any, [(0, .box [])]⟩,
                ⟨6, [81], [1806], some 82, .any, [(1806, .box [])]⟩,
                ⟨7, [79, 82], [1806, 9011], some 83, .any, [(9011, .box [])]⟩,
                ⟨8, [76], [602], some 84, .any, []⟩,
                ⟨9, [83, 84], [602, 9011], none, .any, [(602, .box [])]⟩]
            mixed_ok rfl (by kernel_rfl) ⟨DS.okX_over fun s0 => (OpAt.go rfl rfl (q_move)).x,
                DS.okX_over fun s0 => (OpAt.go rfl rfl (q_move)).x,
                DS.okX_over fun s0 => (OpAt.go rfl rfl (q_nil)).x,
                DS.okX_over fun s0 => (OpAt.go rfl rfl (q_load)).x,
                DS.okX_over fun s0 => (OpAt.go rfl rfl (q_move)).x,
                DS.okX_over fun s0 => at_callP (hp' := fun k => [(0, .box [_, i64 k])]) (1) [(0, 0)] [] [(_, _)] (AC.bad hpo (c_rdrec b q hb2 (by omega))) (fun x k h17_5 => ?_),
                DS.okX_over fun s0 => OpAtX.bot (d := 81) rfl,
                DS.okX_over fun s0 => OpAtX.bot (d := 82) rfl,
                DS.okX_over fun s0 => (OpAt.go rfl rfl (q_nil)).x,
                DS.okX_over fun s0 => OpAtX.bot (d := 83) rfl, trivial⟩ ?_ (fun _ _ h => h)
           ·
            show Post te Try.f39 _ (.panic _) _
            refine Post.panicH (1) (k) ?_ (by repeat' (first | exact trivial | exact lv_ok rfl | exact lv_sl rfl rfl | exact lv_ptr rfl rfl | exact lv_mp rfl rfl | exact lobj_row (fun _ => rfl) | refine lobj_box ?_ | refine ⟨rfl, ⟨_, rfl, ?_⟩, ?_⟩ | refine ⟨?_, ?_⟩)) rfl
            obtain ⟨e, he1, rfl⟩ := perr_some h17_5
            have hX : rdRs b (cN b 5) [] p = .error e := by rw [← hE, show cN b 5 - j = (cN b 5 - (j + 1)) + 1 by omega, rdRs_err he1]
            rw [rdM_q g1 hz, bindE_ok hQ]; dsimp only
            rw [bindE_ok hA1]; dsimp only
            rw [bindE_ok hU1]; dsimp only
            rw [bindE_err hX]; rfl
           dsimp only [final, DS.upd, AS.seto]
           exact AWp.bot (d := 81) rfl
         ·
          refine AOps.nil ?_
          refine AWp.seq ?_
          refine AWp.cond_f rfl ?_
          refine AWp.exit ?_
          refine AWp.region ?_
          obtain rfl : j = cN b 5 := by omega
          rw [Nat.sub_self, rdRs] at hE
          have hA := hE.symm
          refine AOps.cons rfl rfl (q_add) ?_
          refine AOps.cons rfl rfl (q_move) ?_
          refine AOps.nil ?_
          refine ⟨(3, A, U, l, q, va, vu, w), ?_, Back.mk' (HasT.cons HasT.nil) (HasH.cons (HasH.cons (HasH.cons (HasH.cons (HasH.cons HasH.nil))))), ?_⟩
          ·
           try dsimp only
           exact ⟨by omega, hq, .inr (.inr (.inr ⟨rfl, _, _, hA1, hU1, hA⟩))⟩
          ·
           try dsimp only
           first | omega | (simp; omega)
      ·
       refine AOps.nil ?_
       refine AWp.seq ?_
       refine AWp.cond_f rfl ?_
       refine AWp.exit ?_
       refine AWp.seq ?_
       rcases hpo : pNo (decide ((p : Int) = (b.length : Int))) 41 with _ | xx
       ·
        obtain ⟨p2, p3, hA, hU, hD⟩ : ∃ p2 p3, rdRs b (cN b 3) [] p1 = .ok (A, p2) ∧ rdRs b (cN b 4) [] p2 = .ok (U, p3) ∧ rdRs b (cN b 5) [] p3 = .ok (D, p) := by
          simp at h13_0
          rcases hI with ⟨h, _⟩ | ⟨h, _⟩ | ⟨h, _⟩ | ⟨_, h⟩
          · omega
          · omega
          · omega
          · exact h
        have hM : rdM b = if p = b.length then .ok ⟨hdM b, qs, A, U, D⟩ else .error 41 := by
          rw [rdM_q g1 hz, bindE_ok hQ]; dsimp only
          rw [bindE_ok hA]; dsimp only
          rw [bindE_ok hU]; dsimp only
          rw [bindE_ok hD]
        refine AWp.drawsX _ [⟨0, [0], [], some 87, _, []⟩,
            ⟨1, [87], [0], some 88, _, []⟩,
            ⟨2, [88], [0], some 89, _, []⟩,
            ⟨3, [89], [0], some 90, _, []⟩,
            ⟨4, [0], [], some 91, _, []⟩,
            ⟨5, [91], [0], some 92, _, []⟩,
            ⟨6, [92], [0], some 93, _, []⟩,
            ⟨7, [93], [0], some 94, _, []⟩,
            ⟨8, [94], [], some 95, _, []⟩,
            ⟨9, [90, 95], [], some 96, _, []⟩,
            ⟨10, [96], [0, 1, 2, 3, 4, 5, 6, 7], some 97, _, []⟩]
         [⟨0, [0], [], some 87, .any, []⟩,
             ⟨1, [87], [0], some 88, .any, []⟩,
             ⟨2, [88], [0], some 89, .any, []⟩,
             ⟨3, [89], [0], some 90, .any, []⟩,
             ⟨4, [0], [], some 91, .any, []⟩,
             ⟨5, [91], [0], some 92, .any, []⟩,
             ⟨6, [92], [0], some 93, .any, []⟩,
             ⟨7, [93], [0], some 94, .any, []⟩,
             ⟨8, [94], [], some 95, .any, []⟩,
             ⟨9, [90, 95], [], some 96, .any, []⟩,
             ⟨10, [96], [0, 1, 2, 3, 4, 5, 6, 7], some 97, .any, []⟩]
         mixed_ok rfl (by kernel_rfl) ⟨DS.okX_over fun s0 => (OpAt.go rfl rfl (q_move)).x,
             DS.okX_over fun s0 => (OpAt.go rfl rfl (q_nil)).x,
             DS.okX_over fun s0 => (OpAt.go rfl rfl (q_fa)).x,
             DS.okX_over fun s0 => (OpAt.go rfl rfl (q_load)).x,
             DS.okX_over fun s0 => (OpAt.go rfl rfl (q_move)).x,
             DS.okX_over fun s0 => (OpAt.go rfl rfl (q_nil)).x,
             DS.okX_over fun s0 => (OpAt.go rfl rfl (q_fa)).x,
             DS.okX_over fun s0 => (OpAt.go rfl rfl (q_load)).x,
             DS.okX_over fun s0 => (OpAt.go rfl rfl (q_len)).x,
             DS.okX_over fun s0 => (OpAt.go rfl rfl (q_eql)).x,
             DS.okX_over fun s0 => at_callP (hp' := fun k => []) (1) [] [] [] (c_wire_no (decide ((p : Int) = (b.length : Int))) 41) (fun x k h20_10 => ?_), trivial⟩ ?_ (fun _ _ h => h)
        ·
         exact absurd (hpo.symm.trans h20_10) (by simp)
        dsimp only [final, DS.upd, AS.seto]
        refine AWp.seq ?_
        refine AWp.region ?_
        obtain rfl : p = b.length := by have := pNo_none hpo; simp at this; omega
        rw [if_pos rfl] at hM
        refine AOps.weak (Weak.fullD 1 0 [] (t := [(2, .ptr 100 0 0), (6, .ptr 602 0 0)]) (hl := [(0, .box [.fz 1 b.length (cl bc b), i64 b.length]), (602, .box [i64 (dH b).id, tf (dH b).resp, i64 (dH b).op, tf (dH b).aa, tf (dH b).tc, tf (dH b).rd, tf (dH b).ra, i64 (dH b).code, .fz 0 qs.length (cl quc qs), .fz 0 A.length (cl rrc A), .fz 0 U.length (cl rrc U), .fz 0 D.length (cl rrc D)]), (100, .box [i64 0, tf false, i64 0, tf false, tf false, tf false, tf false, i64 0, .v (.slice none 0 0), .v (.slice none 0 0), .v (.slice none 0 0), .v (.slice none 0 0)])])) ?_
        refine AOps.cons rfl rfl (q_load) ?_
        refine AOps.cons rfl rfl (q_store) ?_
        refine AOps.nil ?_
        refine AWp.ret ?_
        show Fin te Try.f39 _ _
        rw [hM]
        refine Fin.retP (by rfl) ?_
        refine q_retHD (1) (0) [] [_] [_] [(_, _)] ?_
        rfl
       ·
        obtain ⟨p2, p3, hA, hU, hD⟩ : ∃ p2 p3, rdRs b (cN b 3) [] p1 = .ok (A, p2) ∧ rdRs b (cN b 4) [] p2 = .ok (U, p3) ∧ rdRs b (cN b 5) [] p3 = .ok (D, p) := by
          simp at h13_0
          rcases hI with ⟨h, _⟩ | ⟨h, _⟩ | ⟨h, _⟩ | ⟨_, h⟩
          · omega
          · omega
          · omega
          · exact h
        have hM : rdM b = if p = b.length then .ok ⟨hdM b, qs, A, U, D⟩ else .error 41 := by
          rw [rdM_q g1 hz, bindE_ok hQ]; dsimp only
          rw [bindE_ok hA]; dsimp only
          rw [bindE_ok hU]; dsimp only
          rw [bindE_ok hD]
        refine AWp.drawsX _ [⟨0, [0], [], some 87, _, []⟩,
            ⟨1, [87], [0], some 88, _, []⟩,
            ⟨2, [88], [0], some 89, _, []⟩,
            ⟨3, [89], [0], some 90, _, []⟩,
            ⟨4, [0], [], some 91, _, []⟩,
            ⟨5, [91], [0], some 92, _, []⟩,
            ⟨6, [92], [0], some 93, _, []⟩,
            ⟨7, [93], [0], some 94, _, []⟩,
            ⟨8, [94], [], some 95, _, []⟩,
            ⟨9, [90, 95], [], some 96, _, []⟩,
            ⟨10, [96], [0, 1, 2, 3, 4, 5, 6, 7], some 97, _, []⟩]
         [⟨0, [0], [], some 87, .any, []⟩,
             ⟨1, [87], [0], some 88, .any, []⟩,
             ⟨2, [88], [0], some 89, .any, []⟩,
             ⟨3, [89], [0], some 90, .any, []⟩,
             ⟨4, [0], [], some 91, .any, []⟩,
             ⟨5, [91], [0], some 92, .any, []⟩,
             ⟨6, [92], [0], some 93, .any, []⟩,
             ⟨7, [93], [0], some 94, .any, []⟩,
             ⟨8, [94], [], some 95, .any, []⟩,
             ⟨9, [90, 95], [], some 96, .any, []⟩,
             ⟨10, [96], [0, 1, 2, 3, 4, 5, 6, 7], some 97, .any, []⟩]
         mixed_ok rfl (by kernel_rfl) ⟨DS.okX_over fun s0 => (OpAt.go rfl rfl (q_move)).x,
             DS.okX_over fun s0 => (OpAt.go rfl rfl (q_nil)).x,
             DS.okX_over fun s0 => (OpAt.go rfl rfl (q_fa)).x,
             DS.okX_over fun s0 => (OpAt.go rfl rfl (q_load)).x,
             DS.okX_over fun s0 => (OpAt.go rfl rfl (q_move)).x,
             DS.okX_over fun s0 => (OpAt.go rfl rfl (q_nil)).x,
             DS.okX_over fun s0 => (OpAt.go rfl rfl (q_fa)).x,
             DS.okX_over fun s0 => (OpAt.go rfl rfl (q_load)).x,
             DS.okX_over fun s0 => (OpAt.go rfl rfl (q_len)).x,
             DS.okX_over fun s0 => (OpAt.go rfl rfl (q_eql)).x,
             DS.okX_over fun s0 => at_callP (hp' := fun k => []) (1) [] [] [] (AC.bad hpo (c_wire_no (decide ((p : Int) = (b.length : Int))) 41)) (fun x k h20_10 => ?_), trivial⟩ ?_ (fun _ _ h => h)
        ·
         show Post te Try.f39 _ (.panic _) _
         refine Post.panicH (1) (p) ?_ (by repeat' (first | exact trivial | exact lv_ok rfl | exact lv_sl rfl rfl | exact lv_ptr rfl rfl | exact lv_mp rfl rfl | exact lobj_row (fun _ => rfl) | refine lobj_box ?_ | refine ⟨rfl, ⟨_, rfl, ?_⟩, ?_⟩ | refine ⟨?_, ?_⟩)) rfl
         obtain ⟨c1, rfl⟩ := pNo_some h20_10
         rw [hM, if_neg (by simp at c1; omega)]; rfl
        dsimp only [final, DS.upd, AS.seto]
        exact AWp.bot (d := 97) rfl
  ·
   show Post te Try.f39 _ (.panic _) _
   refine Post.panicH (1) (0) ?_ (by repeat' (first | exact trivial | exact lv_ok rfl | exact lv_sl rfl rfl | exact lv_ptr rfl rfl | exact lv_mp rfl rfl | exact lobj_row (fun _ => rfl) | refine lobj_box ?_ | refine ⟨rfl, ⟨_, rfl, ?_⟩, ?_⟩ | refine ⟨?_, ?_⟩)) rfl
   obtain ⟨c1, rfl⟩ := pNo_some h3_3
   rw [rdM, if_neg g1, if_pos (by simpa using c1)]; rfl
 ·
  show Post te Try.f39 _ (.panic _) _
  refine Post.panicH (1) (0) ?_ (by repeat' (first | exact trivial | exact lv_ok rfl | exact lv_sl rfl rfl | exact lv_ptr rfl rfl | exact lv_mp rfl rfl | exact lobj_row (fun _ => rfl) | refine lobj_box ?_ | refine ⟨rfl, ⟨_, rfl, ?_⟩, ?_⟩ | refine ⟨?_, ?_⟩)) rfl
  obtain ⟨c1, rfl⟩ := pNo_some h1_6
  rw [rdM, if_pos (by simp at c1; omega)]; rfl
end Go.Proofs.Ytkfccjbihcbmiaa.Fw


set_option linter.unusedVariables false
set_option linter.unusedSimpArgs false
set_option linter.unusedSectionVars false
namespace Go.Proofs.Ytkfccjbihcbmiaa.Fw
open Go.RowKit
section
variable {P : Program}
theorem fin_ret {te : TE} (hte : TEok P te) {fn : Func} {R : AEnd → Heap → Prop} {n : Nat} {s' : AS} {w' : World} {φ' : PMap} {Λ : Lent} {a' : Act} (hf : Fin te fn R s') (hs' : Sim n w' φ' Λ s' a') :
    ∃ v r h' φ2, (results fn a'.tmps).run P w' = .ok v w' ∧ R (.ret r) h' ∧ HSim w' φ2 Λ h' ∧ Goes w' φ' w' φ2 ∧ Rep w' φ2 Λ r v := by
  obtain ⟨xs, r, h', h1, h2, h3⟩ := hf
  obtain ⟨vs, v1, v2, v3⟩ := run_resultList hte hs' h1
  have hrun : (results fn a'.tmps).run P w' = .ok (if h : vs.toArray.size = 1 then vs.toArray[0] else .tuple vs.toArray) w' := by
    rw [results_eq, ← Array.toArray_toList (xs := fn.results), List.mapM_toArray]
    simp only [Sem.run_bind, Sem.run_map, v1, Result.andThen_ok, Sem.run_pure]
  have hrep : Rep w' φ' Λ (resVal xs) (if h : vs.toArray.size = 1 then vs.toArray[0] else .tuple vs.toArray) := by
    by_cases hx : ∃ x, xs = [x]
    · obtain ⟨x, rfl⟩ := hx
      have hvl : vs.length = 1 := by simpa using v2
      obtain ⟨v, hv1, hv2⟩ := v3 0 x rfl
      rw [dif_pos (by simpa using hvl)]
      simp only [resVal]
      have : vs.toArray[0]'(by simp; omega) = v := by
        have := (List.getElem?_eq_some_iff.1 hv1).2
        simpa using this
      rw [this]
      exact hv2
    · have hne : vs.length ≠ 1 := by
        intro h1
        rw [v2] at h1
        obtain ⟨x, hx2⟩ := List.length_eq_one_iff.1 h1
        exact hx ⟨x, hx2⟩
      rw [dif_neg (by simpa using hne)]
      have : resVal xs = .tup xs := by
        unfold resVal
        split
        · exact absurd ⟨_, rfl⟩ hx
        · rfl
      rw [this]
      refine .tup (fun j => vs.getD j undef) (by simp [v2]) (fun j hj => ?_) (fun j c hj => ?_)
      · rw [List.getElem?_toArray, List.getElem?_eq_getElem (by omega), List.getD_eq_getElem?_getD, List.getElem?_eq_getElem (by omega)]
        rfl
      · obtain ⟨v, k1, k2⟩ := v3 j c hj
        rw [List.getD_eq_getElem?_getD, k1]
        exact k2
  obtain ⟨φ2, k1, k2, k3⟩ := h2 w' φ' Λ _ hs'.hs hrep
  exact ⟨_, r, h', φ2, hrun, h3, k1, k3, k2⟩
theorem sim_enter {n : Nat} {w : World} {φ : PMap} {Λ : Lent} {args : List AV} {vals : Array Value} {h : Heap} (hs : HSim w φ Λ h) (ha : ArgsRep w φ Λ args vals) (hn : args.length ≤ n) :
    Sim n w φ Λ ⟨fun i => args.getD i (.v undef), h⟩ { tmps := vals ++ Array.replicate (n - vals.size) undef, defers := [] } := by
  refine ⟨rfl, by simp [ha.1]; omega, fun i => ?_, hs⟩
  simp only [Array.getD_eq_getD_getElem?, List.getD_eq_getElem?_getD]
  by_cases hi : i < args.length
  · obtain ⟨v, h1, h2⟩ := ha.2 i args[i] (List.getElem?_eq_getElem hi)
    rw [Array.getElem?_append_left (by rw [ha.1]; exact hi), h1, List.getElem?_eq_getElem hi]
    exact h2
  · rw [List.getElem?_eq_none (by omega), Array.getElem?_append_right (by rw [ha.1]; omega)]
    have : ((Array.replicate (n - vals.size) undef)[i - vals.size]?).getD undef = undef := by
      rw [Array.getElem?_replicate]
      split <;> rfl
    rw [this]
    exact .v
theorem put_dfr (a : Act) (d : Option Tmp) (v : Value) (ds : List Deferred) : ({ a with defers := a.defers ++ ds } : Act).put d v = { a.put d v with defers := (a.put d v).defers ++ ds } := by
  cases d <;> rfl
theorem frame_upon {o : Oper} {a : Act} {next : Act → World → Prop} {Q : Exit → Act → World → Prop} (ds : List Deferred) (r : Result Next)
    (h : o.upon P a (fun a' w' => next { a' with defers := a'.defers ++ ds } w') (fun e a' w' => Q e { a' with defers := a'.defers ++ ds } w') r) :
    o.upon P { a with defers := a.defers ++ ds } next Q r := by
  unfold Oper.upon at h ⊢
  split
  · simp only at h; rw [put_dfr]; exact h
  · simp only at h; rw [put_dfr]; exact h
  · rename_i d w'
    simp only at h
    have := put_dfr { a with defers := d :: a.defers } o.dst undef ds
    simp only [List.cons_append] at this
    rw [this]; exact h
  · simp only at h
    refine h.mono fun e w'' q => ?_
    cases e with
    | returned v => simp only at q ⊢; rw [put_dfr]; exact q
    | panicked c => exact q
    | outgrown => obtain ⟨a0, w0, q0⟩ := q; exact ⟨_, w0, q0⟩
  · simp only at h
    refine h.mono fun v w'' q => ?_
    rw [put_dfr]; exact q
  · exact h
  · simp_all
theorem Oper.upon_next {o : Oper} {a : Act} {n1 n2 : Act → World → Prop} {Q : Exit → Act → World → Prop} (hn : ∀ a w, n1 a w → n2 a w) {r : Result Next} (h : o.upon P a n1 Q r) : o.upon P a n2 Q r := by
  unfold Oper.upon at h ⊢
  split
  · exact hn _ _ h
  · exact hn _ _ h
  · exact hn _ _ h
  · simp only at h
    refine h.mono fun e w'' q => ?_
    cases e with
    | returned v => exact hn _ _ q
    | panicked c => exact q
    | outgrown => exact q
  · simp only at h
    exact h.mono fun v w'' q => hn _ _ q
  · exact h
  · simp_all
theorem frame_ops {ops : Array Oper} {Q : Exit → Act → World → Prop} (ds : List Deferred) : ∀ (l : List Nat) (a : Act) (w : World),
    wpOps P ops (fun e a' w' => Q e { a' with defers := a'.defers ++ ds } w') l a w → wpOps P ops Q l { a with defers := a.defers ++ ds } w
  | [], a, w, h => h
  | i :: rest, a, w, h => by
    simp only [wpOps] at h ⊢
    cases ho : ops[i]? with
    | none => simp only [ho] at h ⊢; exact frame_ops ds rest a w h
    | some o =>
      simp only [ho] at h ⊢
      split
      · rename_i hw
        rw [if_pos hw] at h
        rcases h with h | h
        · left
          refine frame_upon ds _ ?_
          have hn : ∀ a' w', wpOps P ops (fun e a' w' => Q e { a' with defers := a'.defers ++ ds } w') rest a' w' → wpOps P ops Q rest { a' with defers := a'.defers ++ ds } w' := fun a' w' => frame_ops ds rest a' w'
          exact Oper.upon_next hn h
        · right
          obtain ⟨h1, a0, w0, q0⟩ := h
          exact ⟨h1, _, w0, q0⟩
      · rename_i hw
        rw [if_neg hw] at h
        rw [put_dfr]
        exact frame_ops ds rest _ w h
theorem keep_ops {I : Act → Prop} {ops : Array Oper} {Q : Exit → Act → World → Prop} (hI : ∀ (i : Nat) (o : Oper), ops[i]? = some o → ∀ a v, I a → I (a.put o.dst v)) (hD : ∀ (a : Act) ds, I a → I { a with defers := ds }) : ∀ (l : List Nat) (a : Act) (w : World), I a →
    wpOps P ops (fun e a' w' => (e ≠ .outgrown → I a') → Q e a' w') l a w → wpOps P ops Q l a w
  | [], a, w, ha, h => h fun _ => ha
  | i :: rest, a, w, ha, h => by
    simp only [wpOps] at h ⊢
    cases ho : ops[i]? with
    | none => simp only [ho] at h ⊢; exact keep_ops hI hD rest a w ha h
    | some o =>
      simp only [ho] at h ⊢
      have hp := hI i o ho
      split
      · rename_i hw
        rw [if_pos hw] at h
        rcases h with h | h
        · left
          unfold Oper.wp at h ⊢
          generalize (execOp a.eval o).run P w = r at h
          unfold Oper.upon at h ⊢
          split
          · exact keep_ops hI hD rest _ _ (hp a _ ha) h
          · exact keep_ops hI hD rest _ _ (hp a _ ha) h
          · exact keep_ops hI hD rest _ _ (hp _ _ (hD a _ ha)) h
          · simp only at h
            refine h.mono fun e w'' q => ?_
            cases e with
            | returned v => exact keep_ops hI hD rest _ _ (hp a _ ha) q
            | panicked c => exact q fun _ => ha
            | outgrown => obtain ⟨a0, w0, q0⟩ := q; exact ⟨a0, w0, q0 fun k => absurd rfl k⟩
          · simp only at h
            exact h.mono fun v w'' q => keep_ops hI hD rest _ _ (hp a _ ha) q
          · exact h fun _ => ha
          · simp_all
        · right
          obtain ⟨h1, a0, w0, q0⟩ := h
          exact ⟨h1, a0, w0, q0 fun k => absurd rfl k⟩
      · rename_i hw
        rw [if_neg hw] at h
        exact keep_ops hI hD rest _ _ (hp a _ ha) h
theorem conc_ne (ae : AExit) : ae.conc ≠ .outgrown := by cases ae <;> simp [AExit.conc]
theorem AOps.framed {I : Act → Prop} {n : Nat} {ops : Array Oper} {Q : APost} {l : List Nat} {s : AS} (hI : ∀ (i : Nat) (o : Oper), ops[i]? = some o → ∀ a v, I a → I (a.put o.dst v)) (hD : ∀ (a : Act) ds, I a → I { a with defers := ds }) (h : AOps P n ops Q l s)
    {Λ : Lent} {w : World} {φ : PMap} {a : Act} (ds : List Deferred) (hs : Sim n w φ Λ s a) (ha : I a) {QQ : Exit → Act → World → Prop}
    (hQ : ∀ ae s' w' φ' a', Q ae s' → Sim n w' φ' Λ s' a' → Goes w φ w' φ' → I a' → QQ ae.conc { a' with defers := ds } w') : wpOps P ops QQ l { a with defers := ds } w := by
  have e0 : ({ a with defers := ds } : Act) = { a with defers := a.defers ++ ds } := by rw [hs.defs]; rfl
  rw [e0]
  refine frame_ops ds l a w (keep_ops hI hD l a w ha ?_)
  refine h Λ w φ a hs _ fun ae s' w' φ' a' q hs' g hi => ?_
  have e1 : ({ a' with defers := a'.defers ++ ds } : Act) = { a' with defers := ds } := by rw [hs'.defs]; rfl
  rw [e1]
  exact hQ ae s' w' φ' a' q hs' g (hi (conc_ne ae))
def opsOf : Code → Array Oper
  | .region _ o _ => o
  | _ => #[]
def fstC : Code → Code
  | .seq x _ => x
  | c => c
def sndC : Code → Code
  | .seq _ y => y
  | c => c
theorem wpOps_cons {ops : Array Oper} {Q : Exit → Act → World → Prop} {i : Nat} {rest : List Nat} {o : Oper} {a : Act} {w : World} (ho : ops[i]? = some o) (hg : o.guard = none) (h : o.wp P a w (wpOps P ops Q rest) Q) : wpOps P ops Q (i :: rest) a w := by
  simp only [wpOps, ho, Region.wanted, hg, if_true]; exact .inl h
end
end Go.Proofs.Ytkfccjbihcbmiaa.Fw


set_option linter.unusedVariables false
set_option linter.unusedSimpArgs false
namespace Go.Proofs.Ytkfccjbihcbmiaa.Fw
open Go.RowKit
def zM : Msg := ⟨⟨0, false, 0, false, false, false, false, 0⟩, [], [], [], []⟩
def decM (b : List UInt8) : Msg := match rdM b with
  | .ok m => m
  | .error _ => zM
def decE (b : List UInt8) : Int := match rdM b with
  | .ok _ => 0
  | .error e => e
theorem und_errno : Try.prog.underlying 35 = some (.int .i64) := by kernel_rfl
theorem ta_hit (e : Int) (w : World) : (Instr.typeAssert (pE e) 20 35 true).run Try.prog w = .ok (.tuple #[.int .i64 e, .bool true]) w := by
  simp [Instr.typeAssert, run_underlying und_errno, pE]
theorem ta_nil (w : World) : (Instr.typeAssert .nilIface 20 35 true).run Try.prog w = .ok (.tuple #[.int .i64 0, .bool false]) w := by
  simp [Instr.typeAssert, run_underlying und_errno]
theorem put_getD {a : Act} {d : Option Tmp} {v : Value} {t : Nat} (h : d ≠ some t) : (a.put d v).tmps.getD t undef = a.tmps.getD t undef := by
  cases d with
  | none => rfl
  | some d =>
    have h2 : d ≠ t := fun e => h (by rw [e])
    simp [Act.put, Array.getD_eq_getD_getElem?, Array.getElem?_setIfInBounds, h2]
def kpt (T : List Nat) (o : Oper) : Bool := match o.dst with
  | some d => T.all fun t => !Nat.beq d t
  | none => true
theorem keeps_dst {T : List Nat} {ops : Array Oper} (h : ops.toList.all (kpt T) = true) {i : Nat} {o : Oper} (ho : ops[i]? = some o) : ∀ t ∈ T, o.dst ≠ some t := by
  intro t ht e
  have hm : o ∈ ops.toList := by simpa using Array.mem_of_getElem? ho
  have h1 := List.all_eq_true.1 h o hm
  unfold kpt at h1
  rw [e] at h1
  have h2 := List.all_eq_true.1 h1 t ht
  simp at h2
theorem f38_res : Try.f38.results = #[] := rfl
theorem dec_idle (p q : Value) (w : World) : CallsD Try.prog 38 #[p, q] .returning w fun e u' w' => e = .returned (.tuple #[]) ∧ u' = .returning ∧ w' = w := by
  refine callsD_of_wpS (fn := Try.f38) Try.func38 rfl fun c₀ cs hu => ?_
  apply wpS_seq
  apply wpS_region
  simp [wpOpsS, go_sem, recoverD, hu, Try.ntmps38, Exit.thenS, ta_nil]
  apply wpS_seq
  apply wpS_region
  simp [wpOpsS, go_sem, Exit.thenS]
  refine wpS_cond (t := false) (by simp [Act.eval, Array.replicate]) ?_
  simp only [Bool.false_eq_true, if_false]
  refine wpS_of_wp (wp_skip ?_)
  cases c₀
  simp_all [bodyPostS, results, f38_res]
def Z12 : List AV := [i64 0, tf false, i64 0, tf false, tf false, tf false, tf false, i64 0, .v (.slice none 0 0), .v (.slice none 0 0), .v (.slice none 0 0), .v (.slice none 0 0)]
noncomputable def decOps : Array Oper := match sndC (sndC (Try.f38.body.getD .skip)) with
  | .cond _ x _ => opsOf x
  | _ => #[]
theorem dec_ops (e : Int) : AOps Try.prog 12 decOps (fun x s => x = .normal ∧ Weak s (mkS [(0, .ptr 100 0 0), (1, .ptr 101 0 0)] [(100, .box Z12), (101, .box [i64 e])])) (List.range decOps.size)
    (mkS [(0, .ptr 100 0 0), (1, .ptr 101 0 0), (2, i64 e)] [(100, .box Z12), (101, .box [i64 0])]) := by
  refine AOps.cons rfl rfl (q_build []) ?_
  refine AOps.cons rfl rfl q_move ?_
  refine AOps.cons rfl rfl q_store ?_
  refine AOps.cons rfl rfl q_store ?_
  refine AOps.nil ⟨rfl, ?_⟩
  exact Weak.full 0 []
end Go.Proofs.Ytkfccjbihcbmiaa.Fw


set_option linter.unusedVariables false
set_option linter.unusedSimpArgs false
namespace Go.Proofs.Ytkfccjbihcbmiaa.Fw
open Go.RowKit
set_option maxRecDepth 100000 in
set_option maxHeartbeats 4000000 in
theorem dec_catch {e : Int} {w : World} {φ : PMap} {Λ : Lent} {pm pe : Value} (hs : HSim w φ Λ (hlook [(100, .box Z12), (101, .box [i64 0])])) (r1 : Rep w φ Λ (.ptr 100 0 0) pm) (r2 : Rep w φ Λ (.ptr 101 0 0) pe) :
    CallsD Try.prog 38 #[pm, pe] (.panicking [{ v := pE e, recovered := false }]) w fun en u' w' => en = .returned (.tuple #[]) ∧ u' = .panicking [{ v := pE e, recovered := true }] ∧
      ∃ φ', HSim w' φ' Λ (hlook [(100, .box Z12), (101, .box [i64 e])]) ∧ Goes w φ w' φ' ∧ Rep w' φ' Λ (.ptr 100 0 0) pm ∧ Rep w' φ' Λ (.ptr 101 0 0) pe := by
  refine callsD_of_wpS (fn := Try.f38) Try.func38 rfl fun c₀ cs hu => ?_
  apply wpS_seq
  apply wpS_region
  simp [wpOpsS, go_sem, recoverD, hu, Try.ntmps38, Exit.thenS, ta_hit]
  apply wpS_seq
  apply wpS_region
  simp [wpOpsS, go_sem, Exit.thenS]
  refine wpS_cond (t := true) (by simp [Act.eval, Array.replicate]) ?_
  simp only [if_true]
  refine wpS_of_wp ?_
  generalize hT : (#[pm, pe] ++ _ : Array Value) = T
  have h0 : T.getD 0 undef = pm := by rw [← hT]; simp [Array.replicate]
  have h1 : T.getD 1 undef = pe := by rw [← hT]; simp [Array.replicate]
  have h2 : T.getD 2 undef = .int .i64 e := by rw [← hT]; simp [Array.replicate]
  have hsz : T.size = 12 := by rw [← hT]; simp [Array.replicate]
  have hsim : Sim 12 w φ Λ (mkS [(0, .ptr 100 0 0), (1, .ptr 101 0 0), (2, i64 e)] [(100, .box Z12), (101, .box [i64 0])]) ⟨T, []⟩ := by
    refine ⟨rfl, hsz, fun i => ?_, hs⟩
    match i with
    | 0 => show Rep w φ Λ (.ptr 100 0 0) (T.getD 0 undef); rw [h0]; exact r1
    | 1 => show Rep w φ Λ (.ptr 101 0 0) (T.getD 1 undef); rw [h1]; exact r2
    | 2 => show Rep w φ Λ (i64 e) (T.getD 2 undef); rw [h2]; exact .v
    | i + 3 => exact .any
  apply wp_region
  change wpOps Try.prog decOps _ (List.range decOps.size) (⟨T, []⟩ : Act) w
  refine AOps.framed (I := fun a => a.tmps.getD 0 undef = pm ∧ a.tmps.getD 1 undef = pe) (ops := decOps) (fun i o ho a v hI => ?_) (fun a ds hI => hI) (dec_ops e) [] (a := ⟨T, []⟩) hsim ⟨h0, h1⟩ ?_
  · have hd := keeps_dst (T := [0, 1]) (ops := decOps) (by kernel_rfl) ho
    exact ⟨by rw [put_getD (hd 0 (by simp))]; exact hI.1, by rw [put_getD (hd 1 (by simp))]; exact hI.2⟩
  · rintro ae s' w' φ' a' ⟨rfl, hw⟩ hs' g ⟨k0, k1⟩
    obtain ⟨φ2, hs2, g2⟩ := hw 12 Λ w' φ' a' hs'
    refine ⟨rfl, _, rfl, .tuple #[], by simp [results, f38_res], rfl, rfl, φ2, hs2.hs, g.trans g2, ?_, ?_⟩
    · have := hs2.tmps 0; rwa [k0] at this
    · have := hs2.tmps 1; rwa [k1] at this
end Go.Proofs.Ytkfccjbihcbmiaa.Fw


set_option linter.unusedVariables false
set_option linter.unusedSimpArgs false
namespace Go.Proofs.Ytkfccjbihcbmiaa.Fw
open Go.RowKit
noncomputable def dB : Code := Try.f15.body.getD .skip
theorem d_ops0 (b : List UInt8) : AOps Try.prog Try.f15.ntmps (opsOf (fstC dB)) (fun x s => x = .normal ∧ Weak s (mkS [(0, .fz 1 b.length (cl bc b)), (2, .ptr 100 0 0), (3, .ptr 101 0 0)] [(100, .box Z12), (101, .box [i64 0])])) (List.range (opsOf (fstC dB)).size)
    ⟨fun i => [.fz 1 b.length (cl bc b)].getD i (.v undef), emp⟩ := by
  refine AOps.cons rfl rfl (q_alloc 100) ?_
  refine AOps.cons rfl rfl (q_alloc 101) ?_
  exact AOps.nil ⟨rfl, Weak.full 1 []⟩
theorem d_ops2 (b : List UInt8) : AOps Try.prog Try.f15.ntmps (opsOf (fstC (sndC (sndC dB)))) (fun x s => x = .normal ∧ Weak s (mkS [(2, .ptr 100 0 0), (3, .ptr 101 0 0), (4, .ptr 302 0 0)] [(100, .box Z12), (101, .box [i64 0]), (302, .box [.fz 1 b.length (cl bc b), i64 0])])) (List.range (opsOf (fstC (sndC (sndC dB)))).size)
    ((mkS [(0, .fz 1 b.length (cl bc b)), (2, .ptr 100 0 0), (3, .ptr 101 0 0)] [(100, .box Z12), (101, .box [i64 0])]).put (some 5) .any) := by
  refine AOps.cons rfl rfl q_move ?_
  refine AOps.cons rfl rfl (q_build [(_, _)]) ?_
  refine AOps.cons rfl rfl (q_box 302) ?_
  refine AOps.cons rfl rfl q_assign ?_
  exact AOps.nil ⟨rfl, Weak.full 1 []⟩
def dQ (b : List UInt8) : APost
  | .normal, s => ∃ m, rdM b = .ok m ∧ Weak s (mkS [(2, .ptr 100 0 0), (3, .ptr 101 0 0)] [(100, .box (msgC m)), (101, .box [i64 0])])
  | .panic x, s => ∃ e, x = pE e ∧ rdM b = .error e ∧ Weak s (mkS [(2, .ptr 100 0 0), (3, .ptr 101 0 0)] [(100, .box Z12), (101, .box [i64 0])])
  | _, _ => False
theorem d_ops3 (b : List UInt8) (hb : b.length ≤ 140737488351232) : AOps Try.prog Try.f15.ntmps (opsOf (fstC (sndC (sndC (sndC dB))))) (dQ b) (List.range (opsOf (fstC (sndC (sndC (sndC dB))))).size)
    (mkS [(2, .ptr 100 0 0), (3, .ptr 101 0 0), (4, .ptr 302 0 0)] [(100, .box Z12), (101, .box [i64 0]), (302, .box [.fz 1 b.length (cl bc b), i64 0])]) := by
  refine AOps.cons rfl rfl q_move ?_
  refine AOps.callP (hp' := fun k => [(302, .box [_, i64 k])]) (1) [(0, 302)] [] [(_, _)] (c_rdmsg b hb) (fun h => ?_) (fun x k h => ?_)
  · obtain ⟨m, hm⟩ := perr_none h
    rw [hm]
    dsimp only [resE]
    refine AOps.cons rfl rfl q_store ?_
    refine AOps.cons rfl rfl q_store ?_
    exact AOps.nil ⟨m, hm, Weak.full 0 []⟩
  · obtain ⟨e, he, rfl⟩ := perr_some h
    exact ⟨e, rfl, he, Weak.full 0 []⟩
theorem d_fin (m : Msg) (e : Int) : Fin te Try.f15 (Ret (.tup [.agg (msgC m), i64 e])) (mkS [(2, .ptr 100 0 0), (3, .ptr 101 0 0)] [(100, .box (msgC m)), (101, .box [i64 e])]) := by
  refine q_ret (0) [_, _] [_, _] ?_
  rfl
theorem d_zero (e : Int) : Weak (mkS [(2, .ptr 100 0 0), (3, .ptr 101 0 0)] [(100, .box Z12), (101, .box [i64 e])]) (mkS [(2, .ptr 100 0 0), (3, .ptr 101 0 0)] [(100, .box (msgC zM)), (101, .box [i64 e])]) := Weak.full 0 []
end Go.Proofs.Ytkfccjbihcbmiaa.Fw


set_option linter.unusedVariables false
set_option linter.unusedSimpArgs false
namespace Go.Proofs.Ytkfccjbihcbmiaa.Fw
open Go.RowKit
theorem dB_keep2 : (opsOf (fstC (sndC (sndC dB)))).toList.all (kpt [2, 3]) = true := rfl
theorem dB_keep3 : (opsOf (fstC (sndC (sndC (sndC dB))))).toList.all (kpt [2, 3]) = true := rfl
theorem d_inv (x y : Value) (w : World) : (invoke (.fn (.func 38) #[x, y]) #[]).run Try.prog w = .ok (.enter 38 #[x, y]) w := by
  simp [go_sem]
set_option maxRecDepth 100000 in
set_option maxHeartbeats 4000000 in
theorem c_Decode1 (b : List UInt8) (hb : b.length ≤ 140737488351232) : AC Try.prog 15 [.fz 1 b.length (cl bc b)] emp (Ret (.tup [.agg (msgC (decM b)), i64 (decE b)])) := by
  refine ⟨⟨Try.f15, _, Try.func15, rfl, rfl⟩, fun Λ w φ vals hs ha QQ hret hpan => ?_⟩
  have hs0 := sim_enter (n := Try.f15.ntmps) hs ha (Nat.le_of_ble_eq_true rfl)
  refine calls_of_wp_defers (fn := Try.f15) Try.func15 rfl ?_
  refine wp_seq (wp_region ?_)
  refine d_ops0 b Λ w φ _ hs0 _ ?_
  rintro ae s1 w1 φ1 a1 ⟨rfl, hW1⟩ hs1 g1
  obtain ⟨φ2, hs2, g2⟩ := hW1 _ Λ w1 φ1 a1 hs1
  refine wp_seq (wp_region ?_)
  have hmf : ∀ (fn : Go.Fn) (first cap : Array Value) (w : World), (Instr.makeFunc fn first cap).run Try.prog w = .ok (.func fn first cap) w := fun _ _ _ _ => rfl
  obtain ⟨V, hV⟩ : ∃ V : Value, V = .func (.func 38) #[] #[a1.eval (.tmp 2), a1.eval (.tmp 3)] := ⟨_, rfl⟩
  have hsz : a1.tmps.size = 11 := hs1.size
  refine wpOps_cons rfl rfl ?_
  simp only [Oper.wp, execOp]
  simp [hmf]
  rw [← hV, Oper.upon_value]
  have h5 : (a1.put (some 5) V).eval (.tmp 5) = V := by simp [Act.put, Act.eval, hsz]
  refine wpOps_cons rfl rfl ?_
  have hd : Deferred.ofValue V #[] = pure { target := .fn (.func 38) #[a1.eval (.tmp 2), a1.eval (.tmp 3)], args := #[] } := by rw [hV]; rfl
  simp [Oper.wp, execOp, resolve, h5, hd]
  rw [Oper.upon_defer]
  change Code.wp Try.prog _ _ ({ a1.put (some 5) V with defers := _ :: (a1.put (some 5) V).defers } : Act) w1
  rw [show (a1.put (some 5) V).defers = [] from hs1.defs]
  refine wp_seq (wp_region ?_)
  change wpOps Try.prog (opsOf (fstC (sndC (sndC dB)))) _ (List.range (opsOf (fstC (sndC (sndC dB)))).size) _ w1
  refine AOps.framed (I := fun a => a.tmps.getD 2 undef = a1.eval (.tmp 2) ∧ a.tmps.getD 3 undef = a1.eval (.tmp 3)) (ops := opsOf (fstC (sndC (sndC dB)))) (fun i o ho a v hI => ?_) (fun a ds hI => hI) (d_ops2 b) _ (a := a1.put (some 5) V) (hs2.put (some 5) rfl .any) ⟨put_getD (by simp), put_getD (by simp)⟩ ?_
  · have hd := keeps_dst (T := [2, 3]) dB_keep2 ho
    exact ⟨by rw [put_getD (hd 2 (by simp))]; exact hI.1, by rw [put_getD (hd 3 (by simp))]; exact hI.2⟩
  rintro ae s3 w3 φ3 a3 ⟨rfl, hW3⟩ hs3 g3 hI3
  obtain ⟨φ4, hs4, g4⟩ := hW3 _ Λ w3 φ3 a3 hs3
  refine wp_seq (wp_region ?_)
  change wpOps Try.prog (opsOf (fstC (sndC (sndC (sndC dB))))) _ (List.range (opsOf (fstC (sndC (sndC (sndC dB))))).size) _ w3
  refine AOps.framed (I := fun a => a.tmps.getD 2 undef = a1.eval (.tmp 2) ∧ a.tmps.getD 3 undef = a1.eval (.tmp 3)) (ops := opsOf (fstC (sndC (sndC (sndC dB))))) (fun i o ho a v hI => ?_) (fun a ds hI => hI) (d_ops3 b hb) _ (a := a3) hs4 hI3 ?_
  · have hd := keeps_dst (T := [2, 3]) dB_keep3 ho
    exact ⟨by rw [put_getD (hd 2 (by simp))]; exact hI.1, by rw [put_getD (hd 3 (by simp))]; exact hI.2⟩
  rintro ae s5 w5 φ5 a5 q hs5 g5 ⟨k2, k3⟩
  have gg : Goes w φ w5 φ5 := (((g1.trans g2).trans g3).trans g4).trans g5
  cases ae with
  | normal =>
    obtain ⟨m, hm, hW5⟩ := q
    obtain ⟨φ6, hs6, g6⟩ := hW5 _ Λ w5 φ5 a5 hs5
    refine wp_ret ?_
    refine leaves_cons (f := 38) (args := #[a1.eval (.tmp 2), a1.eval (.tmp 3)]) (by simp) (d_inv _ _ _) ?_
    refine (dec_idle _ _ w5).mono ?_
    rintro e u' w' ⟨rfl, rfl, rfl⟩
    obtain ⟨v, r, h', φ7, f1, f2, f3, f4, f5⟩ := fin_ret te_ok (d_fin m 0) hs6
    refine ⟨v, f1, hret r h' _ φ7 v ?_ f3 ((gg.trans g6).trans f4) f5⟩
    rw [show decM b = m by rw [decM, hm], show decE b = 0 by rw [decE, hm]]
    exact f2
  | panic x =>
    obtain ⟨e, rfl, he, hW5⟩ := q
    obtain ⟨φ6, hs6, g6⟩ := hW5 _ Λ w5 φ5 a5 hs5
    have r1 := hs6.tmps 2
    have r2 := hs6.tmps 3
    rw [k2] at r1
    rw [k3] at r2
    refine leaves_cons (f := 38) (args := #[a1.eval (.tmp 2), a1.eval (.tmp 3)]) (by simp) (d_inv _ _ _) ?_
    refine (dec_catch hs6.hs r1 r2).mono ?_
    rintro e' u' w' ⟨rfl, rfl, φ7, hh, g7, q2, q3⟩
    have hsim : Sim Try.f15.ntmps w' φ7 Λ (mkS [(2, .ptr 100 0 0), (3, .ptr 101 0 0)] [(100, .box Z12), (101, .box [i64 e])]) ⟨a5.tmps, []⟩ := by
      refine ⟨rfl, hs5.size, fun i => ?_, hh⟩
      match i with
      | 0 => exact .any
      | 1 => exact .any
      | 2 => show Rep w' φ7 Λ (.ptr 100 0 0) (a5.tmps.getD 2 undef); rw [k2]; exact q2
      | 3 => show Rep w' φ7 Λ (.ptr 101 0 0) (a5.tmps.getD 3 undef); rw [k3]; exact q3
      | i + 4 => exact .any
    obtain ⟨φ8, hs8, g8⟩ := d_zero e _ Λ w' φ7 _ hsim
    obtain ⟨v, r, h', φ9, f1, f2, f3, f4, f5⟩ := fin_ret te_ok (d_fin zM e) hs8
    refine ⟨v, f1, hret r h' _ φ9 v ?_ f3 ((((gg.trans g6).trans g7).trans g8).trans f4) f5⟩
    rw [show decM b = zM by rw [decM, he], show decE b = e by rw [decE, he]]
    exact f2
  | exit id => exact q.elim
  | goto l => exact q.elim
  | ret => exact q.elim
theorem c_Decode (b : List UInt8) (hb : b.length ≤ 140737488351232) : AC Try.prog 15 [.fz 0 b.length (cl bc b)] emp (Ret (.tup [.agg (msgC (decM b)), i64 (decE b)])) :=
  ⟨(c_Decode1 b hb).1, fun Λ w φ vals hs ha QQ h1 h2 => (c_Decode1 b hb).2 Λ w φ vals hs ⟨ha.1, fun j c hj => by
    match j, hj with
    | 0, hj =>
      cases hj
      obtain ⟨v, e1, e2⟩ := ha.2 0 _ rfl
      exact ⟨v, e1, e2.up_fz (Nat.zero_le 1)⟩⟩ QQ h1 h2⟩
end Go.Proofs.Ytkfccjbihcbmiaa.Fw


set_option linter.unusedVariables false
set_option linter.unusedSimpArgs false
namespace Go.Proofs.Ytkfccjbihcbmiaa.Fw
open Go.RowKit
inductive At (b : List UInt8) : Nat → Nat → List (List UInt8) → Nat → Prop
  | fin {fi p : Nat} (h : p < b.length) (h0 : kB b p = 0) : At b fi p [] (p + 1)
  | lab {fi p q : Nat} {l : List UInt8} {ls : List (List UInt8)} (h1 : 1 ≤ l.length) (h2 : l.length ≤ 63) (h3 : p + 1 + l.length ≤ b.length) (h4 : (b.take (p + 1 + l.length)).drop p = byte (l.length : Int) :: l) (h : At b fi (p + 1 + l.length) ls q) : At b fi p (l :: ls) q
  | ptr {fi p q : Nat} {ls : List (List UInt8)} (h1 : p + 2 ≤ b.length) (h2 : 192 ≤ kB b p) (h3 : toI b p < fi) (h : At b (toI b p) (toI b p) ls q) : At b fi p ls (p + 2)
theorem At.le {b : List UInt8} {fi p q : Nat} {ls : List (List UInt8)} (h : At b fi p ls q) : p < q ∧ q ≤ b.length := by
  induction h with
  | fin h h0 => omega
  | lab h1 h2 h3 h4 h ih => omega
  | ptr h1 h2 h3 h ih => omega
theorem At.mono {b : List UInt8} {fi p q : Nat} {ls : List (List UInt8)} (h : At b fi p ls q) : ∀ {fi' : Nat}, fi ≤ fi' → At b fi' p ls q := by
  induction h with
  | fin h h0 => intro fi' k; exact .fin h h0
  | lab h1 h2 h3 h4 h ih => intro fi' k; exact .lab h1 h2 h3 h4 (ih k)
  | ptr h1 h2 h3 h ih => intro fi' k; exact .ptr h1 h2 (by omega) h
theorem At.good {b : List UInt8} {fi p q : Nat} {ls : List (List UInt8)} (h : At b fi p ls q) : GoodN ls := by
  induction h with
  | fin h h0 => exact GoodN.nil
  | lab h1 h2 h3 h4 h ih =>
    intro x hx
    rcases List.mem_cons.1 hx with rfl | hx
    · exact ⟨h1, h2⟩
    · exact ih x hx
  | ptr h1 h2 h3 h ih => exact ih
theorem kB_app {b x : List UInt8} {p : Nat} (h : p < b.length) : kB (b ++ x) p = kB b p := by
  simp only [kB, List.getD_eq_getElem?_getD, List.getElem?_append_left h]
theorem toI_app {b x : List UInt8} {p : Nat} (h : p + 2 ≤ b.length) : toI (b ++ x) p = toI b p := by
  rw [toI, toI, kB_app (by omega), kB_app (by omega)]
theorem sub_app {b x : List UInt8} {p q : Nat} (h : q ≤ b.length) : ((b ++ x).take q).drop p = (b.take q).drop p := by
  rw [List.take_append_of_le_length h]
theorem At.ext {b : List UInt8} {fi p q : Nat} {ls : List (List UInt8)} (h : At b fi p ls q) (x : List UInt8) : At (b ++ x) fi p ls q := by
  induction h with
  | fin h h0 => exact .fin (by rw [List.length_append]; omega) (by rw [kB_app h]; exact h0)
  | lab h1 h2 h3 h4 h ih => exact .lab h1 h2 (by rw [List.length_append]; omega) (by rw [sub_app h3]; exact h4) ih
  | ptr h1 h2 h3 h ih =>
    have e := toI_app (x := x) h1
    exact .ptr (by rw [List.length_append]; omega) (by rw [kB_app (by omega)]; exact h2) (by rw [e]; exact h3) (by rw [e]; exact ih)
theorem sub_head {b r : List UInt8} {p q : Nat} {c : UInt8} (h : (b.take q).drop p = c :: r) : b.getD p default = c := by
  have h2 : ((b.take q).drop p)[0]? = some c := by rw [h]; rfl
  rw [List.getElem?_drop, List.getElem?_take] at h2
  split at h2
  · rw [List.getD_eq_getElem?_getD, show b[p]? = some c from h2]; rfl
  · cases h2
theorem At.read {b : List UInt8} {fi p q : Nat} {ls : List (List UInt8)} (h : At b fi p ls q) : ∀ {sh : Int} {li : Nat} {bh : Option Nat} {n : List UInt8}, q ≤ li → li ≤ b.length → (n ++ joinN ls).length ≤ 255 → rdN b sh p fi li bh n = .ok (n ++ joinN ls, bh.getD q) := by
  induction h with
  | fin h h0 =>
    intro sh li bh n h1 h2 h3
    rw [List.length_append, joinN_nil] at h3
    exact rdN_end (by omega) h0 (by simp at h3; omega)
  | @lab fi p q l ls h1 h2 h3 h4 h ih =>
    intro sh li bh n k1 k2 k3
    have hk : kB b p = l.length := by rw [kB, sub_head h4, byte_len h2]
    have hle := h.le
    have hj := joinN_length ls
    have e : n ++ joinN (l :: ls) = (n ++ (byte (l.length : Int) :: l)) ++ joinN ls := by rw [joinN_cons]; simp
    rw [e] at k3 ⊢
    have h4' : (b.take (p + 1 + kB b p)).drop p = byte (l.length : Int) :: l := by rw [hk]; exact h4
    have k3' : (n ++ (byte (l.length : Int) :: l)).length + (joinN ls).length ≤ 255 := by rw [← List.length_append]; exact k3
    rw [rdN_lab (by omega) (by omega) (by omega) (by omega) (by rw [h4']; omega), h4', hk]
    exact ih k1 k2 k3
  | @ptr fi p q ls h1 h2 h3 h ih =>
    intro sh li bh n k1 k2 k3
    rw [rdN_ptr (by omega) h2 (by omega) h3]
    exact ih h.le.2 (Nat.le_refl _) k3
theorem read_At {b : List UInt8} {sh : Int} : ∀ (p fi li : Nat) (bh : Option Nat) (n : List UInt8), ∀ {N : List UInt8} {P : Nat}, li ≤ b.length → rdN b sh p fi li bh n = .ok (N, P) → ∃ ls q, At b fi p ls q ∧ q ≤ li ∧ N = n ++ joinN ls ∧ N.length ≤ 255 ∧ P = bh.getD q := by
  intro p fi li bh n
  induction p, fi, li, bh, n using rdN.induct b with
  | case1 p fi li bh n h => intro N P hl e; rw [rdN_short h] at e; cases e
  | case2 p fi li bh n h h1 h2 =>
    intro N P hl e
    rw [rdN_end h h1 h2] at e; cases e
    exact ⟨[], p + 1, .fin (by omega) h1, by omega, rfl, by simp; omega, rfl⟩
  | case3 p fi li bh n h h1 h2 => intro N P hl e; rw [rdN_long0 h h1 h2] at e; cases e
  | case4 p fi li bh n h h1 h2 h3 => intro N P hl e; rw [rdN_pshort h h2 h3] at e; cases e
  | case5 p fi li bh n h h1 h2 h3 h4 ih =>
    intro N P hl e
    rw [rdN_ptr h h2 h3 h4] at e
    obtain ⟨ls, q, a, b1, c, d, f⟩ := ih (Nat.le_refl _) e
    exact ⟨ls, p + 2, .ptr (by omega) h2 h4 a, by omega, c, d, f⟩
  | case6 p fi li bh n h h1 h2 h3 h4 => intro N P hl e; rw [rdN_pbad h h2 h3 h4] at e; cases e
  | case7 p fi li bh n h h1 h2 h3 => intro N P hl e; rw [rdN_label h h3 h2] at e; cases e
  | case8 p fi li bh n h h1 h2 h3 h4 => intro N P hl e; rw [rdN_lshort h h1 h3 h4] at e; cases e
  | case9 p fi li bh n h h1 h2 h3 h4 h5 ih =>
    intro N P hl e
    rw [rdN_lab h h1 h3 h4 h5] at e
    obtain ⟨ls, q, a, b1, c, d, f⟩ := ih hl e
    have hlen : ((b.take (p + 1 + kB b p)).drop p).length = 1 + kB b p := by rw [List.length_drop, List.length_take]; omega
    obtain ⟨x, l, hx⟩ : ∃ x l, (b.take (p + 1 + kB b p)).drop p = x :: l := by
      cases hq : (b.take (p + 1 + kB b p)).drop p with
      | nil => rw [hq] at hlen; simp at hlen; omega
      | cons x l => exact ⟨x, l, rfl⟩
    have hll : l.length = kB b p := by rw [hx] at hlen; simp at hlen; omega
    have hxe : x = byte (l.length : Int) := by
      have := sub_head hx
      rw [← this, hll, kB]; exact (byte_of_toNat _).symm
    rw [hxe] at hx
    refine ⟨l :: ls, q, (.lab (by omega) (by omega) (by omega) (by rw [show p + 1 + l.length = p + 1 + kB b p by omega]; exact hx) (by rw [hll]; exact a)), b1, ?_, d, f⟩
    rw [c, hx, joinN_cons]; simp
  | case10 p fi li bh n h h1 h2 h3 h4 h5 => intro N P hl e; rw [rdN_llong h h1 h3 h4 h5] at e; cases e
theorem rdN_can {b : List UInt8} {sh : Int} {p li : Nat} {r : List UInt8 × Nat} (h : rdN b sh p p li none [] = .ok r) (hl : li ≤ b.length) : canN r.1 = true := by
  obtain ⟨N, P⟩ := r
  obtain ⟨ls, q, a, b1, c, d, f⟩ := read_At p p li none [] hl h
  simp only [List.nil_append] at c
  subst c
  exact can_join a.good d
end Go.Proofs.Ytkfccjbihcbmiaa.Fw


set_option linter.unusedVariables false
set_option linter.unusedSimpArgs false
namespace Go.Proofs.Ytkfccjbihcbmiaa.Fw
open Go.RowKit
def Ent (b : List UInt8) (k : List UInt8) (a : Int) : Prop := ∃ ls q, Nm ls ∧ k = joinN ls ∧ 0 ≤ a ∧ a < 16384 ∧ At b a.toNat a.toNat ls q
def WInv (w : Wr) : Prop := ∀ k a, mget w.m k = some a → Ent w.b k a
theorem Ent.ext {b k : List UInt8} {a : Int} (h : Ent b k a) (x : List UInt8) : Ent (b ++ x) k a := by
  obtain ⟨ls, q, h1, h2, h3, h4, h5⟩ := h
  exact ⟨ls, q, h1, h2, h3, h4, h5.ext x⟩
theorem Ent.lt {b k : List UInt8} {a : Int} (h : Ent b k a) : a.toNat < b.length := by
  obtain ⟨ls, q, h1, h2, h3, h4, h5⟩ := h
  have := h5.le; omega
theorem WInv.ok {w : Wr} (h : WInv w) : WOk w := fun k a hk => by
  obtain ⟨ls, q, h1, h2, h3, h4, h5⟩ := h k a hk
  exact ⟨h3, h4⟩
theorem kB_mid {A r : List UInt8} {c : UInt8} {p : Nat} (h : p = A.length) : kB (A ++ c :: r) p = c.toNat := by
  subst h
  simp [kB, List.getD_eq_getElem?_getD]
theorem kB_mid2 {A r : List UInt8} {c d : UInt8} {p : Nat} (h : p = A.length) : kB (A ++ c :: d :: r) (p + 1) = d.toNat := by
  rw [show A ++ c :: d :: r = (A ++ [c]) ++ d :: r by simp]
  exact kB_mid (by simp [h])
theorem ptr_bytes {a : Int} (h0 : 0 ≤ a) (h1 : a < 16384) : (byte ((49152 + a) / 2 ^ 8)).toNat = 192 + a.toNat / 256 ∧ (byte (49152 + a)).toNat = a.toNat % 256 := by
  have k1 := byte_toNat ((49152 + a) / 2 ^ 8)
  have k2 := byte_toNat (49152 + a)
  constructor <;> omega
theorem wr_at : ∀ {ls : List (List UInt8)} {w : Wr} {fi : Nat}, Nm ls → fi ≤ w.b.length → (∀ k a, mget w.m k = some a → k.length ≤ (joinN ls).length → Ent w.b k a ∧ a.toNat < fi) →
    (∃ x, (wrName ls w).b = w.b ++ x) ∧ At (wrName ls w).b fi w.b.length ls (wrName ls w).b.length ∧ ∀ k a, mget (wrName ls w).m k = some a → mget w.m k = some a ∨ Ent (wrName ls w).b k a
  | [], w, fi, _, hf, hi => by
    refine ⟨⟨[0], rfl⟩, ?_, fun k a h => .inl h⟩
    show At (w.b ++ [0]) fi w.b.length [] (w.b ++ [0]).length
    rw [List.length_append]
    exact .fin (by simp) (by rw [kB_mid rfl]; rfl)
  | l :: ls, w, fi, hn, hf, hi => by
    cases hm : mget w.m (joinN (l :: ls)) with
    | some a =>
      rw [(wrName_hit hm).1]
      obtain ⟨⟨ls', q, e1, e2, e3, e4, e5⟩, hlt⟩ := hi _ _ hm (Nat.le_refl _)
      have e6 : l :: ls = ls' := joinN_inj hn.1 e1.1 e2
      subst e6
      refine ⟨⟨_, rfl⟩, ?_, fun k a h => .inl h⟩
      obtain ⟨k1, k2⟩ := ptr_bytes e3 e4
      have g1 : kB (w.b ++ two (49152 + a)) w.b.length = 192 + a.toNat / 256 := by rw [two, kB_mid rfl, k1]
      have g2 : kB (w.b ++ two (49152 + a)) (w.b.length + 1) = a.toNat % 256 := by rw [two, kB_mid2 rfl, k2]
      have g3 : toI (w.b ++ two (49152 + a)) w.b.length = a.toNat := by rw [toI, g1, g2]; omega
      have gl : (w.b ++ two (49152 + a)).length = w.b.length + 2 := by rw [List.length_append]; rfl
      show At (w.b ++ two (49152 + a)) fi w.b.length (l :: ls) (w.b ++ two (49152 + a)).length
      rw [gl]
      exact .ptr (by omega) (by omega) (by omega) (by rw [g3]; exact e5.ext _)
    | none =>
      rw [(wrName_no hm).1]
      have hh := hn.1.head
      have hle := joinN_le (l := l) (ls := ls)
      have hb : (w.put l ls).b = w.b ++ (byte (l.length : Int) :: l) := rfl
      have hbl : (w.put l ls).b.length = w.b.length + 1 + l.length := by rw [hb]; simp; omega
      have hmg : ∀ k a, mget (w.put l ls).m k = some a → mget w.m k = some a ∨ (k = joinN (l :: ls) ∧ a = w.b.length ∧ (w.b.length : Int) < 16384) := by
        intro k a h
        unfold Wr.put at h
        split at h
        · rw [mget_put] at h
          split at h
          · rename_i hlt hk; cases h; exact .inr ⟨hk.symm, rfl, hlt⟩
          · exact .inl h
        · exact .inl h
      obtain ⟨⟨x, hx⟩, hA, hM⟩ := wr_at (ls := ls) (w := w.put l ls) (fi := fi) (Nm_tl hn) (by omega) (by
        intro k a h hk
        rcases hmg k a h with h | ⟨rfl, _⟩
        · obtain ⟨c, d⟩ := hi k a h (by omega)
          exact ⟨c.ext _, d⟩
        · omega)
      have hA2 : ∀ fi', fi ≤ fi' → At (wrName ls (w.put l ls)).b fi' w.b.length (l :: ls) (wrName ls (w.put l ls)).b.length := by
        intro fi' hfi
        refine .lab hh.1 hh.2 ?_ ?_ ?_
        · rw [hx, List.length_append]; omega
        · rw [hx, sub_app (by omega), hb]
          rw [show w.b.length + 1 + l.length = (w.b ++ (byte (l.length : Int) :: l)).length by rw [← hb, hbl], List.take_length, List.drop_left]
        · rw [← hbl]; exact hA.mono hfi
      refine ⟨⟨_, by rw [hx, hb, List.append_assoc]⟩, hA2 fi (Nat.le_refl _), fun k a h => ?_⟩
      rcases hM k a h with h | h
      · rcases hmg k a h with h | ⟨rfl, rfl, hlt⟩
        · exact .inl h
        · exact .inr ⟨l :: ls, _, hn, rfl, by omega, hlt, by rw [Int.toNat_natCast]; exact hA2 _ hf⟩
      · exact .inr h
theorem wr_name {ls : List (List UInt8)} {w : Wr} (hn : Nm ls) (hw : WInv w) : (∃ x, (wrName ls w).b = w.b ++ x) ∧ At (wrName ls w).b w.b.length w.b.length ls (wrName ls w).b.length ∧ WInv (wrName ls w) := by
  obtain ⟨⟨x, hx⟩, h2, h3⟩ := wr_at (fi := w.b.length) hn (Nat.le_refl _) (fun k a h _ => ⟨hw k a h, (hw k a h).lt⟩)
  refine ⟨⟨x, hx⟩, h2, fun k a h => ?_⟩
  rcases h3 k a h with h | h
  · rw [hx]; exact (hw k a h).ext x
  · exact h
theorem WInv.app {w : Wr} (h : WInv w) (x : List UInt8) : WInv ⟨w.b ++ x, w.m⟩ := fun k a hk => (h k a hk).ext x
theorem wr_eqv : ∀ {ls : List (List UInt8)} {B B' : List UInt8} {m : List (List UInt8 × Int)}, B.length = B'.length → ∃ x m', wrName ls ⟨B, m⟩ = ⟨B ++ x, m'⟩ ∧ wrName ls ⟨B', m⟩ = ⟨B' ++ x, m'⟩
  | [], B, B', m, h => ⟨[0], m, rfl, rfl⟩
  | l :: ls, B, B', m, h => by
    cases hm : mget m (joinN (l :: ls)) with
    | some a => exact ⟨two (49152 + a), m, (wrName_hit (w := ⟨B, m⟩) hm).1, (wrName_hit (w := ⟨B', m⟩) hm).1⟩
    | none =>
      rw [(wrName_no (w := ⟨B, m⟩) hm).1, (wrName_no (w := ⟨B', m⟩) hm).1]
      unfold Wr.put
      simp only [h]
      obtain ⟨x, m', e1, e2⟩ := wr_eqv (ls := ls) (B := B ++ (byte (l.length : Int) :: l)) (B' := B' ++ (byte (l.length : Int) :: l)) (m := if (B'.length : Int) < 16384 then mput m (joinN (l :: ls)) B'.length else m) (by simp [h])
      exact ⟨(byte (l.length : Int) :: l) ++ x, m', by rw [e1, List.append_assoc], by rw [e2, List.append_assoc]⟩
theorem wrs_eqv : ∀ {L : List (List UInt8)} {B B' : List UInt8} {m : List (List UInt8 × Int)}, B.length = B'.length → ∃ x m', wrNames L ⟨B, m⟩ = ⟨B ++ x, m'⟩ ∧ wrNames L ⟨B', m⟩ = ⟨B' ++ x, m'⟩
  | [], B, B', m, h => ⟨[], m, by simp [wrNames], by simp [wrNames]⟩
  | n :: L, B, B', m, h => by
    obtain ⟨x, m1, e1, e2⟩ := wr_eqv (ls := labN n) (m := m) h
    obtain ⟨y, m2, f1, f2⟩ := wrs_eqv (L := L) (B := B ++ x) (B' := B' ++ x) (m := m1) (by simp [h])
    refine ⟨x ++ y, m2, ?_, ?_⟩
    · rw [wrNames, e1, f1, List.append_assoc]
    · rw [wrNames, e2, f2, List.append_assoc]
theorem wrs_read : ∀ {L : List (List UInt8)} {w : Wr} {acc : List UInt8}, (∀ n ∈ L, canN n = true) → WInv w → (∃ x, (wrNames L w).b = w.b ++ x) ∧ WInv (wrNames L w) ∧
    ∀ {y : List UInt8} {en : Nat}, (wrNames L w).b.length ≤ en → en ≤ ((wrNames L w).b ++ y).length → rdNs ((wrNames L w).b ++ y) en L.length acc w.b.length = .ok (acc ++ L.flatten, (wrNames L w).b.length)
  | [], w, acc, _, hw => ⟨⟨[], by simp [wrNames]⟩, hw, fun _ _ => by simp [wrNames, rdNs]⟩
  | n :: L, w, acc, hn, hw => by
    obtain ⟨c1, c2⟩ := canN_nm (hn n (by simp))
    obtain ⟨⟨x, hx⟩, hA, hI⟩ := wr_name c1 hw
    obtain ⟨⟨z, hz⟩, hI2, hR⟩ := wrs_read (L := L) (w := wrName (labN n) w) (acc := acc ++ n) (fun q hq => hn q (by simp [hq])) hI
    refine ⟨⟨x ++ z, by rw [wrNames, hz, hx, List.append_assoc]⟩, hI2, ?_⟩
    intro y en h1 h2
    have hle := hA.le
    have hzl := congrArg List.length hz
    rw [List.length_append] at hzl
    have hr : rdN ((wrNames L (wrName (labN n) w)).b ++ y) 30 w.b.length w.b.length en none [] = .ok (n, (wrName (labN n) w).b.length) := by
      have h3 : At ((wrNames L (wrName (labN n) w)).b ++ y) w.b.length w.b.length (labN n) (wrName (labN n) w).b.length := by
        rw [hz, List.append_assoc]; exact hA.ext _
      have h4 := h3.read (sh := 30) (li := en) (bh := none) (n := []) (by rw [wrNames] at h1; omega) h2 (by rw [List.nil_append, c2]; exact by rw [← c2]; exact c1.2)
      rw [h4, List.nil_append, c2]; rfl
    rw [wrNames, List.length_cons, rdNs_ok hr]
    rw [hR h1 h2, List.flatten_cons, List.append_assoc]
end Go.Proofs.Ytkfccjbihcbmiaa.Fw


set_option linter.unusedVariables false
set_option linter.unusedSimpArgs false
namespace Go.Proofs.Ytkfccjbihcbmiaa.Fw
open Go.RowKit
theorem num_two {n : Int} (h : 0 ≤ n ∧ n ≤ 65535) : (((byte (n / 2 ^ 8)).toNat * 256 + (byte n).toNat : Nat) : Int) = n := by
  have h1 := byte_toNat (n / 2 ^ 8)
  have h2 := byte_toNat n
  omega
section
variable {h : Hd} {c0 c1 c2 c3 : Int}
theorem back_num (k : h.can c0 c1 c2 c3) (r : List UInt8) : hnum (h.bytes c0 c1 c2 c3 ++ r) 0 = h.id ∧ hnum (h.bytes c0 c1 c2 c3 ++ r) 1 = h.flN 5 ∧ hnum (h.bytes c0 c1 c2 c3 ++ r) 2 = c0 ∧ hnum (h.bytes c0 c1 c2 c3 ++ r) 3 = c1 ∧ hnum (h.bytes c0 c1 c2 c3 ++ r) 4 = c2 ∧ hnum (h.bytes c0 c1 c2 c3 ++ r) 5 = c3 := by
  obtain ⟨hid, hop, hco, hc0, hc1, hc2, hc3⟩ := k
  exact ⟨num_two hid, num_two (Hd.fl_pos hop hco 5), num_two hc0, num_two hc1, num_two hc2, num_two hc3⟩
theorem fl_parts (hop : 0 ≤ h.op ∧ h.op ≤ 15) (hco : 0 ≤ h.code ∧ h.code ≤ 15) : h.flN 5 / 16 % 8 = 0 ∧ (⟨h.id, bitAt (h.flN 5) 15, h.flN 5 / 2048 % 16, bitAt (h.flN 5) 10, bitAt (h.flN 5) 9, bitAt (h.flN 5) 8, bitAt (h.flN 5) 7, h.flN 5 % 16⟩ : Hd) = h := by
  obtain ⟨id, resp, op, aa, tc, rd, ra, code⟩ := h
  dsimp only at hop hco
  have e : Hd.flN ⟨id, resp, op, aa, tc, rd, ra, code⟩ 5 = op * 2048 + code + (if resp = true then 32768 else 0) + (if aa = true then 1024 else 0) + (if tc = true then 512 else 0) + (if rd = true then 256 else 0) + (if ra = true then 128 else 0) := by simp [Hd.flN]
  rw [e]
  refine ⟨?_, ?_⟩
  · repeat' split
    all_goals omega
  · simp only [Hd.mk.injEq, true_and, bitAt]
    cases resp <;> cases aa <;> cases tc <;> cases rd <;> cases ra <;> simp <;> omega
theorem back_E (k : h.can c0 c1 c2 c3) (r : List UInt8) : dE (h.bytes c0 c1 c2 c3 ++ r) = 0 := by
  refine dE_ok ?_ ?_
  · rw [List.length_append, Hd.bytes_length]; omega
  · rw [(back_num k r).2.1]
    exact (fl_parts k.2.1 k.2.2.1).1
theorem back_H (k : h.can c0 c1 c2 c3) (r : List UInt8) : dH (h.bytes c0 c1 c2 c3 ++ r) = h := by
  rw [dH_ok (back_E k r), (back_num k r).1, (back_num k r).2.1]
  exact (fl_parts k.2.1 k.2.2.1).2
theorem back_C (k : h.can c0 c1 c2 c3) (r : List UInt8) : dC (h.bytes c0 c1 c2 c3 ++ r) 2 = c0 ∧ dC (h.bytes c0 c1 c2 c3 ++ r) 3 = c1 ∧ dC (h.bytes c0 c1 c2 c3 ++ r) 4 = c2 ∧ dC (h.bytes c0 c1 c2 c3 ++ r) 5 = c3 := by
  rw [dC_ok (back_E k r), dC_ok (back_E k r), dC_ok (back_E k r), dC_ok (back_E k r)]
  exact (back_num k r).2.2
end
theorem nV_two {n : Int} (h : 0 ≤ n ∧ n ≤ 65535) : ((nV (two n) : Nat) : Int) = n := by
  have h1 := byte_toNat (n / 2 ^ 8)
  have h2 := byte_toNat n
  simp only [nV, two, List.foldl_cons, List.foldl_nil]
  omega
theorem lowW_mod {n : Int} (h : 0 ≤ n) : lowW n = n % 65536 := by
  unfold lowW
  rw [show (65535 : Int).toNat = 2 ^ 16 - 1 by decide, Nat.and_two_pow_sub_one_eq_mod]
  omega
theorem nV_four {n : Int} (h : 0 ≤ n ∧ n < 4294967296) : ((nV (two (n / 2 ^ 16) ++ two (lowW n)) : Nat) : Int) = n := by
  rw [lowW_mod h.1]
  have h1 := byte_toNat (n / 2 ^ 16 / 2 ^ 8)
  have h2 := byte_toNat (n / 2 ^ 16)
  have h3 := byte_toNat (n % 65536 / 2 ^ 8)
  have h4 := byte_toNat (n % 65536)
  simp only [nV, two, List.cons_append, List.nil_append, List.foldl_cons, List.foldl_nil]
  omega
theorem bN_mid {A X R : List UInt8} {i w : Nat} (hi : i = A.length) (hw : w = X.length) : bN (A ++ (X ++ R)) i w = nV X := by
  subst hi; subst hw
  rw [bN, List.take_length_add_append, List.drop_left, List.take_left]
theorem setSz_mid {C Z : List UInt8} {c d : UInt8} {n : Nat} (hn : n = C.length + 2) : setSz (C ++ c :: d :: Z) n = C ++ (two (Z.length : Int) ++ Z) := by
  subst hn
  have hl : (((C ++ c :: d :: Z).length : Int) - ((C.length + 2 : Nat) : Int)) = (Z.length : Int) := by simp only [List.length_append, List.length_cons]; omega
  rw [setSz, hl, show (((C.length + 2 : Nat) : Int) - 2).toNat = C.length by omega, show (((C.length + 2 : Nat) : Int) - 1).toNat = C.length + 1 by omega]
  rw [List.set_append_right _ _ (Nat.le_refl _), List.set_append_right _ _ (by omega)]
  rw [Nat.sub_self, show C.length + 1 - C.length = 1 by omega]
  rfl
theorem nam_cnt {t : Int} {d : List UInt8} (h : canS t d = true) : (namS t d).length = nCnt t := by
  by_cases h6 : t = 6
  · subst h6; rw [namS, if_pos rfl, if_pos h]; rfl
  · rw [namS_ne h6]
    rw [canS_ne h6] at h
    rw [namR, if_pos h, nCnt, if_neg h6]
    by_cases h1 : t = 2 ∨ t = 5 ∨ t = 12
    · rw [if_pos h1, if_pos (by omega)]; rfl
    · rw [if_neg h1]
      by_cases h2 : t = 15
      · rw [if_pos h2, if_pos (by omega)]; rfl
      · rw [if_neg h2, if_neg (by omega)]; rfl
theorem data_back {t : Int} {d : List UInt8} (h : preD t d ++ (namS t d).flatten <+: d) : preD t d ++ (namS t d).flatten ++ d.drop ((preD t d).length + (namS t d).flatten.length) = d := by
  obtain ⟨r, hr⟩ := h
  have : d.drop ((preD t d).length + (namS t d).flatten.length) = r := by
    have e : ∀ {X Y : List UInt8} {n : Nat}, X ++ r = Y → n = X.length → Y.drop n = r := by
      intro X Y n h1 h2
      subst h1; subst h2
      exact List.drop_left
    exact e hr List.length_append.symm
  rw [this, hr]
theorem tk_mid {A X R : List UInt8} {i j : Nat} (hi : i = A.length) (hj : j = A.length + X.length) : ((A ++ (X ++ R)).take j).drop i = X := by
  subst hi; subst hj
  rw [List.take_length_add_append, List.drop_left, List.take_left]
theorem wr_rec {r : Rr} {w : Wr} (hr : rOk r = true) (hw : WInv w) (hs : wrOk r w = true) : (∃ x, (wrRec r w).b = w.b ++ x) ∧ WInv (wrRec r w) ∧ ∀ y, rdR ((wrRec r w).b ++ y) w.b.length = .ok (r, (wrRec r w).b.length) := by
  obtain ⟨⟨⟨⟨r1, r2⟩, r3⟩, r4⟩, r5⟩ : (((canN r.nm = true ∧ twoB [r.ty, r.cs] = true) ∧ 0 ≤ r.ttl) ∧ r.ttl < 4294967296) ∧ canS r.ty r.da = true := by simpa [rOk] using hr
  obtain ⟨t1, t2⟩ : (0 ≤ r.ty ∧ r.ty ≤ 65535) ∧ (0 ≤ r.cs ∧ r.cs ≤ 65535) := by
    rw [twoB_two] at r2
    simpa [shB] using r2
  obtain ⟨d1, d2, d3, d4⟩ := data_ok r5
  obtain ⟨c1, c2⟩ := canN_nm r1
  obtain ⟨⟨x1, hx1⟩, hA1, hI1⟩ := wr_name c1 hw
  have hwn : wrNum r w = ⟨(wrName (labN r.nm) w).b ++ (rNums r).flatMap two, (wrName (labN r.nm) w).m⟩ := rfl
  obtain ⟨w1, hw1⟩ : ∃ w1, w1 = wrName (labN r.nm) w := ⟨_, rfl⟩
  rw [← hw1] at hx1 hA1 hI1 hwn
  obtain ⟨C, hC⟩ : ∃ C, C = w1.b ++ [r.ty, r.cs, r.ttl / 2 ^ 16, lowW r.ttl].flatMap two := ⟨_, rfl⟩
  have hB1 : w1.b ++ (rNums r).flatMap two = C ++ [0, 0] := by rw [hC]; simp [rNums, two]; decide
  rw [hB1] at hwn
  have hCl : C.length = w1.b.length + 8 := by rw [hC, List.length_append, flat_two]; rfl
  obtain ⟨P, hP⟩ : ∃ P, P = preD r.ty r.da := ⟨_, rfl⟩
  obtain ⟨L, hL⟩ : ∃ L, L = namS r.ty r.da := ⟨_, rfl⟩
  obtain ⟨R, hR⟩ : ∃ R, R = r.da.drop (dN r) := ⟨_, rfl⟩
  have hda := data_back d4
  have hdaR : P ++ L.flatten ++ R = r.da := by rw [hP, hL, hR]; exact hda
  have hLn : L.length = nCnt r.ty := by rw [hL]; exact nam_cnt r5
  have hP2 : r.ty = 15 → P.length = 2 := fun e => by rw [hP, preD, if_pos e, List.length_take]; have := d2 e; omega
  have hP0 : r.ty ≠ 15 → P = [] := fun e => by rw [hP, preD, if_neg e]
  obtain ⟨x, m', e1, _⟩ := wrs_eqv (L := L) (B := (C ++ [0, 0]) ++ P) (B' := (C ++ [0, 0]) ++ P) (m := w1.m) rfl
  have hdat : wrDat r (wrNum r w) = ⟨C ++ 0 :: 0 :: (P ++ x ++ R), m'⟩ := by
    rw [hwn, wrDat]
    dsimp only
    rw [← hP, ← hL, ← hR, e1]
    simp
  obtain ⟨Z, hZ⟩ : ∃ Z, Z = P ++ x ++ R := ⟨_, rfl⟩
  rw [← hZ] at hdat
  have hrec : wrRec r w = ⟨C ++ (two (Z.length : Int) ++ Z), m'⟩ := by
    rw [wrRec, hdat, hwn]
    dsimp only
    rw [setSz_mid (by simp)]
  have hsz : (Z.length : Int) < 65536 := by
    have h := hs
    rw [wrOk, hdat, hwn, decide_eq_true_eq] at h
    simp only [List.length_append, List.length_cons, List.length_nil] at h
    omega
  obtain ⟨B2, hB2⟩ : ∃ B2, B2 = C ++ two (Z.length : Int) := ⟨_, rfl⟩
  have hB2l : B2.length = w1.b.length + 10 := by rw [hB2, List.length_append, hCl]; rfl
  obtain ⟨x', m'', f1, f2⟩ := wrs_eqv (L := L) (B := (C ++ [0, 0]) ++ P) (B' := B2 ++ P) (m := w1.m) (by simp only [List.length_append, hB2l, hCl, List.length_cons, List.length_nil])
  have hxx : x' = x ∧ m'' = m' := by
    have := f1.symm.trans e1
    simp only [Wr.mk.injEq, List.append_cancel_left_eq] at this
    exact this
  obtain ⟨rfl, rfl⟩ := hxx
  have hB2w : ∃ z, B2 = w1.b ++ z := ⟨_, by rw [hB2, hC, List.append_assoc]⟩
  obtain ⟨z2, hz2⟩ := hB2w
  have hI2 : WInv ⟨B2 ++ P, w1.m⟩ := by
    have := hI1.app (z2 ++ P)
    rw [← List.append_assoc, ← hz2] at this
    exact this
  obtain ⟨⟨x3, hx3⟩, hI3, hrd⟩ := wrs_read (L := L) (w := ⟨B2 ++ P, w1.m⟩) (acc := P) (by rw [hL]; exact d3) hI2
  rw [f2] at hx3 hI3 hrd
  dsimp only at hrd
  have hb : (wrRec r w).b = B2 ++ P ++ x' ++ R := by
    rw [hrec, hB2, hZ]; simp
  have hm : (wrRec r w).m = m'' := by rw [hrec]
  have hZl : Z.length = P.length + x'.length + R.length := by rw [hZ]; simp only [List.length_append]
  have hbl : (wrRec r w).b.length = w1.b.length + 10 + Z.length := by rw [hb]; simp only [List.length_append, hB2l]; omega
  refine ⟨⟨x1 ++ z2 ++ P ++ x' ++ R, by rw [hb, hz2, hx1]; simp⟩, ?_, ?_⟩
  · have h := hI3.app R
    have e : wrRec r w = ⟨B2 ++ P ++ x' ++ R, m''⟩ := by rw [← hb, ← hm]
    rw [e]; exact h
  · intro y
    obtain ⟨F, hF⟩ : ∃ F, F = (wrRec r w).b ++ y := ⟨_, rfl⟩
    rw [← hF]
    have hFl : F.length = w1.b.length + 10 + Z.length + y.length := by rw [hF, List.length_append, hbl]
    have hFw : F = w1.b ++ (z2 ++ P ++ x' ++ R ++ y) := by rw [hF, hb, hz2]; simp
    have hFn : F = w1.b ++ (two r.ty ++ (two r.cs ++ ((two (r.ttl / 2 ^ 16) ++ two (lowW r.ttl)) ++ (two (Z.length : Int) ++ (P ++ x' ++ R ++ y))))) := by
      rw [hF, hb, hB2, hC]; simp
    have hle := hA1.le
    have ha : rdN F 20 w.b.length w.b.length F.length none [] = .ok (r.nm, w1.b.length) := by
      have h3 : At F w.b.length w.b.length (labN r.nm) w1.b.length := by rw [hFw]; exact hA1.ext _
      have h4 := h3.read (sh := 20) (li := F.length) (bh := none) (n := []) (by omega) (Nat.le_refl _) (by rw [List.nil_append]; exact c1.2)
      rw [h4, List.nil_append, c2]; rfl
    have n0 : bN F w1.b.length 2 = nV (two r.ty) := by rw [hFn]; exact bN_mid rfl rfl
    have n1 : bN F (w1.b.length + 2) 2 = nV (two r.cs) := by
      rw [hFn, ← List.append_assoc]; exact bN_mid (by rw [List.length_append]; rfl) rfl
    have n2 : bN F (w1.b.length + 4) 4 = nV (two (r.ttl / 2 ^ 16) ++ two (lowW r.ttl)) := by
      rw [hFn, ← List.append_assoc, ← List.append_assoc]; exact bN_mid (by rw [List.length_append, List.length_append]; rfl) rfl
    have n3 : bN F (w1.b.length + 8) 2 = nV (two (Z.length : Int)) := by
      rw [hFn, ← List.append_assoc, ← List.append_assoc, ← List.append_assoc]; exact bN_mid (by rw [List.length_append, List.length_append, List.length_append]; rfl) rfl
    have v0 := nV_two t1
    have v1 := nV_two t2
    have v2 := nV_four ⟨r3, r4⟩
    have v3 := nV_two (n := (Z.length : Int)) ⟨by omega, by omega⟩
    rw [← n0] at v0
    rw [← n1] at v1
    rw [← n2] at v2
    rw [← n3] at v3
    have v3' : bN F (w1.b.length + 8) 2 = Z.length := by omega
    have hD : rdD F (bN F w1.b.length 2) (w1.b.length + 10) (w1.b.length + 10 + bN F (w1.b.length + 8) 2) = .ok r.da := by
      rw [v0, v3']
      have hF2 : F = B2 ++ (P ++ (x' ++ R ++ y)) := by rw [hF, hb]; simp
      have hF3 : F = (B2 ++ P ++ x') ++ (R ++ y) := by rw [hF, hb]; simp
      have hlen3 : (B2 ++ P ++ x').length = w1.b.length + 10 + P.length + x'.length := by simp only [List.length_append, hB2l]
      rw [rdD_go (by rintro ⟨e, k⟩; have := hP2 e; omega)]
      have hacc : (if r.ty = 15 then (F.take (w1.b.length + 10 + 2)).drop (w1.b.length + 10) else []) = P := by
        by_cases e : r.ty = 15
        · rw [if_pos e, hF2]; exact tk_mid hB2l.symm (by rw [hP2 e, hB2l])
        · rw [if_neg e, hP0 e]
      have hst : (if r.ty = 15 then w1.b.length + 10 + 2 else w1.b.length + 10) = (B2 ++ P).length := by
        rw [List.length_append, hB2l]
        by_cases e : r.ty = 15
        · rw [if_pos e, hP2 e]
        · rw [if_neg e, hP0 e]; rfl
      rw [hacc, hst, ← hLn]
      have h5 := hrd (y := R ++ y) (en := w1.b.length + 10 + Z.length) (by rw [hlen3]; omega) (by rw [← hF3]; omega)
      rw [← hF3] at h5
      rw [h5, rdO]
      have hrest : (F.take (w1.b.length + 10 + Z.length)).drop (B2 ++ P ++ x').length = R := by
        rw [hF3]; exact tk_mid rfl (by rw [hlen3]; omega)
      dsimp only
      rw [hrest, hdaR, if_pos r5]
    rw [rdR_go ha (by dsimp only; omega) (by dsimp only; omega)]
    dsimp only
    rw [hD, rdR2, v0, v1, v2, v3', hbl]
end Go.Proofs.Ytkfccjbihcbmiaa.Fw


set_option linter.unusedVariables false
set_option linter.unusedSimpArgs false
namespace Go.Proofs.Ytkfccjbihcbmiaa.Fw
open Go.RowKit
theorem encQ_read : ∀ {qs : List Qu} {w : Wr} {acc : List Qu}, (∀ q ∈ qs, qOk q = true) → WInv w → (∃ x, (encQ qs w).b = w.b ++ x) ∧ WInv (encQ qs w) ∧ ∀ y, rdQs ((encQ qs w).b ++ y) qs.length acc w.b.length = .ok (acc ++ qs, (encQ qs w).b.length)
  | [], w, acc, _, hw => ⟨⟨[], by simp [encQ]⟩, hw, fun y => by simp [encQ, rdQs]⟩
  | q :: qs, w, acc, hq, hw => by
    have h0 := hq q (by simp)
    rw [qOk, twoB_two] at h0
    simp only [Bool.and_eq_true, shB, decide_eq_true_eq] at h0
    obtain ⟨h1, h2, h3⟩ := h0
    obtain ⟨c1, c2⟩ := canN_nm h1
    obtain ⟨⟨x, hx⟩, hA, hI⟩ := wr_name c1 hw
    have hI2 : WInv (wrQ q w) := hI.app _
    have hqb : (wrQ q w).b = (wrName (labN q.nm) w).b ++ (two q.ty ++ two q.cs) := by simp [wrQ]
    obtain ⟨⟨z, hz⟩, hI3, hR⟩ := encQ_read (qs := qs) (w := wrQ q w) (acc := acc ++ [q]) (fun a ha => hq a (by simp [ha])) hI2
    have he : encQ (q :: qs) w = encQ qs (wrQ q w) := rfl
    refine ⟨⟨x ++ (two q.ty ++ two q.cs) ++ z, by rw [he, hz, hqb, hx]; simp⟩, hI3, fun y => ?_⟩
    rw [he]
    obtain ⟨F, hF⟩ : ∃ F, F = (encQ qs (wrQ q w)).b ++ y := ⟨_, rfl⟩
    have hR' := hR y
    rw [← hF] at hR' ⊢
    have hFn : F = (wrName (labN q.nm) w).b ++ (two q.ty ++ (two q.cs ++ (z ++ y))) := by rw [hF, hz, hqb]; simp
    have hle := hA.le
    have hFl := congrArg List.length hFn
    simp only [List.length_append] at hFl
    have l2 : ∀ n : Int, (two n).length = 2 := fun _ => rfl
    rw [l2, l2] at hFl
    have ha : rdN F 20 w.b.length w.b.length F.length none [] = .ok (q.nm, (wrName (labN q.nm) w).b.length) := by
      have h3 : At F w.b.length w.b.length (labN q.nm) (wrName (labN q.nm) w).b.length := by rw [hFn]; exact hA.ext _
      have h4 := h3.read (sh := 20) (li := F.length) (bh := none) (n := []) (by omega) (Nat.le_refl _) (by rw [List.nil_append]; exact c1.2)
      rw [h4, List.nil_append, c2]; rfl
    have n0 : bN F (wrName (labN q.nm) w).b.length 2 = nV (two q.ty) := by rw [hFn]; exact bN_mid rfl rfl
    have n1 : bN F ((wrName (labN q.nm) w).b.length + 2) 2 = nV (two q.cs) := by
      rw [hFn, ← List.append_assoc]; exact bN_mid (by rw [List.length_append]; rfl) rfl
    have v0 := nV_two h2
    have v1 := nV_two h3
    rw [← n0] at v0
    rw [← n1] at v1
    rw [List.length_cons, rdQs_ok ha (by dsimp only; omega)]
    dsimp only
    rw [v0, v1]
    have hl : (wrName (labN q.nm) w).b.length + 4 = (wrQ q w).b.length := by rw [hqb]; simp only [List.length_append]; rw [l2, l2]
    rw [hl, hR']
    simp
theorem encR_no : ∀ {l : List Rr} {p : Wr × Bool}, p.2 = false → (encR l p).2 = false
  | [], p, h => h
  | r :: l, p, h => by
    show (encR l (stepR p r)).2 = false
    exact encR_no (by rw [stepR, if_neg (by simp [h])]; exact h)
theorem encR_read : ∀ {rs : List Rr} {w : Wr} {acc : List Rr}, (∀ r ∈ rs, rOk r = true) → WInv w → (encR rs (w, true)).2 = true → (∃ x, (encR rs (w, true)).1.b = w.b ++ x) ∧ WInv (encR rs (w, true)).1 ∧ ∀ y, rdRs ((encR rs (w, true)).1.b ++ y) rs.length acc w.b.length = .ok (acc ++ rs, (encR rs (w, true)).1.b.length)
  | [], w, acc, _, hw, _ => ⟨⟨[], by simp [encR]⟩, hw, fun y => by simp [encR, rdRs]⟩
  | r :: rs, w, acc, hr, hw, ht => by
    have he : encR (r :: rs) (w, true) = encR rs (wrRec r w, wrOk r w && decide (((wrRec r w).b.length : Int) ≤ 65535)) := rfl
    have hb : (wrOk r w && decide (((wrRec r w).b.length : Int) ≤ 65535)) = true := by
      cases hq : (wrOk r w && decide (((wrRec r w).b.length : Int) ≤ 65535)) with
      | true => rfl
      | false =>
        have h1 := encR_no (l := rs) (p := (wrRec r w, wrOk r w && decide (((wrRec r w).b.length : Int) ≤ 65535))) hq
        rw [← he, ht] at h1
        cases h1
    rw [hb] at he
    rw [he] at ht
    have ho : wrOk r w = true := by simp only [Bool.and_eq_true] at hb; exact hb.1
    obtain ⟨⟨x, hx⟩, hI, hR0⟩ := wr_rec (hr r (by simp)) hw ho
    obtain ⟨⟨z, hz⟩, hI2, hR⟩ := encR_read (rs := rs) (w := wrRec r w) (acc := acc ++ [r]) (fun a ha => hr a (by simp [ha])) hI ht
    refine ⟨⟨x ++ z, by rw [he, hz, hx, List.append_assoc]⟩, by rw [he]; exact hI2, fun y => ?_⟩
    have h1 := hR0 (z ++ y)
    rw [← List.append_assoc, ← hz] at h1
    rw [he, List.length_cons, rdRs_ok h1]
    dsimp only
    rw [hR y]
    simp
theorem encR_app (a b : List Rr) (p : Wr × Bool) : encR (a ++ b) p = encR b (encR a p) := by simp [encR, List.foldl_append]
theorem encR_le : ∀ {rs : List Rr} {w : Wr}, (w.b.length : Int) ≤ 65535 → (encR rs (w, true)).2 = true → ((encR rs (w, true)).1.b.length : Int) ≤ 65535
  | [], w, h, _ => h
  | r :: rs, w, h, ht => by
    have he : encR (r :: rs) (w, true) = encR rs (wrRec r w, wrOk r w && decide (((wrRec r w).b.length : Int) ≤ 65535)) := rfl
    have hb : (wrOk r w && decide (((wrRec r w).b.length : Int) ≤ 65535)) = true := by
      cases hq : (wrOk r w && decide (((wrRec r w).b.length : Int) ≤ 65535)) with
      | true => rfl
      | false =>
        have h1 := encR_no (l := rs) (p := (wrRec r w, wrOk r w && decide (((wrRec r w).b.length : Int) ≤ 65535))) hq
        rw [← he, ht] at h1
        cases h1
    rw [hb] at he
    rw [he] at ht ⊢
    exact encR_le (by simp only [Bool.and_eq_true, decide_eq_true_eq] at hb; exact hb.2) ht
theorem enc_parts {m : Msg} (h : encE m = 0) : canM m = true ∧ (encW m).2 = true ∧ encB m = (encW m).1.b := by
  unfold encE at h
  split at h
  · rename_i hc
    split at h
    · rename_i hw; exact ⟨hc, hw, by rw [encB, if_pos hc, if_pos hw]⟩
    · cases h
  · cases h
theorem dec_enc {m : Msg} (h : encE m = 0) : rdM (encB m) = .ok m ∧ 12 ≤ (encB m).length ∧ (encB m).length ≤ 65535 := by
  obtain ⟨hc, hw, hb⟩ := enc_parts h
  obtain ⟨p1, p2, p3⟩ := canM_parts hc
  obtain ⟨k1, k2, k3, k4⟩ := hdO_counts p1
  have hI0 : WInv (hdW m) := fun k a hk => by cases hk
  have h0b : (hdW m).b = (toHd m.h).bytes m.qs.length m.an.length m.au.length m.ad.length := hB_yes p1
  have h0l : (hdW m).b.length = 12 := by rw [h0b, Hd.bytes_length]
  obtain ⟨⟨x1, hx1⟩, hI1, hR1⟩ := encQ_read (qs := m.qs) (w := hdW m) (acc := []) p2 hI0
  obtain ⟨w1, hw1⟩ : ∃ w1, w1 = encQ m.qs (hdW m) := ⟨_, rfl⟩
  rw [← hw1] at hx1 hI1 hR1
  have hq : decide ((w1.b.length : Int) ≤ 65535) = true := by
    cases hq : decide ((w1.b.length : Int) ≤ 65535) with
    | true => rfl
    | false =>
      have h1 := encR_no (l := m.rrs) (p := (w1, decide ((w1.b.length : Int) ≤ 65535))) hq
      rw [encW, ← hw1] at hw
      rw [hw] at h1; cases h1
  have hW : encW m = encR m.ad (encR m.au (encR m.an (w1, true))) := by
    rw [encW, ← hw1, hq, Msg.rrs, encR_app, encR_app]
  have hle := encR_le (rs := m.rrs) (w := w1) (of_decide_eq_true hq) (by rw [encW, ← hw1, hq] at hw; exact hw)
  have hW' : encW m = encR m.rrs (w1, true) := by rw [encW, ← hw1, hq]
  rw [← hW'] at hle
  have g3 : ∀ r ∈ m.an ++ m.au ++ m.ad, rOk r = true := p3
  simp only [List.mem_append] at g3
  rw [hW] at hw
  have f1 : (encR m.an (w1, true)).2 = true := by
    cases hz : (encR m.an (w1, true)).2 with
    | true => rfl
    | false => have := encR_no (l := m.ad) (encR_no (l := m.au) hz); rw [hw] at this; cases this
  obtain ⟨⟨x2, hx2⟩, hI2, hR2⟩ := encR_read (rs := m.an) (w := w1) (acc := []) (fun r hr => g3 r (.inl (.inl hr))) hI1 f1
  obtain ⟨w2, hw2⟩ : ∃ w2, w2 = (encR m.an (w1, true)).1 := ⟨_, rfl⟩
  have e2 : encR m.an (w1, true) = (w2, true) := Prod.ext hw2.symm f1
  rw [← hw2] at hx2 hI2 hR2
  rw [e2] at hw hW
  have f2 : (encR m.au (w2, true)).2 = true := by
    cases hz : (encR m.au (w2, true)).2 with
    | true => rfl
    | false => have := encR_no (l := m.ad) hz; rw [hw] at this; cases this
  obtain ⟨⟨x3, hx3⟩, hI3, hR3⟩ := encR_read (rs := m.au) (w := w2) (acc := []) (fun r hr => g3 r (.inl (.inr hr))) hI2 f2
  obtain ⟨w3, hw3⟩ : ∃ w3, w3 = (encR m.au (w2, true)).1 := ⟨_, rfl⟩
  have e3 : encR m.au (w2, true) = (w3, true) := Prod.ext hw3.symm f2
  rw [← hw3] at hx3 hI3 hR3
  rw [e3] at hw hW
  obtain ⟨⟨x4, hx4⟩, hI4, hR4⟩ := encR_read (rs := m.ad) (w := w3) (acc := []) (fun r hr => g3 r (.inr hr)) hI3 hw
  rw [← hW] at hx4 hI4 hR4
  rw [← hb] at hx4 hR4
  obtain ⟨F, hF⟩ : ∃ F, F = encB m := ⟨_, rfl⟩
  rw [← hF] at hx4 hR4 ⊢
  have hl : F.length ≤ 65535 := by rw [hF, hb]; omega
  have hF3 : F = w3.b ++ x4 := hx4
  have hF2 : F = w2.b ++ (x3 ++ x4) := by rw [hF3, hx3, List.append_assoc]
  have hF1 : F = w1.b ++ (x2 ++ x3 ++ x4) := by rw [hF2, hx2]; simp
  have hF0 : F = (toHd m.h).bytes m.qs.length m.an.length m.au.length m.ad.length ++ (x1 ++ x2 ++ x3 ++ x4) := by rw [hF1, hx1, h0b]; simp
  have q1 := hR1 (x2 ++ x3 ++ x4)
  rw [← hF1, h0l] at q1
  have q2 := hR2 (x3 ++ x4)
  rw [← hF2] at q2
  have q3 := hR3 x4
  rw [← hF3] at q3
  have q4 := hR4 []
  rw [List.append_nil] at q4
  have hE0 : dE F = 0 := by rw [hF0]; exact back_E p1 _
  have hH : dH F = toHd m.h := by rw [hF0]; exact back_H p1 _
  obtain ⟨a2, a3, a4, a5⟩ : dC F 2 = m.qs.length ∧ dC F 3 = m.an.length ∧ dC F 4 = m.au.length ∧ dC F 5 = m.ad.length := by rw [hF0]; exact back_C p1 _
  have b2 : cN F 2 = m.qs.length := by rw [cN, a2]; rfl
  have b3 : cN F 3 = m.an.length := by rw [cN, a3]; rfl
  have b4 : cN F 4 = m.au.length := by rw [cN, a4]; rfl
  have b5 : cN F 5 = m.ad.length := by rw [cN, a5]; rfl
  refine ⟨?_, by rw [hF0, List.length_append, Hd.bytes_length]; omega, hl⟩
  rw [rdM_q (by omega) hE0, b2, b3, b4, b5, bindE_ok q1]
  dsimp only
  rw [bindE_ok q2]
  dsimp only
  rw [bindE_ok q3]
  dsimp only
  rw [bindE_ok q4, if_pos rfl]
  have hM : hdM F = m.h := by rw [hdM, hH]; rfl
  rw [hM]
  rfl
end Go.Proofs.Ytkfccjbihcbmiaa.Fw


set_option linter.unusedVariables false
set_option linter.unusedSimpArgs false
namespace Go.Proofs.Ytkfccjbihcbmiaa.Fw
open Go.RowKit
theorem rdN_nz {b : List UInt8} {sh : Int} (hs : sh ≠ 0) : ∀ (p fi li : Nat) (bh : Option Nat) (n : List UInt8), ∀ {e : Int}, rdN b sh p fi li bh n = .error e → e ≠ 0 := by
  intro p fi li bh n
  induction p, fi, li, bh, n using rdN.induct b with
  | case1 p fi li bh n h => intro e k; rw [rdN_short h] at k; cases k; exact hs
  | case2 p fi li bh n h h1 h2 => intro e k; rw [rdN_end h h1 h2] at k; cases k
  | case3 p fi li bh n h h1 h2 => intro e k; rw [rdN_long0 h h1 h2] at k; cases k; decide
  | case4 p fi li bh n h h1 h2 h3 => intro e k; rw [rdN_pshort h h2 h3] at k; cases k; exact hs
  | case5 p fi li bh n h h1 h2 h3 h4 ih => intro e k; rw [rdN_ptr h h2 h3 h4] at k; exact ih k
  | case6 p fi li bh n h h1 h2 h3 h4 => intro e k; rw [rdN_pbad h h2 h3 h4] at k; cases k; decide
  | case7 p fi li bh n h h1 h2 h3 => intro e k; rw [rdN_label h h3 h2] at k; cases k; decide
  | case8 p fi li bh n h h1 h2 h3 h4 => intro e k; rw [rdN_lshort h h1 h3 h4] at k; cases k; exact hs
  | case9 p fi li bh n h h1 h2 h3 h4 h5 ih => intro e k; rw [rdN_lab h h1 h3 h4 h5] at k; exact ih k
  | case10 p fi li bh n h h1 h2 h3 h4 h5 => intro e k; rw [rdN_llong h h1 h3 h4 h5] at k; cases k; decide
theorem rdNs_nz {b : List UInt8} {en : Nat} : ∀ (k : Nat) (acc : List UInt8) (p : Nat) {e : Int}, rdNs b en k acc p = .error e → e ≠ 0
  | 0, acc, p, e, h => by cases h
  | k + 1, acc, p, e, h => by
    cases h1 : rdN b 30 p p en none [] with
    | error x => rw [rdNs_err h1] at h; cases h; exact rdN_nz (by decide) _ _ _ _ _ h1
    | ok a => rw [rdNs_ok h1] at h; exact rdNs_nz k _ _ h
theorem rdD_nz {b : List UInt8} {t : Int} {p en : Nat} {e : Int} (h : rdD b t p en = .error e) : e ≠ 0 := by
  unfold rdD at h
  split at h
  · cases h; decide
  · cases h1 : rdNs b en (nCnt t) (if t = 15 then (b.take (p + 2)).drop p else []) (if t = 15 then p + 2 else p) with
    | error x => rw [h1] at h; cases h; exact rdNs_nz _ _ _ h1
    | ok a =>
      rw [h1, rdO] at h
      split at h
      · cases h
      · cases h; decide
theorem rdR_nz {b : List UInt8} {p : Nat} {e : Int} (h : rdR b p = .error e) : e ≠ 0 := by
  unfold rdR at h
  cases h1 : rdN b 20 p p b.length none [] with
  | error x => rw [h1] at h; cases h; exact rdN_nz (by decide) _ _ _ _ _ h1
  | ok a =>
    rw [h1, rdR1] at h
    split at h
    · cases h; decide
    · cases h2 : rdD b (bN b a.2 2) (a.2 + 10) (a.2 + 10 + bN b (a.2 + 8) 2) with
      | error x => rw [h2] at h; cases h; exact rdD_nz h2
      | ok d => rw [h2] at h; cases h
theorem rdRs_nz {b : List UInt8} : ∀ (k : Nat) (acc : List Rr) (p : Nat) {e : Int}, rdRs b k acc p = .error e → e ≠ 0
  | 0, acc, p, e, h => by cases h
  | k + 1, acc, p, e, h => by
    cases h1 : rdR b p with
    | error x => rw [rdRs_err h1] at h; cases h; exact rdR_nz h1
    | ok a => rw [rdRs_ok h1] at h; exact rdRs_nz k _ _ h
theorem rdQs_nz {b : List UInt8} : ∀ (k : Nat) (acc : List Qu) (p : Nat) {e : Int}, rdQs b k acc p = .error e → e ≠ 0
  | 0, acc, p, e, h => by cases h
  | k + 1, acc, p, e, h => by
    cases h1 : rdN b 20 p p b.length none [] with
    | error x => rw [rdQs_err h1] at h; cases h; exact rdN_nz (by decide) _ _ _ _ _ h1
    | ok a =>
      by_cases h2 : b.length < a.2 + 4
      · rw [rdQs_bad h1 h2] at h; cases h; decide
      · rw [rdQs_ok h1 h2] at h; exact rdQs_nz k _ _ h
theorem rdM_nz {b : List UInt8} {e : Int} (h : rdM b = .error e) : e ≠ 0 := by
  by_cases h1 : 65535 < b.length
  · rw [rdM, if_pos h1] at h; cases h; decide
  by_cases h2 : dE b = 0
  · rw [rdM_q h1 h2] at h
    cases e1 : rdQs b (cN b 2) [] 12 with
    | error x => rw [bindE_err e1] at h; cases h; exact rdQs_nz _ _ _ e1
    | ok q =>
      rw [bindE_ok e1] at h
      cases e2 : rdRs b (cN b 3) [] q.2 with
      | error x => rw [bindE_err e2] at h; cases h; exact rdRs_nz _ _ _ e2
      | ok x =>
        rw [bindE_ok e2] at h
        cases e3 : rdRs b (cN b 4) [] x.2 with
        | error x => rw [bindE_err e3] at h; cases h; exact rdRs_nz _ _ _ e3
        | ok z =>
          rw [bindE_ok e3] at h
          cases e4 : rdRs b (cN b 5) [] z.2 with
          | error x => rw [bindE_err e4] at h; cases h; exact rdRs_nz _ _ _ e4
          | ok w =>
            rw [bindE_ok e4] at h
            split at h
            · cases h
            · cases h; decide
  · rw [rdM, if_neg h1, if_pos h2] at h; cases h; exact h2
section
variable {b : List UInt8} (y : List UInt8)
theorem rdM_parts {m : Msg} (h : rdM b = .ok m) : ¬ 65535 < b.length ∧ dE b = 0 ∧ ∃ q x z w, rdQs b (cN b 2) [] 12 = .ok q ∧ rdRs b (cN b 3) [] q.2 = .ok x ∧ rdRs b (cN b 4) [] x.2 = .ok z ∧ rdRs b (cN b 5) [] z.2 = .ok w ∧ w.2 = b.length ∧ m = ⟨hdM b, q.1, x.1, z.1, w.1⟩ := by
  by_cases h1 : 65535 < b.length
  · rw [rdM, if_pos h1] at h; cases h
  by_cases h2 : dE b = 0
  · rw [rdM_q h1 h2] at h
    refine ⟨h1, h2, ?_⟩
    cases e1 : rdQs b (cN b 2) [] 12 with
    | error e => rw [bindE_err e1] at h; cases h
    | ok q =>
      rw [bindE_ok e1] at h
      cases e2 : rdRs b (cN b 3) [] q.2 with
      | error e => rw [bindE_err e2] at h; cases h
      | ok x =>
        rw [bindE_ok e2] at h
        cases e3 : rdRs b (cN b 4) [] x.2 with
        | error e => rw [bindE_err e3] at h; cases h
        | ok z =>
          rw [bindE_ok e3] at h
          cases e4 : rdRs b (cN b 5) [] z.2 with
          | error e => rw [bindE_err e4] at h; cases h
          | ok w =>
            rw [bindE_ok e4] at h
            split at h
            · rename_i hw; exact ⟨q, x, z, w, rfl, e2, e3, e4, hw, by cases h; rfl⟩
            · cases h
  · rw [rdM, if_neg h1, if_pos h2] at h; cases h
end
end Go.Proofs.Ytkfccjbihcbmiaa.Fw


set_option linter.unusedVariables false
set_option linter.unusedSimpArgs false
namespace Go.Proofs.Ytkfccjbihcbmiaa.Fw
open Go.RowKit
theorem dH_can {b : List UInt8} (h : dE b = 0) : (dH b).can (dC b 2) (dC b 3) (dC b 4) (dC b 5) := by
  rw [dH_ok h, dC_ok h, dC_ok h, dC_ok h, dC_ok h]
  have h0 := num_lt b 0
  have h1 := num_lt b 1
  have h2 := num_lt b 2
  have h3 := num_lt b 3
  have h4 := num_lt b 4
  have h5 := num_lt b 5
  simp only [Hd.can]
  omega
theorem rdR_can {b : List UInt8} {p : Nat} {x : Rr × Nat} (h : rdR b p = .ok x) : rOk x.1 = true := by
  cases h1 : rdN b 20 p p b.length none [] with
  | error e => rw [rdR, h1] at h; cases h
  | ok a =>
    have hn := rdN_can h1 (Nat.le_refl _)
    by_cases hb : b.length < a.2 + 10 ∨ b.length < a.2 + 10 + bN b (a.2 + 8) 2
    · rw [rdR_bad h1 hb] at h; cases h
    · rw [rdR_go h1 (fun k => hb (.inl k)) (fun k => hb (.inr k))] at h
      cases h2 : rdD b (bN b a.2 2) (a.2 + 10) (a.2 + 10 + bN b (a.2 + 8) 2) with
      | error e => rw [h2] at h; cases h
      | ok d =>
        rw [h2, rdR2] at h
        cases h
        have hd : canS (bN b a.2 2) d = true := by
          unfold rdD at h2
          split at h2
          · cases h2
          · cases h3 : rdNs b (a.2 + 10 + bN b (a.2 + 8) 2) (nCnt (bN b a.2 2)) (if ((bN b a.2 2 : Nat) : Int) = 15 then (b.take (a.2 + 10 + 2)).drop (a.2 + 10) else []) (if ((bN b a.2 2 : Nat) : Int) = 15 then a.2 + 10 + 2 else a.2 + 10) with
            | error e => rw [h3] at h2; cases h2
            | ok c =>
              rw [h3, rdO] at h2
              split at h2
              · rename_i hc; cases h2; exact hc
              · cases h2
        have k1 := bN_lt2 (b := b) (i := a.2)
        have k2 := bN_lt2 (b := b) (i := a.2 + 2)
        have k3 := bN_lt (b := b) (i := a.2 + 4) (w := 4) (by omega)
        simp only [rOk, twoB_two, hn, hd, shB, Bool.and_true, Bool.true_and, Bool.and_eq_true, decide_eq_true_eq, Bool.not_eq_true', decide_eq_false_iff_not]
        omega
theorem rdRs_can {b : List UInt8} : ∀ {k : Nat} {acc : List Rr} {p : Nat} {r : List Rr × Nat}, rdRs b k acc p = .ok r → (∀ q ∈ acc, rOk q = true) → (∀ q ∈ r.1, rOk q = true) ∧ r.1.length = acc.length + k
  | 0, acc, p, r, h, ha => by cases h; exact ⟨ha, rfl⟩
  | k + 1, acc, p, r, h, ha => by
    cases h1 : rdR b p with
    | error e => rw [rdRs_err h1] at h; cases h
    | ok a =>
      rw [rdRs_ok h1] at h
      obtain ⟨g1, g2⟩ := rdRs_can h (by
        intro q hq
        rcases List.mem_append.1 hq with hq | hq
        · exact ha q hq
        · obtain rfl := List.mem_singleton.1 hq; exact rdR_can h1)
      exact ⟨g1, by rw [g2, List.length_append]; simp; omega⟩
theorem rdQs_can {b : List UInt8} : ∀ {k : Nat} {acc : List Qu} {p : Nat} {r : List Qu × Nat}, rdQs b k acc p = .ok r → (∀ q ∈ acc, qOk q = true) → (∀ q ∈ r.1, qOk q = true) ∧ r.1.length = acc.length + k
  | 0, acc, p, r, h, ha => by cases h; exact ⟨ha, rfl⟩
  | k + 1, acc, p, r, h, ha => by
    cases h1 : rdN b 20 p p b.length none [] with
    | error e => rw [rdQs_err h1] at h; cases h
    | ok a =>
      by_cases hb : b.length < a.2 + 4
      · rw [rdQs_bad h1 hb] at h; cases h
      · rw [rdQs_ok h1 hb] at h
        obtain ⟨g1, g2⟩ := rdQs_can h (by
          intro q hq
          rcases List.mem_append.1 hq with hq | hq
          · exact ha q hq
          · obtain rfl := List.mem_singleton.1 hq
            have hn := rdN_can h1 (Nat.le_refl _)
            have k1 := bN_lt2 (b := b) (i := a.2)
            have k2 := bN_lt2 (b := b) (i := a.2 + 2)
            simp only [qOk, twoB_two, hn, shB, Bool.true_and, Bool.and_eq_true, decide_eq_true_eq]
            omega)
        exact ⟨g1, by rw [g2, List.length_append]; simp; omega⟩
theorem rdM_can {b : List UInt8} {m : Msg} (h : rdM b = .ok m) : canM m = true := by
  obtain ⟨h1, h2, q, x, z, w, e1, e2, e3, e4, e5, rfl⟩ := rdM_parts h
  obtain ⟨a1, a2⟩ := rdQs_can e1 (by simp)
  obtain ⟨b1, b2⟩ := rdRs_can e2 (by simp)
  obtain ⟨c1, c2⟩ := rdRs_can e3 (by simp)
  obtain ⟨d1, d2⟩ := rdRs_can e4 (by simp)
  have hd : hdO ⟨hdM b, q.1, x.1, z.1, w.1⟩ := by
    have hc := dH_can h2
    rw [(cN_eq b 2).1, (cN_eq b 3).1, (cN_eq b 4).1, (cN_eq b 5).1] at hc
    show (toHd (hdM b)).can q.1.length x.1.length z.1.length w.1.length
    rw [a2, b2, c2, d2]
    simp only [List.length_nil, Nat.zero_add]
    exact hc
  rw [canM, any_nall, any_nall, decide_eq_true hd, Bool.true_and, Bool.and_eq_true, List.all_eq_true, List.all_eq_true]
  refine ⟨a1, fun r hr => ?_⟩
  simp only [Msg.rrs, List.mem_append] at hr
  rcases hr with (hr | hr) | hr
  · exact b1 r hr
  · exact c1 r hr
  · exact d1 r hr
theorem canN_le {n : List UInt8} (h : canN n = true) : n.length ≤ 255 := by
  obtain ⟨c1, c2⟩ := canN_nm h
  rw [← c2]; exact c1.2
theorem canM_ok {m : Msg} (h : canM m = true) : MsgOk m ∧ NmOk m := by
  obtain ⟨p1, p2, p3⟩ := canM_parts h
  obtain ⟨k1, k2, k3, k4⟩ := hdO_counts p1
  have hr : ∀ r ∈ m.rrs, r.nm.length ≤ 255 ∧ r.da.length ≤ 65535 := fun r hr => by
    obtain ⟨⟨⟨⟨r1, r2⟩, r3⟩, r4⟩, r5⟩ : (((canN r.nm = true ∧ twoB [r.ty, r.cs] = true) ∧ 0 ≤ r.ttl) ∧ r.ttl < 4294967296) ∧ canS r.ty r.da = true := by simpa [rOk] using p3 r hr
    exact ⟨canN_le r1, (data_ok r5).1⟩
  have hm : ∀ r, (r ∈ m.an ∨ r ∈ m.au) ∨ r ∈ m.ad → r ∈ m.rrs := fun r hr => by simp only [Msg.rrs, List.mem_append]; exact hr
  refine ⟨⟨by omega, ⟨by omega, fun r h => ?_⟩, ⟨by omega, fun r h => ?_⟩, ⟨by omega, fun r h => ?_⟩⟩, fun q hq => ?_, fun r h => ?_⟩
  · have := (hr r (hm r (.inl (.inl h)))).2; omega
  · have := (hr r (hm r (.inl (.inr h)))).2; omega
  · have := (hr r (hm r (.inr h))).2; omega
  · have h0 := p2 q hq
    rw [qOk, Bool.and_eq_true] at h0
    have := canN_le h0.1; omega
  · have := (hr r h).1; omega
theorem again {b : List UInt8} (h : decE b = 0) : canM (decM b) = true ∧ MsgOk (decM b) ∧ NmOk (decM b) ∧ (encE (decM b) = 42 ∨ encE (decM b) = 0 ∧ decM (encB (decM b)) = decM b ∧ decE (encB (decM b)) = 0) := by
  cases h1 : rdM b with
  | error e => have h2 : decE b = e := by rw [decE, h1]
               exact absurd (h2.symm.trans h) (rdM_nz h1)
  | ok m =>
    have hm : decM b = m := by rw [decM, h1]
    rw [hm]
    have hc := rdM_can h1
    refine ⟨hc, (canM_ok hc).1, (canM_ok hc).2, ?_⟩
    by_cases hw : (encW m).2 = true
    · have he : encE m = 0 := by rw [encE, if_pos hc, if_pos hw]
      have hd := (dec_enc he).1
      exact .inr ⟨he, by rw [decM, hd], by rw [decE, hd]⟩
    · exact .inl (by rw [encE, if_pos hc, if_neg hw])
end Go.Proofs.Ytkfccjbihcbmiaa.Fw


set_option linter.unusedVariables false
set_option linter.unusedSimpArgs false
namespace Go.Proofs.Ytkfccjbihcbmiaa.Fw
open Go.RowKit
def aM : Msg := ⟨⟨7, false, 0, false, false, false, false, 0⟩, [], [], [], []⟩
def aB : List UInt8 := [0, 7, 0, 0, 0, 0, 0, 0, 0, 0, 0, 0]
theorem aM_ok : MsgOk aM ∧ NmOk aM := by
  refine ⟨⟨by decide, ⟨by decide, by simp [aM]⟩, ⟨by decide, by simp [aM]⟩, ⟨by decide, by simp [aM]⟩⟩, by simp [aM], by simp [aM, Msg.rrs]⟩
theorem aM_enc : encB aM = aB ∧ encE aM = 0 := by decide +kernel
theorem aM_dec : decE aB = 0 ∧ (decM aB).h.id = 7 := by decide +kernel
set_option maxRecDepth 20000 in
set_option maxHeartbeats 2000000 in
theorem c_ciceronelaw04_awake  : AC Try.prog 14 [] emp (Ret (tf true)) := by
 refine AC.intro te_ok (fn := Try.f14) ⟨Try.func14, rfl, rfl⟩ (Nat.le_of_ble_eq_true rfl) ?_
 refine AWp.seq ?_
 refine AWp.region ?_
 refine AOps.cons rfl rfl (q_assign) ?_
 refine AOps.nil ?_
 refine AWp.seq ?_
 refine AWp.region ?_
 refine AOps.cons rfl rfl (q_build [(_, _)]) ?_
 refine AOps.cons rfl rfl (q_build [(_, _)]) ?_
 refine AOps.cons rfl rfl (q_call (0) (hA := by exact ⟨fv_agg ⟨fv_okb rfl rfl, fv_okb rfl rfl, fv_okb rfl rfl, fv_okb rfl rfl, fv_okb rfl rfl, fv_okb rfl rfl, fv_okb rfl rfl, fv_okb rfl rfl, fv_nilz, fv_nilz, fv_nilz, fv_nilz, trivial⟩, trivial⟩) (hc := (c_wire_Encode aM aM_ok.1 aM_ok.2))) ?_
 refine AOps.cons rfl rfl (q_move) ?_
 refine AOps.cons rfl rfl (q_extract) ?_
 refine AOps.cons rfl rfl (q_extract) ?_
 refine AOps.cons rfl rfl (q_assign) ?_
 refine AOps.cons rfl rfl (q_assign) ?_
 refine AOps.nil ?_
 refine AWp.seq ?_
 refine AWp.region ?_
 rw [aM_enc.1, aM_enc.2]
 refine AOps.cons rfl rfl (q_move) ?_
 refine AOps.cons rfl rfl (q_call (0) (hc := (c_Decode aB (by decide)))) ?_
 refine AOps.cons rfl rfl (q_move) ?_
 refine AOps.cons rfl rfl (q_extract) ?_
 refine AOps.cons rfl rfl (q_extract) ?_
 refine AOps.cons rfl rfl (q_alloc 305) ?_
 refine AOps.cons rfl rfl (q_store) ?_
 refine AOps.cons rfl rfl (q_assign) ?_
 refine AOps.nil ?_
 refine AWp.seq ?_
 refine AWp.region ?_
 rw [aM_dec.1]
 refine AOps.cons rfl rfl (q_move) ?_
 refine AOps.dec rfl rfl (q_eql) (fun h3_1 => ?_) (fun h3_1 => ?_)
 ·
  refine AOps.cons rfl rfl (q_move) ?_
  refine AOps.gcons rfl rfl rfl rfl rfl (q_move) ?_
  refine AOps.gdec rfl rfl rfl rfl rfl (q_eql) (fun h3_4 => ?_) (fun h3_4 => ?_)
  ·
   refine AOps.cons rfl rfl (q_pick) ?_
   refine AOps.cons rfl rfl (q_move) ?_
   refine AOps.gcons rfl rfl rfl rfl rfl (q_move) ?_
   refine AOps.gcons rfl rfl rfl rfl rfl (q_len) ?_
   refine AOps.gdec rfl rfl rfl rfl rfl (q_eql) (fun h3_9 => ?_) (fun h3_9 => ?_)
   ·
    refine AOps.cons rfl rfl (q_pick) ?_
    refine AOps.cons rfl rfl (q_move) ?_
    refine AOps.gcons rfl rfl rfl rfl rfl (q_fa) ?_
    refine AOps.gcons rfl rfl rfl rfl rfl (q_fa) ?_
    refine AOps.gcons rfl rfl rfl rfl rfl (q_load) ?_
    refine AOps.gcons rfl rfl rfl rfl rfl ((OpOk.dec_t (q_eql) (aM_dec.2))) ?_
    refine AOps.cons rfl rfl (q_pick) ?_
    refine AOps.cons rfl rfl (q_assign) ?_
    refine AOps.nil ?_
    refine AWp.ret ?_
    show Fin te Try.f14 _ _
    refine q_ret (0) [_] [_] ?_
    rfl
   ·
    exfalso; first | exact h3_9 rfl | omega | (rw [eqV_same rfl] at h3_9; cases h3_9) | (simp at h3_9; done) | (simp_all; done)
  ·
   exfalso; first | exact h3_4 rfl | omega | (rw [eqV_same rfl] at h3_4; cases h3_4) | (simp at h3_4; done) | (simp_all; done)
 ·
  exfalso; first | exact h3_1 rfl | omega | (rw [eqV_same rfl] at h3_1; cases h3_1) | (simp at h3_1; done) | (simp_all; done)
end Go.Proofs.Ytkfccjbihcbmiaa.Fw


set_option linter.unusedVariables false
set_option linter.unusedSimpArgs false
namespace Go.Proofs.Ytkfccjbihcbmiaa.Fw
open Go.RowKit
theorem lv_any {ρ : Nat → Bool} {σ : IdMap} {h : Heap} {lo hi : Nat} {a : AV} : LVal ρ σ h lo hi a .any := fun _ _ _ _ _ _ _ _ _ _ _ _ => .any
def rnE {α : Type} : Except Int α → Int
  | .error e => e
  | .ok _ => 0
def rnN : Except Int (List UInt8 × Nat) → List UInt8
  | .error _ => []
  | .ok a => a.1
def atE {α : Type} : Except Int (α × Nat) → AV
  | .error _ => .any
  | .ok a => i64 a.2
def liB (b : List UInt8) (en : Nat) (bh : Option Nat) : Nat := if bh.isSome then b.length else en
set_option maxRecDepth 20000 in
set_option maxHeartbeats 2000000 in
theorem c_rrdname (b : List UInt8) (p0 en : Nat) (hb : b.length ≤ 65535) (he : en ≤ b.length) (hp : p0 ≤ 100000) : AC Try.prog 73 [.ptr 0 0 0, i64 en] (hlook [(0, .box [.fz 0 b.length (cl bc b), i64 p0])]) (RetH (.tup [str (rnN (rdN b 20 p0 p0 en none [])), i64 (rnE (rdN b 20 p0 p0 en none []))]) [(0, .box [.fz 0 b.length (cl bc b), atE (rdN b 20 p0 p0 en none [])])]) := by
 refine AC.intro te_ok (fn := Try.f73) ⟨Try.func73, rfl, rfl⟩ (Nat.le_of_ble_eq_true rfl) ?_
 refine AWp.seq ?_
 refine AWp.region ?_
 refine AOps.cons rfl rfl (q_assign) ?_
 refine AOps.cons rfl rfl (q_assign) ?_
 refine AOps.nil ?_
 refine AWp.seq ?_
 refine AWp.region ?_
 refine AOps.cons rfl rfl (q_assign) ?_
 refine AOps.nil ?_
 refine AWp.seq ?_
 refine AWp.draws [⟨0, [0], [], some 13, _, []⟩,
     ⟨1, [13], [0], some 14, _, []⟩,
     ⟨2, [14], [0], some 15, _, []⟩,
     ⟨3, [15], [0], some 16, _, []⟩,
     ⟨4, [0], [], some 17, _, []⟩,
     ⟨5, [17], [0], some 18, _, []⟩,
     ⟨6, [18], [0], some 19, _, []⟩,
     ⟨7, [19], [0], some 20, _, []⟩,
     ⟨8, [16], [], some 7, _, []⟩,
     ⟨9, [20], [], some 8, _, []⟩,
     ⟨10, [], [], some 9, _, []⟩]
  [⟨0, [0], [], some 13, .any, []⟩,
      ⟨1, [13], [0], some 14, .any, []⟩,
      ⟨2, [14], [0], some 15, .any, []⟩,
      ⟨3, [15], [0], some 16, .any, []⟩,
      ⟨4, [0], [], some 17, .any, []⟩,
      ⟨5, [17], [0], some 18, .any, []⟩,
      ⟨6, [18], [0], some 19, .any, []⟩,
      ⟨7, [19], [0], some 20, .any, []⟩,
      ⟨8, [16], [], some 7, .any, []⟩,
      ⟨9, [20], [], some 8, .any, []⟩,
      ⟨10, [], [], some 9, .any, []⟩]
  mixed_ok rfl (by kernel_rfl) ⟨DS.ok_over fun s0 => OpAt.go rfl rfl (q_move),
      DS.ok_over fun s0 => OpAt.go rfl rfl (q_nil),
      DS.ok_over fun s0 => OpAt.go rfl rfl (q_fa),
      DS.ok_over fun s0 => OpAt.go rfl rfl (q_load),
      DS.ok_over fun s0 => OpAt.go rfl rfl (q_move),
      DS.ok_over fun s0 => OpAt.go rfl rfl (q_nil),
      DS.ok_over fun s0 => OpAt.go rfl rfl (q_fa),
      DS.ok_over fun s0 => OpAt.go rfl rfl (q_load),
      DS.ok_over fun s0 => OpAt.go rfl rfl (q_assign),
      DS.ok_over fun s0 => OpAt.go rfl rfl (q_assign),
      DS.ok_over fun s0 => OpAt.go rfl rfl (q_assign), trivial⟩ ?_
 dsimp only [final, DS.upd, AS.seto]
 refine AWp.block ?_
 refine AWp.loopR (α := Nat × Nat × Option Nat × List UInt8) [4, 5, 6, 7, 8, 9, 10, 11, 12, 21, 22, 23, 24, 25, 26, 27, 28, 29, 30, 31, 32, 33, 34, 35, 36, 37, 38, 39, 40, 41, 42, 43, 44, 45, 46, 47, 48, 49, 50, 51, 52, 53, 54, 55, 56, 57, 58, 59, 60, 61, 62, 63, 64, 65, 66, 67, 68, 69, 70, 71, 72, 73, 74, 75, 76, 77, 78, 79, 80, 81, 82, 83, 84, 85, 86, 87, 88, 89, 90, 91, 92, 93, 94, 95, 96, 97, 98, 99, 100, 101, 102, 103, 104, 105, 106, 107, 108, 109, 110, 111, 112, 113, 114, 115, 116] (fun x_ => [(7, i64 (x_.1)), (8, i64 (x_.2.1)), (9, tf (x_.2.2.1).isSome), (6, str (x_.2.2.2))]) (fun x_ => [(0, .box [.fz 0 b.length (cl bc b), i64 (((x_.2.2.1).getD p0 : Nat) : Int)])]) (fun x_ => rdN b 20 (x_.1) (x_.2.1) (liB b en (x_.2.2.1)) (x_.2.2.1) (x_.2.2.2) = rdN b 20 p0 p0 en none [] ∧ (x_.2.2.2).length < 255 ∧ (x_.1) ≤ 200000 ∧ (x_.2.1) ≤ 100000) (fun x_ => (x_.2.1) * (b.length + 1) + (liB b en (x_.2.2.1) - (x_.1))) (p0, p0, none, []) ?_ (Back.mk' (HasT.cons (HasT.cons (HasT.cons (HasT.cons HasT.nil)))) (HasH.cons HasH.nil)) ?_
 ·
  exact ⟨rfl, by show 0 < 255; decide, by show p0 ≤ _; omega, hp⟩
 ·
  rintro ⟨p, fi, bh, n⟩ hI3
  change rdN b 20 p fi (liB b en bh) bh n = rdN b 20 p0 p0 en none [] ∧ n.length < 255 ∧ p ≤ 200000 ∧ fi ≤ 100000 at hI3
  obtain ⟨hE, hN, hP, hF⟩ := hI3
  refine AWp.as (s' := AS.over _ [4, 5, 6, 7, 8, 9, 10, 11, 12, 21, 22, 23, 24, 25, 26, 27, 28, 29, 30, 31, 32, 33, 34, 35, 36, 37, 38, 39, 40, 41, 42, 43, 44, 45, 46, 47, 48, 49, 50, 51, 52, 53, 54, 55, 56, 57, 58, 59, 60, 61, 62, 63, 64, 65, 66, 67, 68, 69, 70, 71, 72, 73, 74, 75, 76, 77, 78, 79, 80, 81, 82, 83, 84, 85, 86, 87, 88, 89, 90, 91, 92, 93, 94, 95, 96, 97, 98, 99, 100, 101, 102, 103, 104, 105, 106, 107, 108, 109, 110, 111, 112, 113, 114, 115, 116] [(7, i64 p), (8, i64 fi), (9, tf bh.isSome), (6, str n)] [(0, .box [.fz 0 b.length (cl bc b), i64 ((bh.getD p0 : Nat) : Int)])]) rfl ?_
  have hk256 := kB_lt b p
  obtain ⟨li, hli0⟩ : ∃ li, li = liB b en bh := ⟨_, rfl⟩
  rw [← hli0] at hE
  refine AWp.block ?_
  refine AWp.seq ?_
  refine AWp.region ?_
  refine AOps.cons rfl rfl (q_move) ?_
  refine AOps.cons rfl rfl (q_assign) ?_
  refine AOps.nil ?_
  refine AWp.seq ?_
  refine AWp.seq ?_
  refine AWp.region ?_
  refine AOps.bool rfl rfl (q_move) (fun h4_0 => ?_) (fun h4_0 => ?_)
  ·
   refine AOps.nil ?_
   refine AWp.cond_t rfl ?_
   refine AWp.region ?_
   refine AOps.cons rfl rfl (q_move) ?_
   refine AOps.cons rfl rfl (q_nil) ?_
   refine AOps.cons rfl rfl (q_fa) ?_
   refine AOps.cons rfl rfl (q_load) ?_
   refine AOps.cons rfl rfl (q_len) ?_
   refine AOps.cons rfl rfl (q_assign) ?_
   refine AOps.nil ?_
   refine AWp.seq ?_
   refine AWp.seq ?_
   refine AWp.region ?_
   have hli : liB b en bh = b.length := by rw [liB, if_pos h4_0]
   have hL : li ≤ b.length := by omega
   have hle : b.length = li := by omega
   refine AOps.cons rfl rfl (q_move) ?_
   refine AOps.cons rfl rfl (q_move) ?_
   refine AOps.dec rfl rfl (q_geq) (fun h6_2 => ?_) (fun h6_2 => ?_)
   ·
    refine AOps.nil ?_
    refine AWp.cond_t rfl ?_
    refine AWp.seq ?_
    refine AWp.region ?_
    refine AOps.cons rfl rfl (q_assign) ?_
    refine AOps.cons rfl rfl (q_assign) ?_
    refine AOps.nil ?_
    refine AWp.ret ?_
    show Fin te Try.f73 _ _
    have hX := hE
    rw [rdN_short (by omega)] at hX
    rw [← hX]
    refine q_retH (0) [] [_, _] [_, _] [(_, _)] ?_ (hobj := by repeat' (first | exact trivial | exact lv_ok rfl | exact lv_sl rfl rfl | exact lv_rn rfl rfl .row rfl | exact lv_ptr rfl rfl | exact lv_mp rfl rfl | exact lv_nilz | exact lv_any | exact lv_row0 rfl rfl .row (fun _ => rfl) (Nat.le_of_ble_eq_true rfl) (fun _ => rfl) | exact lobj_row (fun _ => rfl) | exact lobj_rown (fun _ => rfl) | exact lobj_me (fun _ => rfl) | refine lobj_box ?_ | refine ⟨rfl, ⟨_, rfl, ?_⟩, ?_⟩ | refine ⟨?_, ?_⟩)) (h2 := by repeat' (first | exact trivial | exact lv_ok rfl | exact lv_ptr rfl rfl | exact lv_sl rfl rfl | exact lv_nilz | exact lv_row0 rfl rfl .row (fun _ => rfl) (Nat.le_of_ble_eq_true rfl) (fun _ => rfl) | refine lv_agg ?_ | exact lv_any | refine ⟨?_, ?_⟩))
    rfl
   ·
    refine AOps.nil ?_
    refine AWp.cond_f rfl ?_
    refine AWp.skip ?_
    refine AWp.seq ?_
    refine AWp.region ?_
    have g1 : ¬ li ≤ p := by omega
    refine AOps.cons rfl rfl (q_move) ?_
    refine AOps.cons rfl rfl (q_nil) ?_
    refine AOps.cons rfl rfl (q_fa) ?_
    refine AOps.cons rfl rfl (q_load) ?_
    refine AOps.cons rfl rfl (q_move) ?_
    refine AOps.cons rfl rfl (q_ix) ?_
    refine AOps.cons rfl rfl (q_load) ?_
    refine AOps.cons rfl rfl (q_conv_8i) ?_
    refine AOps.cons rfl rfl (q_assign) ?_
    refine AOps.nil ?_
    refine AWp.block ?_
    refine AWp.seq ?_
    refine AWp.region ?_
    rw [show (b.getD ((p : Nat) : Int).toNat default).toNat = kB b p from rfl]
    refine AOps.cons rfl rfl (q_move) ?_
    refine AOps.dec rfl rfl (q_eql) (fun h15_1 => ?_) (fun h15_1 => ?_)
    ·
     refine AOps.cons rfl rfl (q_assign) ?_
     refine AOps.nil ?_
     refine AWp.cond_t rfl ?_
     refine AWp.seq ?_
     refine AWp.seq ?_
     refine AWp.region ?_
     have hk0 : kB b p = 0 := by omega
     refine AOps.bool rfl rfl (q_move) (fun h16_0 => ?_) (fun h16_0 => ?_)
     ·
      refine AOps.cons rfl rfl (q_not) ?_
      refine AOps.nil ?_
      refine AWp.cond_f rfl ?_
      refine AWp.skip ?_
      refine AWp.seq ?_
      refine AWp.seq ?_
      refine AWp.region ?_
      obtain ⟨a, rfl⟩ := Option.isSome_iff_exists.1 h16_0
      refine AOps.cons rfl rfl (q_move) ?_
      refine AOps.cons rfl rfl (q_len_str) ?_
      refine AOps.cons rfl rfl (q_add) ?_
      refine AOps.dec rfl rfl (q_gtr) (fun h18_3 => ?_) (fun h18_3 => ?_)
      ·
       refine AOps.nil ?_
       refine AWp.cond_t rfl ?_
       refine AWp.seq ?_
       refine AWp.region ?_
       refine AOps.cons rfl rfl (q_assign) ?_
       refine AOps.cons rfl rfl (q_assign) ?_
       refine AOps.nil ?_
       refine AWp.ret ?_
       show Fin te Try.f73 _ _
       have hX := hE
       rw [rdN_long0 g1 hk0 (by omega)] at hX
       rw [← hX]
       refine q_retH (0) [] [_, _] [_, _] [(_, _)] ?_ (hobj := by repeat' (first | exact trivial | exact lv_ok rfl | exact lv_sl rfl rfl | exact lv_rn rfl rfl .row rfl | exact lv_ptr rfl rfl | exact lv_mp rfl rfl | exact lv_nilz | exact lv_any | exact lv_row0 rfl rfl .row (fun _ => rfl) (Nat.le_of_ble_eq_true rfl) (fun _ => rfl) | exact lobj_row (fun _ => rfl) | exact lobj_rown (fun _ => rfl) | exact lobj_me (fun _ => rfl) | refine lobj_box ?_ | refine ⟨rfl, ⟨_, rfl, ?_⟩, ?_⟩ | refine ⟨?_, ?_⟩)) (h2 := by repeat' (first | exact trivial | exact lv_ok rfl | exact lv_ptr rfl rfl | exact lv_sl rfl rfl | exact lv_nilz | exact lv_row0 rfl rfl .row (fun _ => rfl) (Nat.le_of_ble_eq_true rfl) (fun _ => rfl) | refine lv_agg ?_ | exact lv_any | refine ⟨?_, ?_⟩))
       rfl
      ·
       refine AOps.nil ?_
       refine AWp.cond_f rfl ?_
       refine AWp.skip ?_
       refine AWp.seq ?_
       refine AWp.region ?_
       refine AOps.cons rfl rfl (q_move) ?_
       refine AOps.cons rfl rfl (q_sadd) ?_
       refine AOps.cons rfl rfl (q_assign) ?_
       refine AOps.cons rfl rfl (q_assign) ?_
       refine AOps.nil ?_
       refine AWp.ret ?_
       show Fin te Try.f73 _ _
       have hX := hE
       rw [rdN_end g1 hk0 hN] at hX
       rw [← hX]
       refine q_retH (0) [] [_, _] [_, _] [(_, _)] ?_ (hobj := by repeat' (first | exact trivial | exact lv_ok rfl | exact lv_sl rfl rfl | exact lv_rn rfl rfl .row rfl | exact lv_ptr rfl rfl | exact lv_mp rfl rfl | exact lv_nilz | exact lv_any | exact lv_row0 rfl rfl .row (fun _ => rfl) (Nat.le_of_ble_eq_true rfl) (fun _ => rfl) | exact lobj_row (fun _ => rfl) | exact lobj_rown (fun _ => rfl) | exact lobj_me (fun _ => rfl) | refine lobj_box ?_ | refine ⟨rfl, ⟨_, rfl, ?_⟩, ?_⟩ | refine ⟨?_, ?_⟩)) (h2 := by repeat' (first | exact trivial | exact lv_ok rfl | exact lv_ptr rfl rfl | exact lv_sl rfl rfl | exact lv_nilz | exact lv_row0 rfl rfl .row (fun _ => rfl) (Nat.le_of_ble_eq_true rfl) (fun _ => rfl) | refine lv_agg ?_ | exact lv_any | refine ⟨?_, ?_⟩))
       rfl
     ·
      refine AOps.cons rfl rfl (q_not) ?_
      refine AOps.nil ?_
      refine AWp.cond_t rfl ?_
      refine AWp.region ?_
      obtain rfl : bh = none := by simpa using h16_0
      refine AOps.cons rfl rfl (q_move) ?_
      refine AOps.cons rfl rfl (q_move) ?_
      refine AOps.cons rfl rfl (q_add) ?_
      refine AOps.cons rfl rfl (q_nil) ?_
      refine AOps.cons rfl rfl (q_fa) ?_
      refine AOps.cons rfl rfl (q_store) ?_
      refine AOps.nil ?_
      refine AWp.seq ?_
      refine AWp.seq ?_
      refine AWp.region ?_
      refine AOps.cons rfl rfl (q_move) ?_
      refine AOps.cons rfl rfl (q_len_str) ?_
      refine AOps.cons rfl rfl (q_add) ?_
      refine AOps.dec rfl rfl (q_gtr) (fun h18_3 => ?_) (fun h18_3 => ?_)
      ·
       refine AOps.nil ?_
       refine AWp.cond_t rfl ?_
       refine AWp.seq ?_
       refine AWp.region ?_
       refine AOps.cons rfl rfl (q_assign) ?_
       refine AOps.cons rfl rfl (q_assign) ?_
       refine AOps.nil ?_
       refine AWp.ret ?_
       show Fin te Try.f73 _ _
       have hX := hE
       rw [rdN_long0 g1 hk0 (by omega)] at hX
       rw [← hX]
       refine q_retH (0) [] [_, _] [_, _] [(_, _)] ?_ (hobj := by repeat' (first | exact trivial | exact lv_ok rfl | exact lv_sl rfl rfl | exact lv_rn rfl rfl .row rfl | exact lv_ptr rfl rfl | exact lv_mp rfl rfl | exact lv_nilz | exact lv_any | exact lv_row0 rfl rfl .row (fun _ => rfl) (Nat.le_of_ble_eq_true rfl) (fun _ => rfl) | exact lobj_row (fun _ => rfl) | exact lobj_rown (fun _ => rfl) | exact lobj_me (fun _ => rfl) | refine lobj_box ?_ | refine ⟨rfl, ⟨_, rfl, ?_⟩, ?_⟩ | refine ⟨?_, ?_⟩)) (h2 := by repeat' (first | exact trivial | exact lv_ok rfl | exact lv_ptr rfl rfl | exact lv_sl rfl rfl | exact lv_nilz | exact lv_row0 rfl rfl .row (fun _ => rfl) (Nat.le_of_ble_eq_true rfl) (fun _ => rfl) | refine lv_agg ?_ | exact lv_any | refine ⟨?_, ?_⟩))
       rfl
      ·
       refine AOps.nil ?_
       refine AWp.cond_f rfl ?_
       refine AWp.skip ?_
       refine AWp.seq ?_
       refine AWp.region ?_
       refine AOps.cons rfl rfl (q_move) ?_
       refine AOps.cons rfl rfl (q_sadd) ?_
       refine AOps.cons rfl rfl (q_assign) ?_
       refine AOps.cons rfl rfl (q_assign) ?_
       refine AOps.nil ?_
       refine AWp.ret ?_
       show Fin te Try.f73 _ _
       have hX := hE
       rw [rdN_end g1 hk0 hN] at hX
       rw [← hX]
       refine q_retH (0) [] [_, _] [_, _] [(_, _)] ?_ (hobj := by repeat' (first | exact trivial | exact lv_ok rfl | exact lv_sl rfl rfl | exact lv_rn rfl rfl .row rfl | exact lv_ptr rfl rfl | exact lv_mp rfl rfl | exact lv_nilz | exact lv_any | exact lv_row0 rfl rfl .row (fun _ => rfl) (Nat.le_of_ble_eq_true rfl) (fun _ => rfl) | exact lobj_row (fun _ => rfl) | exact lobj_rown (fun _ => rfl) | exact lobj_me (fun _ => rfl) | refine lobj_box ?_ | refine ⟨rfl, ⟨_, rfl, ?_⟩, ?_⟩ | refine ⟨?_, ?_⟩)) (h2 := by repeat' (first | exact trivial | exact lv_ok rfl | exact lv_ptr rfl rfl | exact lv_sl rfl rfl | exact lv_nilz | exact lv_row0 rfl rfl .row (fun _ => rfl) (Nat.le_of_ble_eq_true rfl) (fun _ => rfl) | refine lv_agg ?_ | exact lv_any | refine ⟨?_, ?_⟩))
       rfl
    ·
     refine AOps.cons rfl rfl (q_assign) ?_
     refine AOps.nil ?_
     refine AWp.cond_f rfl ?_
     refine AWp.seq ?_
     refine AWp.region ?_
     refine AOps.cons rfl rfl (q_move) ?_
     refine AOps.dec rfl rfl (q_geq) (fun h21_1 => ?_) (fun h21_1 => ?_)
     ·
      refine AOps.cons rfl rfl (q_assign) ?_
      refine AOps.nil ?_
      refine AWp.cond_t rfl ?_
      refine AWp.seq ?_
      refine AWp.seq ?_
      refine AWp.region ?_
      have hk : 192 ≤ kB b p := by omega
      refine AOps.cons rfl rfl (q_move) ?_
      refine AOps.cons rfl rfl (q_add) ?_
      refine AOps.cons rfl rfl (q_move) ?_
      refine AOps.dec rfl rfl (q_geq) (fun h22_3 => ?_) (fun h22_3 => ?_)
      ·
       refine AOps.nil ?_
       refine AWp.cond_t rfl ?_
       refine AWp.seq ?_
       refine AWp.region ?_
       refine AOps.cons rfl rfl (q_assign) ?_
       refine AOps.cons rfl rfl (q_assign) ?_
       refine AOps.nil ?_
       refine AWp.ret ?_
       show Fin te Try.f73 _ _
       have hX := hE
       rw [rdN_pshort g1 hk (by omega)] at hX
       rw [← hX]
       refine q_retH (0) [] [_, _] [_, _] [(_, _)] ?_ (hobj := by repeat' (first | exact trivial | exact lv_ok rfl | exact lv_sl rfl rfl | exact lv_rn rfl rfl .row rfl | exact lv_ptr rfl rfl | exact lv_mp rfl rfl | exact lv_nilz | exact lv_any | exact lv_row0 rfl rfl .row (fun _ => rfl) (Nat.le_of_ble_eq_true rfl) (fun _ => rfl) | exact lobj_row (fun _ => rfl) | exact lobj_rown (fun _ => rfl) | exact lobj_me (fun _ => rfl) | refine lobj_box ?_ | refine ⟨rfl, ⟨_, rfl, ?_⟩, ?_⟩ | refine ⟨?_, ?_⟩)) (h2 := by repeat' (first | exact trivial | exact lv_ok rfl | exact lv_ptr rfl rfl | exact lv_sl rfl rfl | exact lv_nilz | exact lv_row0 rfl rfl .row (fun _ => rfl) (Nat.le_of_ble_eq_true rfl) (fun _ => rfl) | refine lv_agg ?_ | exact lv_any | refine ⟨?_, ?_⟩))
       rfl
      ·
       refine AOps.nil ?_
       refine AWp.cond_f rfl ?_
       refine AWp.skip ?_
       refine AWp.seq ?_
       refine AWp.region ?_
       have g2 : ¬ li ≤ p + 1 := by omega
       have hq1 := (b.getD ((p : Int) + 1).toNat default).toNat_lt
       refine AOps.cons rfl rfl (q_move) ?_
       refine AOps.cons rfl rfl (q_sub) ?_
       refine AOps.cons rfl rfl (q_mul) ?_
       refine AOps.cons rfl rfl (q_move) ?_
       refine AOps.cons rfl rfl (q_nil) ?_
       refine AOps.cons rfl rfl (q_fa) ?_
       refine AOps.cons rfl rfl (q_load) ?_
       refine AOps.cons rfl rfl (q_move) ?_
       refine AOps.cons rfl rfl (q_add) ?_
       refine AOps.cons rfl rfl (q_ix) ?_
       refine AOps.cons rfl rfl (q_load) ?_
       refine AOps.cons rfl rfl (q_conv_8i) ?_
       refine AOps.cons rfl rfl (q_add) ?_
       refine AOps.cons rfl rfl (q_assign) ?_
       refine AOps.nil ?_
       refine AWp.seq ?_
       refine AWp.seq ?_
       refine AWp.region ?_
       rw [show ((kB b p : Nat) : Int) - 192 = ((kB b p - 192 : Nat) : Int) by omega, show (((kB b p - 192 : Nat) : Int) * 256 + ((b.getD ((p : Int) + 1).toNat default).toNat : Int)) = (toI b p : Int) by
         have e1 : kB b (p + 1) = (b.getD ((p : Int) + 1).toNat default).toNat := rfl
         unfold toI; omega]
       refine AOps.cons rfl rfl (q_move) ?_
       refine AOps.cons rfl rfl (q_move) ?_
       refine AOps.dec rfl rfl (q_geq) (fun h25_2 => ?_) (fun h25_2 => ?_)
       ·
        refine AOps.nil ?_
        refine AWp.cond_t rfl ?_
        refine AWp.seq ?_
        refine AWp.region ?_
        refine AOps.cons rfl rfl (q_assign) ?_
        refine AOps.cons rfl rfl (q_assign) ?_
        refine AOps.nil ?_
        refine AWp.ret ?_
        show Fin te Try.f73 _ _
        have hX := hE
        rw [rdN_pbad g1 hk g2 (by omega)] at hX
        rw [← hX]
        refine q_retH (0) [] [_, _] [_, _] [(_, _)] ?_ (hobj := by repeat' (first | exact trivial | exact lv_ok rfl | exact lv_sl rfl rfl | exact lv_rn rfl rfl .row rfl | exact lv_ptr rfl rfl | exact lv_mp rfl rfl | exact lv_nilz | exact lv_any | exact lv_row0 rfl rfl .row (fun _ => rfl) (Nat.le_of_ble_eq_true rfl) (fun _ => rfl) | exact lobj_row (fun _ => rfl) | exact lobj_rown (fun _ => rfl) | exact lobj_me (fun _ => rfl) | refine lobj_box ?_ | refine ⟨rfl, ⟨_, rfl, ?_⟩, ?_⟩ | refine ⟨?_, ?_⟩)) (h2 := by repeat' (first | exact trivial | exact lv_ok rfl | exact lv_ptr rfl rfl | exact lv_sl rfl rfl | exact lv_nilz | exact lv_row0 rfl rfl .row (fun _ => rfl) (Nat.le_of_ble_eq_true rfl) (fun _ => rfl) | refine lv_agg ?_ | exact lv_any | refine ⟨?_, ?_⟩))
        rfl
       ·
        refine AOps.nil ?_
        refine AWp.cond_f rfl ?_
        refine AWp.skip ?_
        refine AWp.seq ?_
        refine AWp.seq ?_
        refine AWp.region ?_
        have g3 : toI b p < fi := by omega
        refine AOps.bool rfl rfl (q_move) (fun h27_0 => ?_) (fun h27_0 => ?_)
        ·
         refine AOps.cons rfl rfl (q_not) ?_
         refine AOps.nil ?_
         refine AWp.cond_f rfl ?_
         refine AWp.skip ?_
         refine AWp.region ?_
         obtain ⟨a, rfl⟩ := Option.isSome_iff_exists.1 h27_0
         refine AOps.cons rfl rfl (q_move) ?_
         refine AOps.cons rfl rfl (q_move) ?_
         refine AOps.cons rfl rfl (q_assign) ?_
         refine AOps.cons rfl rfl (q_assign) ?_
         refine AOps.cons rfl rfl (q_assign) ?_
         refine AOps.nil ?_
         refine ⟨(toI b p, toI b p, some a, n), ?_, Back.mk' (HasT.cons (HasT.cons (HasT.cons (HasT.cons HasT.nil)))) (HasH.cons HasH.nil), ?_⟩
         ·
          try dsimp only
          exact ⟨by rw [← hE, rdN_ptr g1 hk g2 g3]; rfl, hN, by omega, by omega⟩
         ·
          try dsimp only
          have := Nat.mul_le_mul_right (b.length + 1) (show toI b p + 1 ≤ fi by omega)
          rw [Nat.succ_mul] at this
          have h9 : liB b en (some a) = b.length := rfl
          omega
        ·
         refine AOps.cons rfl rfl (q_not) ?_
         refine AOps.nil ?_
         refine AWp.cond_t rfl ?_
         refine AWp.region ?_
         obtain rfl : bh = none := by simpa using h27_0
         refine AOps.cons rfl rfl (q_move) ?_
         refine AOps.cons rfl rfl (q_move) ?_
         refine AOps.cons rfl rfl (q_add) ?_
         refine AOps.cons rfl rfl (q_nil) ?_
         refine AOps.cons rfl rfl (q_fa) ?_
         refine AOps.cons rfl rfl (q_store) ?_
         refine AOps.nil ?_
         refine AWp.region ?_
         refine AOps.cons rfl rfl (q_move) ?_
         refine AOps.cons rfl rfl (q_move) ?_
         refine AOps.cons rfl rfl (q_assign) ?_
         refine AOps.cons rfl rfl (q_assign) ?_
         refine AOps.cons rfl rfl (q_assign) ?_
         refine AOps.nil ?_
         refine ⟨(toI b p, toI b p, some (p + 2), n), ?_, Back.mk' (HasT.cons (HasT.cons (HasT.cons (HasT.cons HasT.nil)))) (HasH.cons HasH.nil), ?_⟩
         ·
          try dsimp only
          exact ⟨by rw [← hE, rdN_ptr g1 hk g2 g3]; rfl, hN, by omega, by omega⟩
         ·
          try dsimp only
          have := Nat.mul_le_mul_right (b.length + 1) (show toI b p + 1 ≤ fi by omega)
          rw [Nat.succ_mul] at this
          have h9 : liB b en (some (p + 2)) = b.length := rfl
          omega
     ·
      refine AOps.cons rfl rfl (q_assign) ?_
      refine AOps.nil ?_
      refine AWp.cond_f rfl ?_
      refine AWp.seq ?_
      refine AWp.region ?_
      refine AOps.cons rfl rfl (q_move) ?_
      refine AOps.dec rfl rfl (q_geq) (fun h30_1 => ?_) (fun h30_1 => ?_)
      ·
       refine AOps.cons rfl rfl (q_assign) ?_
       refine AOps.nil ?_
       refine AWp.cond_t rfl ?_
       refine AWp.seq ?_
       refine AWp.region ?_
       refine AOps.cons rfl rfl (q_assign) ?_
       refine AOps.cons rfl rfl (q_assign) ?_
       refine AOps.nil ?_
       refine AWp.ret ?_
       show Fin te Try.f73 _ _
       have hX := hE
       rw [rdN_label g1 (by omega) (by omega)] at hX
       rw [← hX]
       refine q_retH (0) [] [_, _] [_, _] [(_, _)] ?_ (hobj := by repeat' (first | exact trivial | exact lv_ok rfl | exact lv_sl rfl rfl | exact lv_rn rfl rfl .row rfl | exact lv_ptr rfl rfl | exact lv_mp rfl rfl | exact lv_nilz | exact lv_any | exact lv_row0 rfl rfl .row (fun _ => rfl) (Nat.le_of_ble_eq_true rfl) (fun _ => rfl) | exact lobj_row (fun _ => rfl) | exact lobj_rown (fun _ => rfl) | exact lobj_me (fun _ => rfl) | refine lobj_box ?_ | refine ⟨rfl, ⟨_, rfl, ?_⟩, ?_⟩ | refine ⟨?_, ?_⟩)) (h2 := by repeat' (first | exact trivial | exact lv_ok rfl | exact lv_ptr rfl rfl | exact lv_sl rfl rfl | exact lv_nilz | exact lv_row0 rfl rfl .row (fun _ => rfl) (Nat.le_of_ble_eq_true rfl) (fun _ => rfl) | refine lv_agg ?_ | exact lv_any | refine ⟨?_, ?_⟩))
       rfl
      ·
       refine AOps.cons rfl rfl (q_assign) ?_
       refine AOps.nil ?_
       refine AWp.cond_f rfl ?_
       refine AWp.seq ?_
       refine AWp.seq ?_
       refine AWp.region ?_
       have hk0 : kB b p ≠ 0 := by omega
       have hk1 : ¬ 64 ≤ kB b p := by omega
       refine AOps.cons rfl rfl (q_move) ?_
       refine AOps.cons rfl rfl (q_add) ?_
       refine AOps.cons rfl rfl (q_move) ?_
       refine AOps.cons rfl rfl (q_add) ?_
       refine AOps.cons rfl rfl (q_move) ?_
       refine AOps.dec rfl rfl (q_gtr) (fun h9_5 => ?_) (fun h9_5 => ?_)
       ·
        refine AOps.nil ?_
        refine AWp.cond_t rfl ?_
        refine AWp.seq ?_
        refine AWp.region ?_
        refine AOps.cons rfl rfl (q_assign) ?_
        refine AOps.cons rfl rfl (q_assign) ?_
        refine AOps.nil ?_
        refine AWp.ret ?_
        show Fin te Try.f73 _ _
        have hX := hE
        rw [rdN_lshort g1 hk0 hk1 (by omega)] at hX
        rw [← hX]
        refine q_retH (0) [] [_, _] [_, _] [(_, _)] ?_ (hobj := by repeat' (first | exact trivial | exact lv_ok rfl | exact lv_sl rfl rfl | exact lv_rn rfl rfl .row rfl | exact lv_ptr rfl rfl | exact lv_mp rfl rfl | exact lv_nilz | exact lv_any | exact lv_row0 rfl rfl .row (fun _ => rfl) (Nat.le_of_ble_eq_true rfl) (fun _ => rfl) | exact lobj_row (fun _ => rfl) | exact lobj_rown (fun _ => rfl) | exact lobj_me (fun _ => rfl) | refine lobj_box ?_ | refine ⟨rfl, ⟨_, rfl, ?_⟩, ?_⟩ | refine ⟨?_, ?_⟩)) (h2 := by repeat' (first | exact trivial | exact lv_ok rfl | exact lv_ptr rfl rfl | exact lv_sl rfl rfl | exact lv_nilz | exact lv_row0 rfl rfl .row (fun _ => rfl) (Nat.le_of_ble_eq_true rfl) (fun _ => rfl) | refine lv_agg ?_ | exact lv_any | refine ⟨?_, ?_⟩))
        rfl
       ·
        refine AOps.nil ?_
        refine AWp.cond_f rfl ?_
        refine AWp.skip ?_
        refine AWp.seq ?_
        refine AWp.region ?_
        have g2 : ¬ li < p + 1 + kB b p := by omega
        refine AOps.cons rfl rfl (q_move) ?_
        refine AOps.cons rfl rfl (q_move) ?_
        refine AOps.cons rfl rfl (q_nil) ?_
        refine AOps.cons rfl rfl (q_fa) ?_
        refine AOps.cons rfl rfl (q_load) ?_
        refine AOps.cons rfl rfl (q_move) ?_
        refine AOps.cons rfl rfl (q_move) ?_
        refine AOps.cons rfl rfl (q_add) ?_
        refine AOps.cons rfl rfl (q_move) ?_
        refine AOps.cons rfl rfl (q_add) ?_
        refine AOps.cons rfl rfl (q_sl) ?_
        refine AOps.cons rfl rfl (by first | exact q_conv_zs | exact q_conv_ls) ?_
        refine AOps.cons rfl rfl (q_sadd) ?_
        refine AOps.cons rfl rfl (q_assign) ?_
        refine AOps.nil ?_
        refine AWp.seq ?_
        refine AWp.region ?_
        rw [show ((p : Int) + 1 + (kB b p : Int)).toNat = p + 1 + kB b p by omega, show ((p : Nat) : Int).toNat = p by omega]
        obtain ⟨N, hNN⟩ : ∃ N, N = n ++ (b.take (p + 1 + kB b p)).drop p := ⟨_, rfl⟩
        rw [← hNN]
        have hNl : N.length = n.length + (1 + kB b p) := by rw [hNN, List.length_append, List.length_drop, List.length_take]; omega
        refine AOps.cons rfl rfl (q_move) ?_
        refine AOps.cons rfl rfl (q_move) ?_
        refine AOps.cons rfl rfl (q_add) ?_
        refine AOps.cons rfl rfl (q_add) ?_
        refine AOps.cons rfl rfl (q_assign) ?_
        refine AOps.nil ?_
        refine AWp.seq ?_
        refine AWp.region ?_
        refine AOps.cons rfl rfl (q_move) ?_
        refine AOps.cons rfl rfl (q_len_str) ?_
        refine AOps.cons rfl rfl (q_add) ?_
        refine AOps.dec rfl rfl (q_gtr) (fun h13_3 => ?_) (fun h13_3 => ?_)
        ·
         refine AOps.nil ?_
         refine AWp.cond_t rfl ?_
         refine AWp.seq ?_
         refine AWp.region ?_
         refine AOps.cons rfl rfl (q_assign) ?_
         refine AOps.cons rfl rfl (q_assign) ?_
         refine AOps.nil ?_
         refine AWp.ret ?_
         show Fin te Try.f73 _ _
         have hX := hE
         rw [rdN_llong g1 hk0 hk1 g2 (by rw [← hNN]; omega)] at hX
         rw [← hX]
         refine q_retH (0) [] [_, _] [_, _] [(_, _)] ?_ (hobj := by repeat' (first | exact trivial | exact lv_ok rfl | exact lv_sl rfl rfl | exact lv_rn rfl rfl .row rfl | exact lv_ptr rfl rfl | exact lv_mp rfl rfl | exact lv_nilz | exact lv_any | exact lv_row0 rfl rfl .row (fun _ => rfl) (Nat.le_of_ble_eq_true rfl) (fun _ => rfl) | exact lobj_row (fun _ => rfl) | exact lobj_rown (fun _ => rfl) | exact lobj_me (fun _ => rfl) | refine lobj_box ?_ | refine ⟨rfl, ⟨_, rfl, ?_⟩, ?_⟩ | refine ⟨?_, ?_⟩)) (h2 := by repeat' (first | exact trivial | exact lv_ok rfl | exact lv_ptr rfl rfl | exact lv_sl rfl rfl | exact lv_nilz | exact lv_row0 rfl rfl .row (fun _ => rfl) (Nat.le_of_ble_eq_true rfl) (fun _ => rfl) | refine lv_agg ?_ | exact lv_any | refine ⟨?_, ?_⟩))
         rfl
        ·
         refine AOps.nil ?_
         refine AWp.cond_f rfl ?_
         refine AWp.skip ?_
         refine ⟨(p + 1 + kB b p, fi, bh, N), ?_, Back.mk' (HasT.cons (HasT.cons (HasT.cons (HasT.cons HasT.nil))) (h1 := by exact i64_eq (by omega)) ) (HasH.cons HasH.nil), ?_⟩
         ·
          try dsimp only
          exact ⟨by rw [← hli0, ← hE, rdN_lab g1 hk0 hk1 g2 (by rw [← hNN]; omega), ← hNN], by omega, by omega, hF⟩
         ·
          try dsimp only
          rw [← hli0]; omega
  ·
   refine AOps.nil ?_
   refine AWp.cond_f rfl ?_
   refine AWp.skip ?_
   refine AWp.seq ?_
   refine AWp.seq ?_
   refine AWp.region ?_
   have hli : liB b en bh = en := by rw [liB, if_neg (by simp [h4_0])]
   have hL : li ≤ b.length := by omega
   have hle : en = li := by omega
   refine AOps.cons rfl rfl (q_move) ?_
   refine AOps.cons rfl rfl (q_move) ?_
   refine AOps.dec rfl rfl (q_geq) (fun h6_2 => ?_) (fun h6_2 => ?_)
   ·
    refine AOps.nil ?_
    refine AWp.cond_t rfl ?_
    refine AWp.seq ?_
    refine AWp.region ?_
    refine AOps.cons rfl rfl (q_assign) ?_
    refine AOps.cons rfl rfl (q_assign) ?_
    refine AOps.nil ?_
    refine AWp.ret ?_
    show Fin te Try.f73 _ _
    have hX := hE
    rw [rdN_short (by omega)] at hX
    rw [← hX]
    refine q_retH (0) [] [_, _] [_, _] [(_, _)] ?_ (hobj := by repeat' (first | exact trivial | exact lv_ok rfl | exact lv_sl rfl rfl | exact lv_rn rfl rfl .row rfl | exact lv_ptr rfl rfl | exact lv_mp rfl rfl | exact lv_nilz | exact lv_any | exact lv_row0 rfl rfl .row (fun _ => rfl) (Nat.le_of_ble_eq_true rfl) (fun _ => rfl) | exact lobj_row (fun _ => rfl) | exact lobj_rown (fun _ => rfl) | exact lobj_me (fun _ => rfl) | refine lobj_box ?_ | refine ⟨rfl, ⟨_, rfl, ?_⟩, ?_⟩ | refine ⟨?_, ?_⟩)) (h2 := by repeat' (first | exact trivial | exact lv_ok rfl | exact lv_ptr rfl rfl | exact lv_sl rfl rfl | exact lv_nilz | exact lv_row0 rfl rfl .row (fun _ => rfl) (Nat.le_of_ble_eq_true rfl) (fun _ => rfl) | refine lv_agg ?_ | exact lv_any | refine ⟨?_, ?_⟩))
    rfl
   ·
    refine AOps.nil ?_
    refine AWp.cond_f rfl ?_
    refine AWp.skip ?_
    refine AWp.seq ?_
    refine AWp.region ?_
    have g1 : ¬ li ≤ p := by omega
    refine AOps.cons rfl rfl (q_move) ?_
    refine AOps.cons rfl rfl (q_nil) ?_
    refine AOps.cons rfl rfl (q_fa) ?_
    refine AOps.cons rfl rfl (q_load) ?_
    refine AOps.cons rfl rfl (q_move) ?_
    refine AOps.cons rfl rfl (q_ix) ?_
    refine AOps.cons rfl rfl (q_load) ?_
    refine AOps.cons rfl rfl (q_conv_8i) ?_
    refine AOps.cons rfl rfl (q_assign) ?_
    refine AOps.nil ?_
    refine AWp.block ?_
    refine AWp.seq ?_
    refine AWp.region ?_
    rw [show (b.getD ((p : Nat) : Int).toNat default).toNat = kB b p from rfl]
    refine AOps.cons rfl rfl (q_move) ?_
    refine AOps.dec rfl rfl (q_eql) (fun h15_1 => ?_) (fun h15_1 => ?_)
    ·
     refine AOps.cons rfl rfl (q_assign) ?_
     refine AOps.nil ?_
     refine AWp.cond_t rfl ?_
     refine AWp.seq ?_
     refine AWp.seq ?_
     refine AWp.region ?_
     have hk0 : kB b p = 0 := by omega
     refine AOps.bool rfl rfl (q_move) (fun h16_0 => ?_) (fun h16_0 => ?_)
     ·
      refine AOps.cons rfl rfl (q_not) ?_
      refine AOps.nil ?_
      refine AWp.cond_f rfl ?_
      refine AWp.skip ?_
      refine AWp.seq ?_
      refine AWp.seq ?_
      refine AWp.region ?_
      obtain ⟨a, rfl⟩ := Option.isSome_iff_exists.1 h16_0
      refine AOps.cons rfl rfl (q_move) ?_
      refine AOps.cons rfl rfl (q_len_str) ?_
      refine AOps.cons rfl rfl (q_add) ?_
      refine AOps.dec rfl rfl (q_gtr) (fun h18_3 => ?_) (fun h18_3 => ?_)
      ·
       refine AOps.nil ?_
       refine AWp.cond_t rfl ?_
       refine AWp.seq ?_
       refine AWp.region ?_
       refine AOps.cons rfl rfl (q_assign) ?_
       refine AOps.cons rfl rfl (q_assign) ?_
       refine AOps.nil ?_
       refine AWp.ret ?_
       show Fin te Try.f73 _ _
       have hX := hE
       rw [rdN_long0 g1 hk0 (by omega)] at hX
       rw [← hX]
       refine q_retH (0) [] [_, _] [_, _] [(_, _)] ?_ (hobj := by repeat' (first | exact trivial | exact lv_ok rfl | exact lv_sl rfl rfl | exact lv_rn rfl rfl .row rfl | exact lv_ptr rfl rfl | exact lv_mp rfl rfl | exact lv_nilz | exact lv_any | exact lv_row0 rfl rfl .row (fun _ => rfl) (Nat.le_of_ble_eq_true rfl) (fun _ => rfl) | exact lobj_row (fun _ => rfl) | exact lobj_rown (fun _ => rfl) | exact lobj_me (fun _ => rfl) | refine lobj_box ?_ | refine ⟨rfl, ⟨_, rfl, ?_⟩, ?_⟩ | refine ⟨?_, ?_⟩)) (h2 := by repeat' (first | exact trivial | exact lv_ok rfl | exact lv_ptr rfl rfl | exact lv_sl rfl rfl | exact lv_nilz | exact lv_row0 rfl rfl .row (fun _ => rfl) (Nat.le_of_ble_eq_true rfl) (fun _ => rfl) | refine lv_agg ?_ | exact lv_any | refine ⟨?_, ?_⟩))
       rfl
      ·
       refine AOps.nil ?_
       refine AWp.cond_f rfl ?_
       refine AWp.skip ?_
       refine AWp.seq ?_
       refine AWp.region ?_
       refine AOps.cons rfl rfl (q_move) ?_
       refine AOps.cons rfl rfl (q_sadd) ?_
       refine AOps.cons rfl rfl (q_assign) ?_
       refine AOps.cons rfl rfl (q_assign) ?_
       refine AOps.nil ?_
       refine AWp.ret ?_
       show Fin te Try.f73 _ _
       have hX := hE
       rw [rdN_end g1 hk0 hN] at hX
       rw [← hX]
       refine q_retH (0) [] [_, _] [_, _] [(_, _)] ?_ (hobj := by repeat' (first | exact trivial | exact lv_ok rfl | exact lv_sl rfl rfl | exact lv_rn rfl rfl .row rfl | exact lv_ptr rfl rfl | exact lv_mp rfl rfl | exact lv_nilz | exact lv_any | exact lv_row0 rfl rfl .row (fun _ => rfl) (Nat.le_of_ble_eq_true rfl) (fun _ => rfl) | exact lobj_row (fun _ => rfl) | exact lobj_rown (fun _ => rfl) | exact lobj_me (fun _ => rfl) | refine lobj_box ?_ | refine ⟨rfl, ⟨_, rfl, ?_⟩, ?_⟩ | refine ⟨?_, ?_⟩)) (h2 := by repeat' (first | exact trivial | exact lv_ok rfl | exact lv_ptr rfl rfl | exact lv_sl rfl rfl | exact lv_nilz | exact lv_row0 rfl rfl .row (fun _ => rfl) (Nat.le_of_ble_eq_true rfl) (fun _ => rfl) | refine lv_agg ?_ | exact lv_any | refine ⟨?_, ?_⟩))
       rfl
     ·
      refine AOps.cons rfl rfl (q_not) ?_
      refine AOps.nil ?_
      refine AWp.cond_t rfl ?_
      refine AWp.region ?_
      obtain rfl : bh = none := by simpa using h16_0
      refine AOps.cons rfl rfl (q_move) ?_
      refine AOps.cons rfl rfl (q_move) ?_
      refine AOps.cons rfl rfl (q_add) ?_
      refine AOps.cons rfl rfl (q_nil) ?_
      refine AOps.cons rfl rfl (q_fa) ?_
      refine AOps.cons rfl rfl (q_store) ?_
      refine AOps.nil ?_
      refine AWp.seq ?_
      refine AWp.seq ?_
      refine AWp.region ?_
      refine AOps.cons rfl rfl (q_move) ?_
      refine AOps.cons rfl rfl (q_len_str) ?_
      refine AOps.cons rfl rfl (q_add) ?_
      refine AOps.dec rfl rfl (q_gtr) (fun h18_3 => ?_) (fun h18_3 => ?_)
      ·
       refine AOps.nil ?_
       refine AWp.cond_t rfl ?_
       refine AWp.seq ?_
       refine AWp.region ?_
       refine AOps.cons rfl rfl (q_assign) ?_
       refine AOps.cons rfl rfl (q_assign) ?_
       refine AOps.nil ?_
       refine AWp.ret ?_
       show Fin te Try.f73 _ _
       have hX := hE
       rw [rdN_long0 g1 hk0 (by omega)] at hX
       rw [← hX]
       refine q_retH (0) [] [_, _] [_, _] [(_, _)] ?_ (hobj := by repeat' (first | exact trivial | exact lv_ok rfl | exact lv_sl rfl rfl | exact lv_rn rfl rfl .row rfl | exact lv_ptr rfl rfl | exact lv_mp rfl rfl | exact lv_nilz | exact lv_any | exact lv_row0 rfl rfl .row (fun _ => rfl) (Nat.le_of_ble_eq_true rfl) (fun _ => rfl) | exact lobj_row (fun _ => rfl) | exact lobj_rown (fun _ => rfl) | exact lobj_me (fun _ => rfl) | refine lobj_box ?_ | refine ⟨rfl, ⟨_, rfl, ?_⟩, ?_⟩ | refine ⟨?_, ?_⟩)) (h2 := by repeat' (first | exact trivial | exact lv_ok rfl | exact lv_ptr rfl rfl | exact lv_sl rfl rfl | exact lv_nilz | exact lv_row0 rfl rfl .row (fun _ => rfl) (Nat.le_of_ble_eq_true rfl) (fun _ => rfl) | refine lv_agg ?_ | exact lv_any | refine ⟨?_, ?_⟩))
       rfl
      ·
       refine AOps.nil ?_
       refine AWp.cond_f rfl ?_
       refine AWp.skip ?_
       refine AWp.seq ?_
       refine AWp.region ?_
       refine AOps.cons rfl rfl (q_move) ?_
       refine AOps.cons rfl rfl (q_sadd) ?_
       refine AOps.cons rfl rfl (q_assign) ?_
       refine AOps.cons rfl rfl (q_assign) ?_
       refine AOps.nil ?_
       refine AWp.ret ?_
       show Fin te Try.f73 _ _
       have hX := hE
       rw [rdN_end g1 hk0 hN] at hX
       rw [← hX]
       refine q_retH (0) [] [_, _] [_, _] [(_, _)] ?_ (hobj := by repeat' (first | exact trivial | exact lv_ok rfl | exact lv_sl rfl rfl | exact lv_rn rfl rfl .row rfl | exact lv_ptr rfl rfl | exact lv_mp rfl rfl | exact lv_nilz | exact lv_any | exact lv_row0 rfl rfl .row (fun _ => rfl) (Nat.le_of_ble_eq_true rfl) (fun _ => rfl) | exact lobj_row (fun _ => rfl) | exact lobj_rown (fun _ => rfl) | exact lobj_me (fun _ => rfl) | refine lobj_box ?_ | refine ⟨rfl, ⟨_, rfl, ?_⟩, ?_⟩ | refine ⟨?_, ?_⟩)) (h2 := by repeat' (first | exact trivial | exact lv_ok rfl | exact lv_ptr rfl rfl | exact lv_sl rfl rfl | exact lv_nilz | exact lv_row0 rfl rfl .row (fun _ => rfl) (Nat.le_of_ble_eq_true rfl) (fun _ => rfl) | refine lv_agg ?_ | exact lv_any | refine ⟨?_, ?_⟩))
       rfl
    ·
     refine AOps.cons rfl rfl (q_assign) ?_
     refine AOps.nil ?_
     refine AWp.cond_f rfl ?_
     refine AWp.seq ?_
     refine AWp.region ?_
     refine AOps.cons rfl rfl (q_move) ?_
     refine AOps.dec rfl rfl (q_geq) (fun h21_1 => ?_) (fun h21_1 => ?_)
     ·
      refine AOps.cons rfl rfl (q_assign) ?_
      refine AOps.nil ?_
      refine AWp.cond_t rfl ?_
      refine AWp.seq ?_
      refine AWp.seq ?_
      refine AWp.region ?_
      have hk : 192 ≤ kB b p := by omega
      refine AOps.cons rfl rfl (q_move) ?_
      refine AOps.cons rfl rfl (q_add) ?_
      refine AOps.cons rfl rfl (q_move) ?_
      refine AOps.dec rfl rfl (q_geq) (fun h22_3 => ?_) (fun h22_3 => ?_)
      ·
       refine AOps.nil ?_
       refine AWp.cond_t rfl ?_
       refine AWp.seq ?_
       refine AWp.region ?_
       refine AOps.cons rfl rfl (q_assign) ?_
       refine AOps.cons rfl rfl (q_assign) ?_
       refine AOps.nil ?_
       refine AWp.ret ?_
       show Fin te Try.f73 _ _
       have hX := hE
       rw [rdN_pshort g1 hk (by omega)] at hX
       rw [← hX]
       refine q_retH (0) [] [_, _] [_, _] [(_, _)] ?_ (hobj := by repeat' (first | exact trivial | exact lv_ok rfl | exact lv_sl rfl rfl | exact lv_rn rfl rfl .row rfl | exact lv_ptr rfl rfl | exact lv_mp rfl rfl | exact lv_nilz | exact lv_any | exact lv_row0 rfl rfl .row (fun _ => rfl) (Nat.le_of_ble_eq_true rfl) (fun _ => rfl) | exact lobj_row (fun _ => rfl) | exact lobj_rown (fun _ => rfl) | exact lobj_me (fun _ => rfl) | refine lobj_box ?_ | refine ⟨rfl, ⟨_, rfl, ?_⟩, ?_⟩ | refine ⟨?_, ?_⟩)) (h2 := by repeat' (first | exact trivial | exact lv_ok rfl | exact lv_ptr rfl rfl | exact lv_sl rfl rfl | exact lv_nilz | exact lv_row0 rfl rfl .row (fun _ => rfl) (Nat.le_of_ble_eq_true rfl) (fun _ => rfl) | refine lv_agg ?_ | exact lv_any | refine ⟨?_, ?_⟩))
       rfl
      ·
       refine AOps.nil ?_
       refine AWp.cond_f rfl ?_
       refine AWp.skip ?_
       refine AWp.seq ?_
       refine AWp.region ?_
       have g2 : ¬ li ≤ p + 1 := by omega
       have hq1 := (b.getD ((p : Int) + 1).toNat default).toNat_lt
       refine AOps.cons rfl rfl (q_move) ?_
       refine AOps.cons rfl rfl (q_sub) ?_
       refine AOps.cons rfl rfl (q_mul) ?_
       refine AOps.cons rfl rfl (q_move) ?_
       refine AOps.cons rfl rfl (q_nil) ?_
       refine AOps.cons rfl rfl (q_fa) ?_
       refine AOps.cons rfl rfl (q_load) ?_
       refine AOps.cons rfl rfl (q_move) ?_
       refine AOps.cons rfl rfl (q_add) ?_
       refine AOps.cons rfl rfl (q_ix) ?_
       refine AOps.cons rfl rfl (q_load) ?_
       refine AOps.cons rfl rfl (q_conv_8i) ?_
       refine AOps.cons rfl rfl (q_add) ?_
       refine AOps.cons rfl rfl (q_assign) ?_
       refine AOps.nil ?_
       refine AWp.seq ?_
       refine AWp.seq ?_
       refine AWp.region ?_
       rw [show ((kB b p : Nat) : Int) - 192 = ((kB b p - 192 : Nat) : Int) by omega, show (((kB b p - 192 : Nat) : Int) * 256 + ((b.getD ((p : Int) + 1).toNat default).toNat : Int)) = (toI b p : Int) by
         have e1 : kB b (p + 1) = (b.getD ((p : Int) + 1).toNat default).toNat := rfl
         unfold toI; omega]
       refine AOps.cons rfl rfl (q_move) ?_
       refine AOps.cons rfl rfl (q_move) ?_
       refine AOps.dec rfl rfl (q_geq) (fun h25_2 => ?_) (fun h25_2 => ?_)
       ·
        refine AOps.nil ?_
        refine AWp.cond_t rfl ?_
        refine AWp.seq ?_
        refine AWp.region ?_
        refine AOps.cons rfl rfl (q_assign) ?_
        refine AOps.cons rfl rfl (q_assign) ?_
        refine AOps.nil ?_
        refine AWp.ret ?_
        show Fin te Try.f73 _ _
        have hX := hE
        rw [rdN_pbad g1 hk g2 (by omega)] at hX
        rw [← hX]
        refine q_retH (0) [] [_, _] [_, _] [(_, _)] ?_ (hobj := by repeat' (first | exact trivial | exact lv_ok rfl | exact lv_sl rfl rfl | exact lv_rn rfl rfl .row rfl | exact lv_ptr rfl rfl | exact lv_mp rfl rfl | exact lv_nilz | exact lv_any | exact lv_row0 rfl rfl .row (fun _ => rfl) (Nat.le_of_ble_eq_true rfl) (fun _ => rfl) | exact lobj_row (fun _ => rfl) | exact lobj_rown (fun _ => rfl) | exact lobj_me (fun _ => rfl) | refine lobj_box ?_ | refine ⟨rfl, ⟨_, rfl, ?_⟩, ?_⟩ | refine ⟨?_, ?_⟩)) (h2 := by repeat' (first | exact trivial | exact lv_ok rfl | exact lv_ptr rfl rfl | exact lv_sl rfl rfl | exact lv_nilz | exact lv_row0 rfl rfl .row (fun _ => rfl) (Nat.le_of_ble_eq_true rfl) (fun _ => rfl) | refine lv_agg ?_ | exact lv_any | refine ⟨?_, ?_⟩))
        rfl
       ·
        refine AOps.nil ?_
        refine AWp.cond_f rfl ?_
        refine AWp.skip ?_
        refine AWp.seq ?_
        refine AWp.seq ?_
        refine AWp.region ?_
        have g3 : toI b p < fi := by omega
        refine AOps.bool rfl rfl (q_move) (fun h27_0 => ?_) (fun h27_0 => ?_)
        ·
         refine AOps.cons rfl rfl (q_not) ?_
         refine AOps.nil ?_
         refine AWp.cond_f rfl ?_
         refine AWp.skip ?_
         refine AWp.region ?_
         obtain ⟨a, rfl⟩ := Option.isSome_iff_exists.1 h27_0
         refine AOps.cons rfl rfl (q_move) ?_
         refine AOps.cons rfl rfl (q_move) ?_
         refine AOps.cons rfl rfl (q_assign) ?_
         refine AOps.cons rfl rfl (q_assign) ?_
         refine AOps.cons rfl rfl (q_assign) ?_
         refine AOps.nil ?_
         refine ⟨(toI b p, toI b p, some a, n), ?_, Back.mk' (HasT.cons (HasT.cons (HasT.cons (HasT.cons HasT.nil)))) (HasH.cons HasH.nil), ?_⟩
         ·
          try dsimp only
          exact ⟨by rw [← hE, rdN_ptr g1 hk g2 g3]; rfl, hN, by omega, by omega⟩
         ·
          try dsimp only
          have := Nat.mul_le_mul_right (b.length + 1) (show toI b p + 1 ≤ fi by omega)
          rw [Nat.succ_mul] at this
          have h9 : liB b en (some a) = b.length := rfl
          omega
        ·
         refine AOps.cons rfl rfl (q_not) ?_
         refine AOps.nil ?_
         refine AWp.cond_t rfl ?_
         refine AWp.region ?_
         obtain rfl : bh = none := by simpa using h27_0
         refine AOps.cons rfl rfl (q_move) ?_
         refine AOps.cons rfl rfl (q_move) ?_
         refine AOps.cons rfl rfl (q_add) ?_
         refine AOps.cons rfl rfl (q_nil) ?_
         refine AOps.cons rfl rfl (q_fa) ?_
         refine AOps.cons rfl rfl (q_store) ?_
         refine AOps.nil ?_
         refine AWp.region ?_
         refine AOps.cons rfl rfl (q_move) ?_
         refine AOps.cons rfl rfl (q_move) ?_
         refine AOps.cons rfl rfl (q_assign) ?_
         refine AOps.cons rfl rfl (q_assign) ?_
         refine AOps.cons rfl rfl (q_assign) ?_
         refine AOps.nil ?_
         refine ⟨(toI b p, toI b p, some (p + 2), n), ?_, Back.mk' (HasT.cons (HasT.cons (HasT.cons (HasT.cons HasT.nil)))) (HasH.cons HasH.nil), ?_⟩
         ·
          try dsimp only
          exact ⟨by rw [← hE, rdN_ptr g1 hk g2 g3]; rfl, hN, by omega, by omega⟩
         ·
          try dsimp only
          have := Nat.mul_le_mul_right (b.length + 1) (show toI b p + 1 ≤ fi by omega)
          rw [Nat.succ_mul] at this
          have h9 : liB b en (some (p + 2)) = b.length := rfl
          omega
     ·
      refine AOps.cons rfl rfl (q_assign) ?_
      refine AOps.nil ?_
      refine AWp.cond_f rfl ?_
      refine AWp.seq ?_
      refine AWp.region ?_
      refine AOps.cons rfl rfl (q_move) ?_
      refine AOps.dec rfl rfl (q_geq) (fun h30_1 => ?_) (fun h30_1 => ?_)
      ·
       refine AOps.cons rfl rfl (q_assign) ?_
       refine AOps.nil ?_
       refine AWp.cond_t rfl ?_
       refine AWp.seq ?_
       refine AWp.region ?_
       refine AOps.cons rfl rfl (q_assign) ?_
       refine AOps.cons rfl rfl (q_assign) ?_
       refine AOps.nil ?_
       refine AWp.ret ?_
       show Fin te Try.f73 _ _
       have hX := hE
       rw [rdN_label g1 (by omega) (by omega)] at hX
       rw [← hX]
       refine q_retH (0) [] [_, _] [_, _] [(_, _)] ?_ (hobj := by repeat' (first | exact trivial | exact lv_ok rfl | exact lv_sl rfl rfl | exact lv_rn rfl rfl .row rfl | exact lv_ptr rfl rfl | exact lv_mp rfl rfl | exact lv_nilz | exact lv_any | exact lv_row0 rfl rfl .row (fun _ => rfl) (Nat.le_of_ble_eq_true rfl) (fun _ => rfl) | exact lobj_row (fun _ => rfl) | exact lobj_rown (fun _ => rfl) | exact lobj_me (fun _ => rfl) | refine lobj_box ?_ | refine ⟨rfl, ⟨_, rfl, ?_⟩, ?_⟩ | refine ⟨?_, ?_⟩)) (h2 := by repeat' (first | exact trivial | exact lv_ok rfl | exact lv_ptr rfl rfl | exact lv_sl rfl rfl | exact lv_nilz | exact lv_row0 rfl rfl .row (fun _ => rfl) (Nat.le_of_ble_eq_true rfl) (fun _ => rfl) | refine lv_agg ?_ | exact lv_any | refine ⟨?_, ?_⟩))
       rfl
      ·
       refine AOps.cons rfl rfl (q_assign) ?_
       refine AOps.nil ?_
       refine AWp.cond_f rfl ?_
       refine AWp.seq ?_
       refine AWp.seq ?_
       refine AWp.region ?_
       have hk0 : kB b p ≠ 0 := by omega
       have hk1 : ¬ 64 ≤ kB b p := by omega
       refine AOps.cons rfl rfl (q_move) ?_
       refine AOps.cons rfl rfl (q_add) ?_
       refine AOps.cons rfl rfl (q_move) ?_
       refine AOps.cons rfl rfl (q_add) ?_
       refine AOps.cons rfl rfl (q_move) ?_
       refine AOps.dec rfl rfl (q_gtr) (fun h9_5 => ?_) (fun h9_5 => ?_)
       ·
        refine AOps.nil ?_
        refine AWp.cond_t rfl ?_
        refine AWp.seq ?_
        refine AWp.region ?_
        refine AOps.cons rfl rfl (q_assign) ?_
        refine AOps.cons rfl rfl (q_assign) ?_
        refine AOps.nil ?_
        refine AWp.ret ?_
        show Fin te Try.f73 _ _
        have hX := hE
        rw [rdN_lshort g1 hk0 hk1 (by omega)] at hX
        rw [← hX]
        refine q_retH (0) [] [_, _] [_, _] [(_, _)] ?_ (hobj := by repeat' (first | exact trivial | exact lv_ok rfl | exact lv_sl rfl rfl | exact lv_rn rfl rfl .row rfl | exact lv_ptr rfl rfl | exact lv_mp rfl rfl | exact lv_nilz | exact lv_any | exact lv_row0 rfl rfl .row (fun _ => rfl) (Nat.le_of_ble_eq_true rfl) (fun _ => rfl) | exact lobj_row (fun _ => rfl) | exact lobj_rown (fun _ => rfl) | exact lobj_me (fun _ => rfl) | refine lobj_box ?_ | refine ⟨rfl, ⟨_, rfl, ?_⟩, ?_⟩ | refine ⟨?_, ?_⟩)) (h2 := by repeat' (first | exact trivial | exact lv_ok rfl | exact lv_ptr rfl rfl | exact lv_sl rfl rfl | exact lv_nilz | exact lv_row0 rfl rfl .row (fun _ => rfl) (Nat.le_of_ble_eq_true rfl) (fun _ => rfl) | refine lv_agg ?_ | exact lv_any | refine ⟨?_, ?_⟩))
        rfl
       ·
        refine AOps.nil ?_
        refine AWp.cond_f rfl ?_
        refine AWp.skip ?_
        refine AWp.seq ?_
        refine AWp.region ?_
        have g2 : ¬ li < p + 1 + kB b p := by omega
        refine AOps.cons rfl rfl (q_move) ?_
        refine AOps.cons rfl rfl (q_move) ?_
        refine AOps.cons rfl rfl (q_nil) ?_
        refine AOps.cons rfl rfl (q_fa) ?_
        refine AOps.cons rfl rfl (q_load) ?_
        refine AOps.cons rfl rfl (q_move) ?_
        refine AOps.cons rfl rfl (q_move) ?_
        refine AOps.cons rfl rfl (q_add) ?_
        refine AOps.cons rfl rfl (q_move) ?_
        refine AOps.cons rfl rfl (q_add) ?_
        refine AOps.cons rfl rfl (q_sl) ?_
        refine AOps.cons rfl rfl (by first | exact q_conv_zs | exact q_conv_ls) ?_
        refine AOps.cons rfl rfl (q_sadd) ?_
        refine AOps.cons rfl rfl (q_assign) ?_
        refine AOps.nil ?_
        refine AWp.seq ?_
        refine AWp.region ?_
        rw [show ((p : Int) + 1 + (kB b p : Int)).toNat = p + 1 + kB b p by omega, show ((p : Nat) : Int).toNat = p by omega]
        obtain ⟨N, hNN⟩ : ∃ N, N = n ++ (b.take (p + 1 + kB b p)).drop p := ⟨_, rfl⟩
        rw [← hNN]
        have hNl : N.length = n.length + (1 + kB b p) := by rw [hNN, List.length_append, List.length_drop, List.length_take]; omega
        refine AOps.cons rfl rfl (q_move) ?_
        refine AOps.cons rfl rfl (q_move) ?_
        refine AOps.cons rfl rfl (q_add) ?_
        refine AOps.cons rfl rfl (q_add) ?_
        refine AOps.cons rfl rfl (q_assign) ?_
        refine AOps.nil ?_
        refine AWp.seq ?_
        refine AWp.region ?_
        refine AOps.cons rfl rfl (q_move) ?_
        refine AOps.cons rfl rfl (q_len_str) ?_
        refine AOps.cons rfl rfl (q_add) ?_
        refine AOps.dec rfl rfl (q_gtr) (fun h13_3 => ?_) (fun h13_3 => ?_)
        ·
         refine AOps.nil ?_
         refine AWp.cond_t rfl ?_
         refine AWp.seq ?_
         refine AWp.region ?_
         refine AOps.cons rfl rfl (q_assign) ?_
         refine AOps.cons rfl rfl (q_assign) ?_
         refine AOps.nil ?_
         refine AWp.ret ?_
         show Fin te Try.f73 _ _
         have hX := hE
         rw [rdN_llong g1 hk0 hk1 g2 (by rw [← hNN]; omega)] at hX
         rw [← hX]
         refine q_retH (0) [] [_, _] [_, _] [(_, _)] ?_ (hobj := by repeat' (first | exact trivial | exact lv_ok rfl | exact lv_sl rfl rfl | exact lv_rn rfl rfl .row rfl | exact lv_ptr rfl rfl | exact lv_mp rfl rfl | exact lv_nilz | exact lv_any | exact lv_row0 rfl rfl .row (fun _ => rfl) (Nat.le_of_ble_eq_true rfl) (fun _ => rfl) | exact lobj_row (fun _ => rfl) | exact lobj_rown (fun _ => rfl) | exact lobj_me (fun _ => rfl) | refine lobj_box ?_ | refine ⟨rfl, ⟨_, rfl, ?_⟩, ?_⟩ | refine ⟨?_, ?_⟩)) (h2 := by repeat' (first | exact trivial | exact lv_ok rfl | exact lv_ptr rfl rfl | exact lv_sl rfl rfl | exact lv_nilz | exact lv_row0 rfl rfl .row (fun _ => rfl) (Nat.le_of_ble_eq_true rfl) (fun _ => rfl) | refine lv_agg ?_ | exact lv_any | refine ⟨?_, ?_⟩))
         rfl
        ·
         refine AOps.nil ?_
         refine AWp.cond_f rfl ?_
         refine AWp.skip ?_
         refine ⟨(p + 1 + kB b p, fi, bh, N), ?_, Back.mk' (HasT.cons (HasT.cons (HasT.cons (HasT.cons HasT.nil))) (h1 := by exact i64_eq (by omega)) ) (HasH.cons HasH.nil), ?_⟩
         ·
          try dsimp only
          exact ⟨by rw [← hli0, ← hE, rdN_lab g1 hk0 hk1 g2 (by rw [← hNN]; omega), ← hNN], by omega, by omega, hF⟩
         ·
          try dsimp only
          rw [← hli0]; omega
end Go.Proofs.Ytkfccjbihcbmiaa.Fw


set_option linter.unusedVariables false
set_option linter.unusedSimpArgs false
namespace Go.Proofs.Ytkfccjbihcbmiaa.Fw
open Go.RowKit
section
variable {b : List UInt8} {p0 en : Nat}
theorem c_rrname_ok {a : List UInt8 × Nat} (hb : b.length ≤ 65535) (he : en ≤ b.length) (hp : p0 ≤ 100000) (h : rdN b 20 p0 p0 en none [] = .ok a) : AC Try.prog 73 [.ptr 0 0 0, i64 en] (hlook [(0, .box [.fz 0 b.length (cl bc b), i64 p0])]) (RetH (.tup [str a.1, i64 0]) [(0, .box [.fz 0 b.length (cl bc b), i64 a.2])]) := by
  have := c_rrdname b p0 en hb he hp
  rw [h] at this
  exact this
theorem c_rrname_er {e : Int} (hb : b.length ≤ 65535) (he : en ≤ b.length) (hp : p0 ≤ 100000) (h : rdN b 20 p0 p0 en none [] = .error e) : AC Try.prog 73 [.ptr 0 0 0, i64 en] (hlook [(0, .box [.fz 0 b.length (cl bc b), i64 p0])]) (RetH (.tup [str [], i64 e]) [(0, .box [.fz 0 b.length (cl bc b), .any])]) := by
  have := c_rrdname b p0 en hb he hp
  rw [h] at this
  exact this
end
def shE (r : Except Int (List UInt8 × Nat)) : Except Int (List UInt8 × Nat) := match r with
  | .error e => .error (if e = 20 then 30 else e)
  | .ok a => .ok a
theorem rdN_sh {b : List UInt8} : ∀ (p fi li : Nat) (bh : Option Nat) (n : List UInt8), rdN b 30 p fi li bh n = shE (rdN b 20 p fi li bh n) := by
  intro p fi li bh n
  induction p, fi, li, bh, n using rdN.induct b with
  | case1 p fi li bh n h => rw [rdN_short h, rdN_short h]; rfl
  | case2 p fi li bh n h h1 h2 => rw [rdN_end h h1 h2, rdN_end h h1 h2]; rfl
  | case3 p fi li bh n h h1 h2 => rw [rdN_long0 h h1 h2, rdN_long0 h h1 h2]; rfl
  | case4 p fi li bh n h h1 h2 h3 => rw [rdN_pshort h h2 h3, rdN_pshort h h2 h3]; rfl
  | case5 p fi li bh n h h1 h2 h3 h4 ih => rw [rdN_ptr h h2 h3 h4, rdN_ptr h h2 h3 h4]; exact ih
  | case6 p fi li bh n h h1 h2 h3 h4 => rw [rdN_pbad h h2 h3 h4, rdN_pbad h h2 h3 h4]; rfl
  | case7 p fi li bh n h h1 h2 h3 => rw [rdN_label h h3 h2, rdN_label h h3 h2]; rfl
  | case8 p fi li bh n h h1 h2 h3 h4 => rw [rdN_lshort h h1 h3 h4, rdN_lshort h h1 h3 h4]; rfl
  | case9 p fi li bh n h h1 h2 h3 h4 h5 ih => rw [rdN_lab h h1 h3 h4 h5, rdN_lab h h1 h3 h4 h5]; exact ih
  | case10 p fi li bh n h h1 h2 h3 h4 h5 => rw [rdN_llong h h1 h3 h4 h5, rdN_llong h h1 h3 h4 h5]; rfl
theorem bN_get {b : List UInt8} {p w i : Nat} (h : i < w) : ((b.take (p + w)).drop p).getD i default = b.getD (p + i) default := by
  simp only [List.getD_eq_getElem?_getD, List.getElem?_drop, List.getElem?_take]
  rw [if_pos (by omega)]
def preN (t : Int) : Nat := if t = 15 then 2 else 0
set_option maxRecDepth 20000 in
set_option maxHeartbeats 2000000 in
theorem c_rrnum_ok (b : List UInt8) (p0 w : Nat) (hb : b.length ≤ 65535) (hp : p0 ≤ 200000) (hw : w ≤ 4) (h : p0 + w ≤ b.length) : AC Try.prog 74 [.ptr 0 0 0, i64 w] (hlook [(0, .box [.fz 0 b.length (cl bc b), i64 p0])]) (RetH (.tup [i64 (bN b p0 w), tf true]) [(0, .box [.fz 0 b.length (cl bc b), i64 ((p0 + w : Nat) : Int)])]) := by
 refine AC.intro te_ok (fn := Try.f74) ⟨Try.func74, rfl, rfl⟩ (Nat.le_of_ble_eq_true rfl) ?_
 refine AWp.seq ?_
 refine AWp.region ?_
 refine AOps.cons rfl rfl (q_assign) ?_
 refine AOps.cons rfl rfl (q_assign) ?_
 refine AOps.nil ?_
 refine AWp.seq ?_
 refine AWp.seq ?_
 refine AWp.draws [⟨0, [0], [], some 7, _, []⟩,
     ⟨1, [7], [0], some 8, _, []⟩,
     ⟨2, [8], [0], some 9, _, []⟩,
     ⟨3, [9], [0], some 10, _, []⟩,
     ⟨4, [10], [], some 11, _, []⟩,
     ⟨5, [0], [], some 12, _, []⟩,
     ⟨6, [12], [0], some 13, _, []⟩,
     ⟨7, [13], [0], some 14, _, []⟩,
     ⟨8, [14], [0], some 15, _, []⟩,
     ⟨9, [11, 15], [], some 16, _, []⟩,
     ⟨10, [1], [], some 17, _, []⟩,
     ⟨11, [16, 17], [], some 18, _, []⟩]
  [⟨0, [0], [], some 7, .any, []⟩,
      ⟨1, [7], [0], some 8, .any, []⟩,
      ⟨2, [8], [0], some 9, .any, []⟩,
      ⟨3, [9], [0], some 10, .any, []⟩,
      ⟨4, [10], [], some 11, .any, []⟩,
      ⟨5, [0], [], some 12, .any, []⟩,
      ⟨6, [12], [0], some 13, .any, []⟩,
      ⟨7, [13], [0], some 14, .any, []⟩,
      ⟨8, [14], [0], some 15, .any, []⟩,
      ⟨9, [11, 15], [], some 16, .any, []⟩,
      ⟨10, [1], [], some 17, .any, []⟩,
      ⟨11, [16, 17], [], some 18, .any, []⟩]
  mixed_ok rfl (by kernel_rfl) ⟨DS.ok_over fun s0 => OpAt.go rfl rfl (q_move),
      DS.ok_over fun s0 => OpAt.go rfl rfl (q_nil),
      DS.ok_over fun s0 => OpAt.go rfl rfl (q_fa),
      DS.ok_over fun s0 => OpAt.go rfl rfl (q_load),
      DS.ok_over fun s0 => OpAt.go rfl rfl (q_len),
      DS.ok_over fun s0 => OpAt.go rfl rfl (q_move),
      DS.ok_over fun s0 => OpAt.go rfl rfl (q_nil),
      DS.ok_over fun s0 => OpAt.go rfl rfl (q_fa),
      DS.ok_over fun s0 => OpAt.go rfl rfl (q_load),
      DS.ok_over fun s0 => OpAt.go rfl rfl (q_sub),
      DS.ok_over fun s0 => OpAt.go rfl rfl (q_move),
      DS.ok_over fun s0 => OpAt.go rfl rfl ((OpOk.dec_f (q_lss) (by omega))), trivial⟩ ?_
 dsimp only [final, DS.upd, AS.seto]
 refine AWp.cond_f rfl ?_
 refine AWp.skip ?_
 refine AWp.seq ?_
 refine AWp.region ?_
 refine AOps.cons rfl rfl (q_assign) ?_
 refine AOps.nil ?_
 refine AWp.seq ?_
 refine AWp.seq ?_
 refine AWp.region ?_
 refine AOps.cons rfl rfl (q_move) ?_
 refine AOps.cons rfl rfl (q_move) ?_
 refine AOps.nil ?_
 refine AWp.block ?_
 refine AWp.loopR (α := Nat) [6, 20, 21, 22, 23, 24, 25, 26, 27, 28, 29, 30, 31, 32, 33, 34, 35, 36, 37, 38, 39, 40, 41, 42, 43] (fun i => [(20, i64 i), (6, i64 (nV (((b.take (p0 + w)).drop p0).take i)))]) (fun i => [(0, .box [.fz 0 b.length (cl bc b), i64 ((p0 + i : Nat) : Int)])]) (fun i => i ≤ w) (fun i => w - i) 0 ?_ (Back.mk' (HasT.cons (HasT.cons HasT.nil)) (HasH.cons HasH.nil)) ?_
 ·
  exact Nat.zero_le _
 ·
  rintro i hi
  have hSl : ((b.take (p0 + w)).drop p0).length = w := by rw [List.length_drop, List.length_take]; omega
  have hv : nV (((b.take (p0 + w)).drop p0).take i) < 4294967296 := nV_lt4 (by rw [List.length_take]; omega)
  refine AWp.seq ?_
  refine AWp.region ?_
  refine AOps.dec rfl rfl (q_lss) (fun h5_0 => ?_) (fun h5_0 => ?_)
  ·
   refine AOps.nil ?_
   refine AWp.seq ?_
   refine AWp.cond_t rfl ?_
   refine AWp.skip ?_
   refine AWp.seq ?_
   refine AWp.block ?_
   refine AWp.seq ?_
   have hq1 := (b.getD ((p0 + i : Nat) : Int).toNat default).toNat_lt
   have hq2 : (b[p0 + i]?.getD default).toNat < 256 := (b[p0 + i]?.getD default).toNat_lt
   refine AWp.draws [⟨0, [6], [], some 22, _, []⟩,
       ⟨1, [22], [], some 23, _, []⟩,
       ⟨2, [0], [], some 24, _, []⟩,
       ⟨3, [24], [0], some 25, _, []⟩,
       ⟨4, [25], [0], some 26, _, []⟩,
       ⟨5, [26], [0], some 27, _, []⟩,
       ⟨6, [0], [], some 28, _, []⟩,
       ⟨7, [28], [0], some 29, _, []⟩,
       ⟨8, [29], [0], some 30, _, []⟩,
       ⟨9, [30], [0], some 31, _, []⟩,
       ⟨10, [27, 31], [], some 32, _, []⟩,
       ⟨11, [32], [], some 33, _, []⟩,
       ⟨12, [33], [], some 34, _, []⟩,
       ⟨13, [23, 34], [], some 35, _, []⟩,
       ⟨14, [35], [], some 6, _, []⟩]
    [⟨0, [6], [], some 22, .any, []⟩,
        ⟨1, [22], [], some 23, .any, []⟩,
        ⟨2, [0], [], some 24, .any, []⟩,
        ⟨3, [24], [0], some 25, .any, []⟩,
        ⟨4, [25], [0], some 26, .any, []⟩,
        ⟨5, [26], [0], some 27, .any, []⟩,
        ⟨6, [0], [], some 28, .any, []⟩,
        ⟨7, [28], [0], some 29, .any, []⟩,
        ⟨8, [29], [0], some 30, .any, []⟩,
        ⟨9, [30], [0], some 31, .any, []⟩,
        ⟨10, [27, 31], [], some 32, .any, []⟩,
        ⟨11, [32], [], some 33, .any, []⟩,
        ⟨12, [33], [], some 34, .any, []⟩,
        ⟨13, [23, 34], [], some 35, .any, []⟩,
        ⟨14, [35], [], some 6, .any, []⟩]
    mixed_ok rfl (by kernel_rfl) ⟨DS.ok_over fun s0 => OpAt.go rfl rfl (q_move),
        DS.ok_over fun s0 => OpAt.go rfl rfl (q_mul),
        DS.ok_over fun s0 => OpAt.go rfl rfl (q_move),
        DS.ok_over fun s0 => OpAt.go rfl rfl (q_nil),
        DS.ok_over fun s0 => OpAt.go rfl rfl (q_fa),
        DS.ok_over fun s0 => OpAt.go rfl rfl (q_load),
        DS.ok_over fun s0 => OpAt.go rfl rfl (q_move),
        DS.ok_over fun s0 => OpAt.go rfl rfl (q_nil),
        DS.ok_over fun s0 => OpAt.go rfl rfl (q_fa),
        DS.ok_over fun s0 => OpAt.go rfl rfl (q_load),
        DS.ok_over fun s0 => OpAt.go rfl rfl (q_ix),
        DS.ok_over fun s0 => OpAt.go rfl rfl (q_load),
        DS.ok_over fun s0 => OpAt.go rfl rfl (q_conv_8i),
        DS.ok_over fun s0 => OpAt.go rfl rfl (q_add),
        DS.ok_over fun s0 => OpAt.go rfl rfl (q_assign), trivial⟩ ?_
   dsimp only [final, DS.upd, AS.seto]
   refine AWp.region ?_
   refine AOps.cons rfl rfl (q_move) ?_
   refine AOps.cons rfl rfl (q_nil) ?_
   refine AOps.cons rfl rfl (q_fa) ?_
   refine AOps.cons rfl rfl (q_load) ?_
   refine AOps.cons rfl rfl (q_add) ?_
   refine AOps.cons rfl rfl (q_nil) ?_
   refine AOps.cons rfl rfl (q_fa) ?_
   refine AOps.cons rfl rfl (q_store) ?_
   refine AOps.nil ?_
   refine AWp.region ?_
   refine AOps.cons rfl rfl (q_add) ?_
   refine AOps.cons rfl rfl (q_move) ?_
   refine AOps.nil ?_
   have hgt := bN_get (b := b) (p := p0) (w := w) (i := i) (by omega)
   refine ⟨i + 1, ?_, Back.mk' (HasT.cons (HasT.cons HasT.nil (h1 := by exact i64_eq (by rw [take_step' (by omega), nV_snoc, hgt]; push_cast; rfl)) )) (HasH.cons HasH.nil), ?_⟩
   ·
    first | assumption | omega | decide | (simp; omega) | (simp [*]; done)
   ·
    first | omega | (simp; omega)
  ·
   refine AOps.nil ?_
   refine AWp.seq ?_
   refine AWp.cond_f rfl ?_
   refine AWp.exit ?_
   refine AWp.seq ?_
   refine AWp.region ?_
   refine AOps.cons rfl rfl (q_move) ?_
   refine AOps.cons rfl rfl (q_assign) ?_
   refine AOps.cons rfl rfl (q_assign) ?_
   refine AOps.nil ?_
   refine AWp.ret ?_
   show Fin te Try.f74 _ _
   obtain rfl : i = w := by omega
   have hSi : ((b.take (p0 + i)).drop p0).take i = (b.take (p0 + i)).drop p0 := List.take_of_length_le (by omega)
   rw [hSi]
   refine q_retH (0) [] [_, _] [_, _] [(_, _)] ?_
   rfl
set_option maxRecDepth 20000 in
set_option maxHeartbeats 2000000 in
theorem c_rrnum_no (b : List UInt8) (p0 w : Nat) (hb : b.length ≤ 65535) (hp : p0 ≤ 200000) (hw : w ≤ 4) (h : ¬ p0 + w ≤ b.length) : AC Try.prog 74 [.ptr 0 0 0, i64 w] (hlook [(0, .box [.fz 0 b.length (cl bc b), i64 p0])]) (RetH (.tup [i64 0, tf false]) [(0, .box [.fz 0 b.length (cl bc b), i64 p0])]) := by
 refine AC.intro te_ok (fn := Try.f74) ⟨Try.func74, rfl, rfl⟩ (Nat.le_of_ble_eq_true rfl) ?_
 refine AWp.seq ?_
 refine AWp.region ?_
 refine AOps.cons rfl rfl (q_assign) ?_
 refine AOps.cons rfl rfl (q_assign) ?_
 refine AOps.nil ?_
 refine AWp.seq ?_
 refine AWp.seq ?_
 refine AWp.draws [⟨0, [0], [], some 7, _, []⟩,
     ⟨1, [7], [0], some 8, _, []⟩,
     ⟨2, [8], [0], some 9, _, []⟩,
     ⟨3, [9], [0], some 10, _, []⟩,
     ⟨4, [10], [], some 11, _, []⟩,
     ⟨5, [0], [], some 12, _, []⟩,
     ⟨6, [12], [0], some 13, _, []⟩,
     ⟨7, [13], [0], some 14, _, []⟩,
     ⟨8, [14], [0], some 15, _, []⟩,
     ⟨9, [11, 15], [], some 16, _, []⟩,
     ⟨10, [1], [], some 17, _, []⟩,
     ⟨11, [16, 17], [], some 18, _, []⟩]
  [⟨0, [0], [], some 7, .any, []⟩,
      ⟨1, [7], [0], some 8, .any, []⟩,
      ⟨2, [8], [0], some 9, .any, []⟩,
      ⟨3, [9], [0], some 10, .any, []⟩,
      ⟨4, [10], [], some 11, .any, []⟩,
      ⟨5, [0], [], some 12, .any, []⟩,
      ⟨6, [12], [0], some 13, .any, []⟩,
      ⟨7, [13], [0], some 14, .any, []⟩,
      ⟨8, [14], [0], some 15, .any, []⟩,
      ⟨9, [11, 15], [], some 16, .any, []⟩,
      ⟨10, [1], [], some 17, .any, []⟩,
      ⟨11, [16, 17], [], some 18, .any, []⟩]
  mixed_ok rfl (by kernel_rfl) ⟨DS.ok_over fun s0 => OpAt.go rfl rfl (q_move),
      DS.ok_over fun s0 => OpAt.go rfl rfl (q_nil),
      DS.ok_over fun s0 => OpAt.go rfl rfl (q_fa),
      DS.ok_over fun s0 => OpAt.go rfl rfl (q_load),
      DS.ok_over fun s0 => OpAt.go rfl rfl (q_len),
      DS.ok_over fun s0 => OpAt.go rfl rfl (q_move),
      DS.ok_over fun s0 => OpAt.go rfl rfl (q_nil),
      DS.ok_over fun s0 => OpAt.go rfl rfl (q_fa),
      DS.ok_over fun s0 => OpAt.go rfl rfl (q_load),
      DS.ok_over fun s0 => OpAt.go rfl rfl (q_sub),
      DS.ok_over fun s0 => OpAt.go rfl rfl (q_move),
      DS.ok_over fun s0 => OpAt.go rfl rfl ((OpOk.dec_t (q_lss) (by omega))), trivial⟩ ?_
 dsimp only [final, DS.upd, AS.seto]
 refine AWp.cond_t rfl ?_
 refine AWp.seq ?_
 refine AWp.region ?_
 refine AOps.cons rfl rfl (q_assign) ?_
 refine AOps.cons rfl rfl (q_assign) ?_
 refine AOps.nil ?_
 refine AWp.ret ?_
 show Fin te Try.f74 _ _
 refine q_retH (0) [] [_, _] [_, _] [(_, _)] ?_
 rfl
set_option maxRecDepth 20000 in
set_option maxHeartbeats 2000000 in
theorem c_rrnames (t : Int) : AC Try.prog 99 [i64 t] emp (Ret (.tup [i64 (nCnt t), i64 (preN t)])) := by
 refine AC.intro te_ok (fn := Try.f99) ⟨Try.func99, rfl, rfl⟩ (Nat.le_of_ble_eq_true rfl) ?_
 refine AWp.seq ?_
 refine AWp.region ?_
 refine AOps.cons rfl rfl (q_assign) ?_
 refine AOps.cons rfl rfl (q_assign) ?_
 refine AOps.nil ?_
 refine AWp.seq ?_
 refine AWp.seq ?_
 refine AWp.region ?_
 refine AOps.cons rfl rfl (q_move) ?_
 refine AOps.nil ?_
 refine AWp.block ?_
 refine AWp.seq ?_
 refine AWp.seq ?_
 refine AWp.region ?_
 refine AOps.dec rfl rfl (q_eql) (fun h2_0 => ?_) (fun h2_0 => ?_)
 ·
  refine AOps.cons rfl rfl (q_assign) ?_
  refine AOps.nil ?_
  refine AWp.cond_t rfl ?_
  refine AWp.skip ?_
  refine AWp.cond_t rfl ?_
  refine AWp.seq ?_
  refine AWp.region ?_
  refine AOps.cons rfl rfl (q_assign) ?_
  refine AOps.cons rfl rfl (q_assign) ?_
  refine AOps.nil ?_
  refine AWp.ret ?_
  show Fin te Try.f99 _ _
  refine q_ret (0) [_, _] [_, _] ?_
  rw [nCnt, preN]; simp [*]; try rfl
 ·
  refine AOps.cons rfl rfl (q_assign) ?_
  refine AOps.nil ?_
  refine AWp.cond_f rfl ?_
  refine AWp.seq ?_
  refine AWp.region ?_
  refine AOps.dec rfl rfl (q_eql) (fun h3_0 => ?_) (fun h3_0 => ?_)
  ·
   refine AOps.cons rfl rfl (q_assign) ?_
   refine AOps.nil ?_
   refine AWp.cond_t rfl ?_
   refine AWp.skip ?_
   refine AWp.cond_t rfl ?_
   refine AWp.seq ?_
   refine AWp.region ?_
   refine AOps.cons rfl rfl (q_assign) ?_
   refine AOps.cons rfl rfl (q_assign) ?_
   refine AOps.nil ?_
   refine AWp.ret ?_
   show Fin te Try.f99 _ _
   refine q_ret (0) [_, _] [_, _] ?_
   rw [nCnt, preN]; simp [*]; try rfl
  ·
   refine AOps.cons rfl rfl (q_assign) ?_
   refine AOps.nil ?_
   refine AWp.cond_f rfl ?_
   refine AWp.region ?_
   refine AOps.dec rfl rfl (q_eql) (fun h4_0 => ?_) (fun h4_0 => ?_)
   ·
    refine AOps.cons rfl rfl (q_assign) ?_
    refine AOps.nil ?_
    refine AWp.cond_t rfl ?_
    refine AWp.seq ?_
    refine AWp.region ?_
    refine AOps.cons rfl rfl (q_assign) ?_
    refine AOps.cons rfl rfl (q_assign) ?_
    refine AOps.nil ?_
    refine AWp.ret ?_
    show Fin te Try.f99 _ _
    refine q_ret (0) [_, _] [_, _] ?_
    rw [nCnt, preN]; simp [*]; try rfl
   ·
    refine AOps.cons rfl rfl (q_assign) ?_
    refine AOps.nil ?_
    refine AWp.cond_f rfl ?_
    refine AWp.seq ?_
    refine AWp.region ?_
    refine AOps.dec rfl rfl (q_eql) (fun h6_0 => ?_) (fun h6_0 => ?_)
    ·
     refine AOps.cons rfl rfl (q_assign) ?_
     refine AOps.nil ?_
     refine AWp.cond_t rfl ?_
     refine AWp.seq ?_
     refine AWp.region ?_
     refine AOps.cons rfl rfl (q_assign) ?_
     refine AOps.cons rfl rfl (q_assign) ?_
     refine AOps.nil ?_
     refine AWp.ret ?_
     show Fin te Try.f99 _ _
     refine q_ret (0) [_, _] [_, _] ?_
     rw [nCnt, preN]; simp [*]; try rfl
    ·
     refine AOps.cons rfl rfl (q_assign) ?_
     refine AOps.nil ?_
     refine AWp.cond_f rfl ?_
     refine AWp.seq ?_
     refine AWp.region ?_
     refine AOps.dec rfl rfl (q_eql) (fun h8_0 => ?_) (fun h8_0 => ?_)
     ·
      refine AOps.cons rfl rfl (q_assign) ?_
      refine AOps.nil ?_
      refine AWp.cond_t rfl ?_
      refine AWp.seq ?_
      refine AWp.region ?_
      refine AOps.cons rfl rfl (q_assign) ?_
      refine AOps.cons rfl rfl (q_assign) ?_
      refine AOps.nil ?_
      refine AWp.ret ?_
      show Fin te Try.f99 _ _
      refine q_ret (0) [_, _] [_, _] ?_
      rw [nCnt, preN]; simp [*]; try rfl
     ·
      refine AOps.cons rfl rfl (q_assign) ?_
      refine AOps.nil ?_
      refine AWp.cond_f rfl ?_
      refine AWp.skip ?_
      refine AWp.seq ?_
      refine AWp.region ?_
      refine AOps.cons rfl rfl (q_assign) ?_
      refine AOps.cons rfl rfl (q_assign) ?_
      refine AOps.nil ?_
      refine AWp.ret ?_
      show Fin te Try.f99 _ _
      refine q_ret (0) [_, _] [_, _] ?_
      rw [nCnt, preN]; simp [*]; try rfl
end Go.Proofs.Ytkfccjbihcbmiaa.Fw


set_option linter.unusedVariables false
set_option linter.unusedSimpArgs false
namespace Go.Proofs.Ytkfccjbihcbmiaa.Fw
open Go.RowKit
theorem rdN_ne0 {b : List UInt8} : ∀ (p fi li : Nat) (bh : Option Nat) (n : List UInt8) {e : Int}, rdN b 20 p fi li bh n = .error e → e ≠ 0 := by
  intro p fi li bh n
  induction p, fi, li, bh, n using rdN.induct b with
  | case1 p fi li bh n h => intro e k; rw [rdN_short h] at k; cases k; decide
  | case2 p fi li bh n h h1 h2 => intro e k; rw [rdN_end h h1 h2] at k; cases k
  | case3 p fi li bh n h h1 h2 => intro e k; rw [rdN_long0 h h1 h2] at k; cases k; decide
  | case4 p fi li bh n h h1 h2 h3 => intro e k; rw [rdN_pshort h h2 h3] at k; cases k; decide
  | case5 p fi li bh n h h1 h2 h3 h4 ih => intro e k; rw [rdN_ptr h h2 h3 h4] at k; exact ih k
  | case6 p fi li bh n h h1 h2 h3 h4 => intro e k; rw [rdN_pbad h h2 h3 h4] at k; cases k; decide
  | case7 p fi li bh n h h1 h2 h3 => intro e k; rw [rdN_label h h3 h2] at k; cases k; decide
  | case8 p fi li bh n h h1 h2 h3 h4 => intro e k; rw [rdN_lshort h h1 h3 h4] at k; cases k; decide
  | case9 p fi li bh n h h1 h2 h3 h4 h5 ih => intro e k; rw [rdN_lab h h1 h3 h4 h5] at k; exact ih k
  | case10 p fi li bh n h h1 h2 h3 h4 h5 => intro e k; rw [rdN_llong h h1 h3 h4 h5] at k; cases k; decide
def resD : Except Int (List UInt8) → List UInt8
  | .error _ => []
  | .ok d => d
def atD (en : Nat) : Except Int (List UInt8) → AV
  | .error _ => .any
  | .ok _ => i64 en
theorem pre_acc (b : List UInt8) (t : Int) (p0 : Nat) : ([] ++ (b.take (p0 + preN t)).drop p0 : List UInt8) = (if t = 15 then (b.take (p0 + 2)).drop p0 else []) ∧ p0 + preN t = (if t = 15 then p0 + 2 else p0) := by
  unfold preN
  split
  · exact ⟨rfl, rfl⟩
  · refine ⟨?_, rfl⟩
    rw [List.nil_append, Nat.add_zero, List.drop_take, Nat.sub_self, List.take_zero]
set_option maxRecDepth 20000 in
set_option maxHeartbeats 2000000 in
theorem c_rrdata (b : List UInt8) (t : Int) (p0 en : Nat) (hb : b.length ≤ 65535) (he : en ≤ b.length) (hp : p0 ≤ en) : AC Try.prog 94 [.ptr 0 0 0, i64 t, i64 en] (hlook [(0, .box [.fz 0 b.length (cl bc b), i64 p0])]) (RetH (.tup [.fz 0 (resD (rdD b t p0 en)).length (cl bc (resD (rdD b t p0 en))), i64 (rnE (rdD b t p0 en))]) [(0, .box [.fz 0 b.length (cl bc b), atD en (rdD b t p0 en)])]) := by
 have hc2 := nCnt_le t
 have hpn : preN t = if t = 15 then 2 else 0 := rfl
 obtain ⟨hA0, hP1⟩ := pre_acc b t p0
 refine AC.intro te_ok (fn := Try.f94) ⟨Try.func94, rfl, rfl⟩ (Nat.le_of_ble_eq_true rfl) ?_
 refine AWp.seq ?_
 refine AWp.region ?_
 refine AOps.cons rfl rfl (q_nilz (0) bc) ?_
 refine AOps.cons rfl rfl (q_assign) ?_
 refine AOps.nil ?_
 refine AWp.seq ?_
 refine AWp.region ?_
 refine AOps.cons rfl rfl (q_move) ?_
 refine AOps.cons rfl rfl (q_call (0) (hc := (c_rrnames t))) ?_
 refine AOps.cons rfl rfl (q_move) ?_
 refine AOps.cons rfl rfl (q_extract) ?_
 refine AOps.cons rfl rfl (q_extract) ?_
 refine AOps.cons rfl rfl (q_assign) ?_
 refine AOps.cons rfl rfl (q_assign) ?_
 refine AOps.nil ?_
 refine AWp.seq ?_
 refine AWp.seq ?_
 refine AWp.region ?_
 refine AOps.cons rfl rfl (q_move) ?_
 refine AOps.cons rfl rfl (q_move) ?_
 refine AOps.cons rfl rfl (q_nil) ?_
 refine AOps.cons rfl rfl (q_fa) ?_
 refine AOps.cons rfl rfl (q_load) ?_
 refine AOps.cons rfl rfl (q_sub) ?_
 refine AOps.cons rfl rfl (q_move) ?_
 refine AOps.dec rfl rfl (q_lss) (fun h2_7 => ?_) (fun h2_7 => ?_)
 ·
  refine AOps.nil ?_
  refine AWp.cond_t rfl ?_
  refine AWp.seq ?_
  refine AWp.region ?_
  refine AOps.cons rfl rfl (q_nilz (0) bc) ?_
  refine AOps.cons rfl rfl (q_assign) ?_
  refine AOps.nil ?_
  refine AWp.ret ?_
  show Fin te Try.f94 _ _
  have h15 : t = 15 := by
    by_cases h15 : t = 15
    · exact h15
    · rw [if_neg h15] at hpn; omega
  rw [if_pos h15] at hpn
  have hX : rdD b t p0 en = .error 30 := by rw [rdD, if_pos ⟨h15, by omega⟩]
  rw [hX]
  refine q_retH (0) [] [_, _] [_, _] [(_, _)] ?_ (hobj := by repeat' (first | exact trivial | exact lv_ok rfl | exact lv_sl rfl rfl | exact lv_rn rfl rfl .row rfl | exact lv_ptr rfl rfl | exact lv_mp rfl rfl | exact lv_nilz | exact lv_any | exact lv_row0 rfl rfl .row (fun _ => rfl) (Nat.le_of_ble_eq_true rfl) (fun _ => rfl) | exact lobj_row (fun _ => rfl) | exact lobj_rown (fun _ => rfl) | exact lobj_me (fun _ => rfl) | refine lobj_box ?_ | refine ⟨rfl, ⟨_, rfl, ?_⟩, ?_⟩ | refine ⟨?_, ?_⟩)) (h2 := by repeat' (first | exact trivial | exact lv_ok rfl | exact lv_ptr rfl rfl | exact lv_sl rfl rfl | exact lv_nilz | exact lv_row0 rfl rfl .row (fun _ => rfl) (Nat.le_of_ble_eq_true rfl) (fun _ => rfl) | refine lv_agg ?_ | exact lv_any | refine ⟨?_, ?_⟩))
  rfl
 ·
  refine AOps.nil ?_
  refine AWp.cond_f rfl ?_
  refine AWp.skip ?_
  refine AWp.seq ?_
  have hg : ¬ (t = 15 ∧ en < p0 + 2) := by
    rintro ⟨h15, h2⟩
    rw [if_pos h15] at hpn; omega
  have hpl : p0 + preN t ≤ en := by omega
  refine AWp.draws [⟨0, [], [500], some 26, _, [(500, _)]⟩,
      ⟨1, [0], [], some 27, _, []⟩,
      ⟨2, [27], [0], some 28, _, []⟩,
      ⟨3, [28], [0], some 29, _, []⟩,
      ⟨4, [29], [0], some 30, _, []⟩,
      ⟨5, [0], [], some 31, _, []⟩,
      ⟨6, [31], [0], some 32, _, []⟩,
      ⟨7, [32], [0], some 33, _, []⟩,
      ⟨8, [33], [0], some 34, _, []⟩,
      ⟨9, [0], [], some 35, _, []⟩,
      ⟨10, [35], [0], some 36, _, []⟩,
      ⟨11, [36], [0], some 37, _, []⟩,
      ⟨12, [37], [0], some 38, _, []⟩,
      ⟨13, [9], [], some 39, _, []⟩,
      ⟨14, [38, 39], [], some 40, _, []⟩,
      ⟨15, [30, 34, 40], [], some 41, _, []⟩,
      ⟨16, [26, 41], [500], some 42, _, [(500, _)]⟩,
      ⟨17, [42], [], some 10, _, []⟩]
   [⟨0, [], [500], some 26, .any, [(500, .box [])]⟩,
       ⟨1, [0], [], some 27, .any, []⟩,
       ⟨2, [27], [0], some 28, .any, []⟩,
       ⟨3, [28], [0], some 29, .any, []⟩,
       ⟨4, [29], [0], some 30, .any, []⟩,
       ⟨5, [0], [], some 31, .any, []⟩,
       ⟨6, [31], [0], some 32, .any, []⟩,
       ⟨7, [32], [0], some 33, .any, []⟩,
       ⟨8, [33], [0], some 34, .any, []⟩,
       ⟨9, [0], [], some 35, .any, []⟩,
       ⟨10, [35], [0], some 36, .any, []⟩,
       ⟨11, [36], [0], some 37, .any, []⟩,
       ⟨12, [37], [0], some 38, .any, []⟩,
       ⟨13, [9], [], some 39, .any, []⟩,
       ⟨14, [38, 39], [], some 40, .any, []⟩,
       ⟨15, [30, 34, 40], [], some 41, .any, []⟩,
       ⟨16, [26, 41], [500], some 42, .any, [(500, .box [])]⟩,
       ⟨17, [42], [], some 10, .any, []⟩]
   mixed_ok rfl (by kernel_rfl) ⟨DS.ok_over fun s0 => OpAt.go rfl rfl (q_bs 500 bc [] []),
       DS.ok_over fun s0 => OpAt.go rfl rfl (q_move),
       DS.ok_over fun s0 => OpAt.go rfl rfl (q_nil),
       DS.ok_over fun s0 => OpAt.go rfl rfl (q_fa),
       DS.ok_over fun s0 => OpAt.go rfl rfl (q_load),
       DS.ok_over fun s0 => OpAt.go rfl rfl (q_move),
       DS.ok_over fun s0 => OpAt.go rfl rfl (q_nil),
       DS.ok_over fun s0 => OpAt.go rfl rfl (q_fa),
       DS.ok_over fun s0 => OpAt.go rfl rfl (q_load),
       DS.ok_over fun s0 => OpAt.go rfl rfl (q_move),
       DS.ok_over fun s0 => OpAt.go rfl rfl (q_nil),
       DS.ok_over fun s0 => OpAt.go rfl rfl (q_fa),
       DS.ok_over fun s0 => OpAt.go rfl rfl (q_load),
       DS.ok_over fun s0 => OpAt.go rfl rfl (q_move),
       DS.ok_over fun s0 => OpAt.go rfl rfl (q_add),
       DS.ok_over fun s0 => OpAt.go rfl rfl (q_sl),
       DS.ok_over fun s0 => OpAt.go rfl rfl (q_app),
       DS.ok_over fun s0 => OpAt.go rfl rfl (q_assign), trivial⟩ ?_
  dsimp only [final, DS.upd, AS.seto]
  rw [show ((p0 : Int) + (preN t : Int)).toNat = p0 + preN t by omega, show ((p0 : Nat) : Int).toNat = p0 by omega]
  refine AWp.seq ?_
  refine AWp.region ?_
  refine AOps.cons rfl rfl (q_move) ?_
  refine AOps.cons rfl rfl (q_nil) ?_
  refine AOps.cons rfl rfl (q_fa) ?_
  refine AOps.cons rfl rfl (q_load) ?_
  refine AOps.cons rfl rfl (q_move) ?_
  refine AOps.cons rfl rfl (q_add) ?_
  refine AOps.cons rfl rfl (q_nil) ?_
  refine AOps.cons rfl rfl (q_fa) ?_
  refine AOps.cons rfl rfl (q_store) ?_
  refine AOps.nil ?_
  refine AWp.seq ?_
  refine AWp.seq ?_
  refine AWp.region ?_
  rw [hA0]
  obtain ⟨A0, hA1⟩ : ∃ A0, A0 = (if t = 15 then (b.take (p0 + 2)).drop p0 else []) := ⟨_, rfl⟩
  rw [← hA1]
  have hAl : A0.length ≤ 2 := by rw [hA1]; split
                                 · rw [List.length_drop, List.length_take]; omega
                                 · simp
  refine AOps.cons rfl rfl (q_move) ?_
  refine AOps.cons rfl rfl (q_move) ?_
  refine AOps.nil ?_
  refine AWp.block ?_
  refine AWp.loopR (α := Nat × List UInt8 × Nat × Nat) [6, 7, 10, 11, 12, 52, 53, 54, 55, 56, 57, 58, 59, 60, 61, 62, 63, 64, 65, 66, 67, 68] (fun x_ => [(52, i64 (x_.1)), (10, .sl 500 (x_.2.2.2) 0 (x_.2.1).length 1)]) (fun x_ => [(0, .box [.fz 0 b.length (cl bc b), i64 (x_.2.2.1)]), (500, .row (cl bc (x_.2.1)) 1 (x_.2.2.2))]) (fun x_ => (x_.1) ≤ nCnt t ∧ rdNs b en (nCnt t - (x_.1)) (x_.2.1) (x_.2.2.1) = rdNs b en (nCnt t) (if t = 15 then (b.take (p0 + 2)).drop p0 else []) (if t = 15 then p0 + 2 else p0) ∧ (x_.2.1).length ≤ 2 + 255 * (x_.1) ∧ (x_.2.2.1) ≤ en) (fun x_ => nCnt t - (x_.1)) (0, A0, p0 + preN t, 1) ?_ (Back.mk' (HasT.cons (HasT.cons HasT.nil)) (HasH.cons (HasH.cons HasH.nil))) ?_
  ·
   exact ⟨Nat.zero_le _, by show rdNs b en (nCnt t - 0) A0 (p0 + preN t) = _; rw [hA1, hP1]; rfl, hAl, hpl⟩
  ·
   rintro ⟨i, ac, p, v⟩ hI7
   change i ≤ nCnt t ∧ rdNs b en (nCnt t - i) ac p = rdNs b en (nCnt t) (if t = 15 then (b.take (p0 + 2)).drop p0 else []) (if t = 15 then p0 + 2 else p0) ∧ ac.length ≤ 2 + 255 * i ∧ p ≤ en at hI7
   obtain ⟨hi, hE, hal, hpe⟩ := hI7
   refine AWp.as (s' := AS.over _ [6, 7, 10, 11, 12, 52, 53, 54, 55, 56, 57, 58, 59, 60, 61, 62, 63, 64, 65, 66, 67, 68] [(52, i64 i), (10, .sl 500 v 0 ac.length 1)] [(0, .box [.fz 0 b.length (cl bc b), i64 p]), (500, .row (cl bc ac) 1 v)]) rfl ?_
   refine AWp.seq ?_
   refine AWp.region ?_
   refine AOps.dec rfl rfl (q_lss) (fun h7_0 => ?_) (fun h7_0 => ?_)
   ·
    refine AOps.nil ?_
    refine AWp.seq ?_
    refine AWp.cond_t rfl ?_
    refine AWp.skip ?_
    refine AWp.seq ?_
    refine AWp.block ?_
    refine AWp.seq ?_
    refine AWp.region ?_
    rcases ha : rdN b 20 p p en none [] with e | a
    ·
     refine AOps.cons rfl rfl (q_move) ?_
     refine AOps.cons rfl rfl (q_move) ?_
     refine AOps.cons rfl rfl (q_callB (0) [(0, 0)] [] [(_, _)] (hc := (c_rrname_er hb he (by omega) ha))) ?_
     refine AOps.cons rfl rfl (q_move) ?_
     refine AOps.cons rfl rfl (q_extract) ?_
     refine AOps.cons rfl rfl (q_extract) ?_
     refine AOps.cons rfl rfl (q_assign) ?_
     refine AOps.cons rfl rfl (q_assign) ?_
     refine AOps.nil ?_
     refine AWp.seq ?_
     refine AWp.seq ?_
     refine AWp.region ?_
     refine AOps.cons rfl rfl (q_move) ?_
     refine AOps.dec rfl rfl (q_eql) (fun h9_1 => ?_) (fun h9_1 => ?_)
     ·
      refine AOps.nil ?_
      refine AWp.cond_t rfl ?_
      refine AWp.seq ?_
      refine AWp.region ?_
      refine AOps.cons rfl rfl (q_nilz (0) bc) ?_
      refine AOps.cons rfl rfl (q_assign) ?_
      refine AOps.nil ?_
      refine AWp.ret ?_
      show Fin te Try.f94 _ _
      have h30 : rdN b 30 p p en none [] = .error (if e = 20 then 30 else e) := by rw [rdN_sh, ha]; rfl
      have hX : rdD b t p0 en = .error (if e = 20 then 30 else e) := by rw [rdD_go hg, ← hE, show nCnt t - i = (nCnt t - (i + 1)) + 1 by omega, rdNs_err h30]; rfl
      rw [hX, if_pos h9_1]
      refine q_retH (0) [] [_, _] [_, _] [(_, _)] ?_ (hobj := by repeat' (first | exact trivial | exact lv_ok rfl | exact lv_sl rfl rfl | exact lv_rn rfl rfl .row rfl | exact lv_ptr rfl rfl | exact lv_mp rfl rfl | exact lv_nilz | exact lv_any | exact lv_row0 rfl rfl .row (fun _ => rfl) (Nat.le_of_ble_eq_true rfl) (fun _ => rfl) | exact lobj_row (fun _ => rfl) | exact lobj_rown (fun _ => rfl) | exact lobj_me (fun _ => rfl) | refine lobj_box ?_ | refine ⟨rfl, ⟨_, rfl, ?_⟩, ?_⟩ | refine ⟨?_, ?_⟩)) (h2 := by repeat' (first | exact trivial | exact lv_ok rfl | exact lv_ptr rfl rfl | exact lv_sl rfl rfl | exact lv_nilz | exact lv_row0 rfl rfl .row (fun _ => rfl) (Nat.le_of_ble_eq_true rfl) (fun _ => rfl) | refine lv_agg ?_ | exact lv_any | refine ⟨?_, ?_⟩))
      rfl
     ·
      refine AOps.nil ?_
      refine AWp.cond_f rfl ?_
      refine AWp.skip ?_
      refine AWp.seq ?_
      refine AWp.seq ?_
      refine AWp.region ?_
      refine AOps.cons rfl rfl (q_move) ?_
      refine AOps.dec rfl rfl (q_neq) (fun h11_1 => ?_) (fun h11_1 => ?_)
      ·
       refine AOps.nil ?_
       refine AWp.cond_t rfl ?_
       refine AWp.seq ?_
       refine AWp.region ?_
       refine AOps.cons rfl rfl (q_move) ?_
       refine AOps.cons rfl rfl (q_nilz (0) bc) ?_
       refine AOps.cons rfl rfl (q_assign) ?_
       refine AOps.nil ?_
       refine AWp.ret ?_
       show Fin te Try.f94 _ _
       have h30 : rdN b 30 p p en none [] = .error (if e = 20 then 30 else e) := by rw [rdN_sh, ha]; rfl
       have hX : rdD b t p0 en = .error (if e = 20 then 30 else e) := by rw [rdD_go hg, ← hE, show nCnt t - i = (nCnt t - (i + 1)) + 1 by omega, rdNs_err h30]; rfl
       rw [hX, if_neg h9_1]
       refine q_retH (0) [] [_, _] [_, _] [(_, _)] ?_ (hobj := by repeat' (first | exact trivial | exact lv_ok rfl | exact lv_sl rfl rfl | exact lv_rn rfl rfl .row rfl | exact lv_ptr rfl rfl | exact lv_mp rfl rfl | exact lv_nilz | exact lv_any | exact lv_row0 rfl rfl .row (fun _ => rfl) (Nat.le_of_ble_eq_true rfl) (fun _ => rfl) | exact lobj_row (fun _ => rfl) | exact lobj_rown (fun _ => rfl) | exact lobj_me (fun _ => rfl) | refine lobj_box ?_ | refine ⟨rfl, ⟨_, rfl, ?_⟩, ?_⟩ | refine ⟨?_, ?_⟩)) (h2 := by repeat' (first | exact trivial | exact lv_ok rfl | exact lv_ptr rfl rfl | exact lv_sl rfl rfl | exact lv_nilz | exact lv_row0 rfl rfl .row (fun _ => rfl) (Nat.le_of_ble_eq_true rfl) (fun _ => rfl) | refine lv_agg ?_ | exact lv_any | refine ⟨?_, ?_⟩))
       rfl
      ·
       exfalso; exact h11_1 (rdN_ne0 _ _ _ _ _ ha)
    ·
     refine AOps.cons rfl rfl (q_move) ?_
     refine AOps.cons rfl rfl (q_move) ?_
     refine AOps.cons rfl rfl (q_callB (0) [(0, 0)] [] [(_, _)] (hc := (c_rrname_ok hb he (by omega) ha))) ?_
     refine AOps.cons rfl rfl (q_move) ?_
     refine AOps.cons rfl rfl (q_extract) ?_
     refine AOps.cons rfl rfl (q_extract) ?_
     refine AOps.cons rfl rfl (q_assign) ?_
     refine AOps.cons rfl rfl (q_assign) ?_
     refine AOps.nil ?_
     refine AWp.seq ?_
     refine AWp.seq ?_
     refine AWp.region ?_
     refine AOps.cons rfl rfl (q_move) ?_
     refine AOps.dec rfl rfl (q_eql) (fun h9_1 => ?_) (fun h9_1 => ?_)
     ·
      exfalso; simp at h9_1
     ·
      refine AOps.nil ?_
      refine AWp.cond_f rfl ?_
      refine AWp.skip ?_
      refine AWp.seq ?_
      refine AWp.seq ?_
      refine AWp.region ?_
      refine AOps.cons rfl rfl (q_move) ?_
      refine AOps.dec rfl rfl (q_neq) (fun h11_1 => ?_) (fun h11_1 => ?_)
      ·
       exfalso; simp at h11_1
      ·
       refine AOps.nil ?_
       refine AWp.cond_f rfl ?_
       refine AWp.skip ?_
       refine AWp.region ?_
       obtain ⟨n1, n2, n3⟩ := rdN_ok0 ha
       have h30 : rdN b 30 p p en none [] = .ok a := by rw [rdN_sh, ha]; rfl
       refine AOps.cons rfl rfl (q_move) ?_
       refine AOps.cons rfl rfl (q_move) ?_
       refine AOps.cons rfl rfl (q_app) ?_
       refine AOps.cons rfl rfl (q_assign) ?_
       refine AOps.nil ?_
       refine AWp.region ?_
       refine AOps.cons rfl rfl (q_add) ?_
       refine AOps.cons rfl rfl (q_move) ?_
       refine AOps.nil ?_
       refine ⟨(i + 1, ac ++ a.1, a.2, v + 1), ?_, Back.mk' (HasT.cons (HasT.cons HasT.nil)) (HasH.cons (HasH.cons HasH.nil)), ?_⟩
       ·
        try dsimp only
        refine ⟨by omega, ?_, by rw [List.length_append]; omega, n3⟩
        rw [← hE, show nCnt t - i = (nCnt t - (i + 1)) + 1 by omega, rdNs_ok h30]
       ·
        try dsimp only
        first | omega | (simp; omega)
   ·
    refine AOps.nil ?_
    refine AWp.seq ?_
    refine AWp.cond_f rfl ?_
    refine AWp.exit ?_
    refine AWp.seq ?_
    obtain rfl : i = nCnt t := by omega
    rw [Nat.sub_self] at hE
    have hE2 := hE.symm
    rw [rdNs] at hE2
    refine AWp.draws [⟨0, [10], [], some 69, _, []⟩,
        ⟨1, [0], [], some 70, _, []⟩,
        ⟨2, [70], [0], some 71, _, []⟩,
        ⟨3, [71], [0], some 72, _, []⟩,
        ⟨4, [72], [0], some 73, _, []⟩,
        ⟨5, [0], [], some 74, _, []⟩,
        ⟨6, [74], [0], some 75, _, []⟩,
        ⟨7, [75], [0], some 76, _, []⟩,
        ⟨8, [76], [0], some 77, _, []⟩,
        ⟨9, [2], [], some 78, _, []⟩,
        ⟨10, [73, 77, 78], [], some 79, _, []⟩,
        ⟨11, [69, 79], [500], some 80, _, [(500, _)]⟩,
        ⟨12, [80], [], some 10, _, []⟩]
     [⟨0, [10], [], some 69, .any, []⟩,
         ⟨1, [0], [], some 70, .any, []⟩,
         ⟨2, [70], [0], some 71, .any, []⟩,
         ⟨3, [71], [0], some 72, .any, []⟩,
         ⟨4, [72], [0], some 73, .any, []⟩,
         ⟨5, [0], [], some 74, .any, []⟩,
         ⟨6, [74], [0], some 75, .any, []⟩,
         ⟨7, [75], [0], some 76, .any, []⟩,
         ⟨8, [76], [0], some 77, .any, []⟩,
         ⟨9, [2], [], some 78, .any, []⟩,
         ⟨10, [73, 77, 78], [], some 79, .any, []⟩,
         ⟨11, [69, 79], [500], some 80, .any, [(500, .box [])]⟩,
         ⟨12, [80], [], some 10, .any, []⟩]
     mixed_ok rfl (by kernel_rfl) ⟨DS.ok_over fun s0 => OpAt.go rfl rfl (q_move),
         DS.ok_over fun s0 => OpAt.go rfl rfl (q_move),
         DS.ok_over fun s0 => OpAt.go rfl rfl (q_nil),
         DS.ok_over fun s0 => OpAt.go rfl rfl (q_fa),
         DS.ok_over fun s0 => OpAt.go rfl rfl (q_load),
         DS.ok_over fun s0 => OpAt.go rfl rfl (q_move),
         DS.ok_over fun s0 => OpAt.go rfl rfl (q_nil),
         DS.ok_over fun s0 => OpAt.go rfl rfl (q_fa),
         DS.ok_over fun s0 => OpAt.go rfl rfl (q_load),
         DS.ok_over fun s0 => OpAt.go rfl rfl (q_move),
         DS.ok_over fun s0 => OpAt.go rfl rfl (q_sl),
         DS.ok_over fun s0 => OpAt.go rfl rfl (q_app),
         DS.ok_over fun s0 => OpAt.go rfl rfl (q_assign), trivial⟩ ?_
    dsimp only [final, DS.upd, AS.seto]
    rw [show ((en : Nat) : Int).toNat = en by omega, show ((p : Nat) : Int).toNat = p by omega]
    refine AWp.seq ?_
    refine AWp.region ?_
    refine AOps.cons rfl rfl (q_move) ?_
    refine AOps.cons rfl rfl (q_move) ?_
    refine AOps.cons rfl rfl (q_nil) ?_
    refine AOps.cons rfl rfl (q_fa) ?_
    refine AOps.cons rfl rfl (q_store) ?_
    refine AOps.nil ?_
    refine AWp.seq ?_
    refine AWp.seq ?_
    refine AWp.region ?_
    refine AOps.cons rfl rfl (q_move) ?_
    refine AOps.cons rfl rfl (q_move) ?_
    refine AOps.bool rfl rfl (q_call (0) (hc := (c_ciceroneref03_Can t (ac ++ (b.take en).drop p) 1 (by rw [List.length_append, List.length_drop, List.length_take]; omega)))) (fun h17_2 => ?_) (fun h17_2 => ?_)
    ·
     refine AOps.cons rfl rfl (q_not) ?_
     refine AOps.nil ?_
     refine AWp.cond_f rfl ?_
     refine AWp.skip ?_
     refine AWp.seq ?_
     refine AWp.region ?_
     refine AOps.cons rfl rfl (q_move) ?_
     refine AOps.cons rfl rfl (q_assign) ?_
     refine AOps.cons rfl rfl (q_assign) ?_
     refine AOps.nil ?_
     refine AWp.ret ?_
     show Fin te Try.f94 _ _
     have hX : rdD b t p0 en = .ok (ac ++ (b.take en).drop p) := by rw [rdD_go hg, hE2, rdO, if_pos h17_2]
     rw [hX]
     refine q_retH (0) [] [_, _] [_, _] [(_, _)] ?_ (hobj := by repeat' (first | exact trivial | exact lv_ok rfl | exact lv_sl rfl rfl | exact lv_rn rfl rfl .row rfl | exact lv_ptr rfl rfl | exact lv_mp rfl rfl | exact lv_nilz | exact lv_any | exact lv_row0 rfl rfl .row (fun _ => rfl) (Nat.le_of_ble_eq_true rfl) (fun _ => rfl) | exact lobj_row (fun _ => rfl) | exact lobj_rown (fun _ => rfl) | exact lobj_me (fun _ => rfl) | refine lobj_box ?_ | refine ⟨rfl, ⟨_, rfl, ?_⟩, ?_⟩ | refine ⟨?_, ?_⟩)) (h2 := by repeat' (first | exact trivial | exact lv_ok rfl | exact lv_ptr rfl rfl | exact lv_sl rfl rfl | exact lv_nilz | exact lv_row0 rfl rfl .row (fun _ => rfl) (Nat.le_of_ble_eq_true rfl) (fun _ => rfl) | refine lv_agg ?_ | exact lv_any | refine ⟨?_, ?_⟩))
     rfl
    ·
     refine AOps.cons rfl rfl (q_not) ?_
     refine AOps.nil ?_
     refine AWp.cond_t rfl ?_
     refine AWp.seq ?_
     refine AWp.region ?_
     refine AOps.cons rfl rfl (q_nilz (0) bc) ?_
     refine AOps.cons rfl rfl (q_assign) ?_
     refine AOps.nil ?_
     refine AWp.ret ?_
     show Fin te Try.f94 _ _
     have hX : rdD b t p0 en = .error 30 := by rw [rdD_go hg, hE2, rdO, if_neg (by simp [h17_2])]
     rw [hX]
     refine q_retH (0) [] [_, _] [_, _] [(_, _)] ?_ (hobj := by repeat' (first | exact trivial | exact lv_ok rfl | exact lv_sl rfl rfl | exact lv_rn rfl rfl .row rfl | exact lv_ptr rfl rfl | exact lv_mp rfl rfl | exact lv_nilz | exact lv_any | exact lv_row0 rfl rfl .row (fun _ => rfl) (Nat.le_of_ble_eq_true rfl) (fun _ => rfl) | exact lobj_row (fun _ => rfl) | exact lobj_rown (fun _ => rfl) | exact lobj_me (fun _ => rfl) | refine lobj_box ?_ | refine ⟨rfl, ⟨_, rfl, ?_⟩, ?_⟩ | refine ⟨?_, ?_⟩)) (h2 := by repeat' (first | exact trivial | exact lv_ok rfl | exact lv_ptr rfl rfl | exact lv_sl rfl rfl | exact lv_nilz | exact lv_row0 rfl rfl .row (fun _ => rfl) (Nat.le_of_ble_eq_true rfl) (fun _ => rfl) | refine lv_agg ?_ | exact lv_any | refine ⟨?_, ?_⟩))
     rfl
end Go.Proofs.Ytkfccjbihcbmiaa.Fw


