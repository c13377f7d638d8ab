/- The texts V04k, Q17, V04m, V04n, V04o, V04q, M2, M3, L04w, one behind the other: what the walks and plain laws need; conditions stand with each theorem. -/
import Derived.Defers
import Derived.Recover
import Derived.Tactics
import Derived.Tactics2
import Derived.Test.YtkfccjbihcbmiaaCat5
/- Walks of layer 4: a message is read. -/
set_option linter.unusedVariables false
set_option linter.unusedSimpArgs false
namespace Go.Proofs.Ytkfccjbihcbmiaa.Fw
open Go.RowKit


def cN (b : List UInt8) (j : Nat) : Nat := (dC b j).toNat
theorem cN_eq (b : List UInt8) (j : Nat) : dC b j = (cN b j : Int) ∧ cN b j ≤ 65535 := by
  have h : 0 ≤ dC b j ∧ dC b j ≤ 65535 := by
    unfold dC
    split
    · have := num_lt b j; omega
    · omega
  unfold cN; omega
theorem dE_zero' {b : List UInt8} (h : dE b = 0) : ¬ b.length < 12 := fun k => by rw [dE_short k] at h; cases h
def rdQs (b : List UInt8) : Nat → List Qu → Nat → Except Int (List Qu × Nat)
  | 0, acc, p => .ok (acc, p)
  | k + 1, acc, p => match rdN b 20 p p b.length none [] with
    | .error e => .error e
    | .ok a => if b.length < a.2 + 4 then .error 20 else rdQs b k (acc ++ [⟨a.1, bN b a.2 2, bN b (a.2 + 2) 2⟩]) (a.2 + 4)
def rdRs (b : List UInt8) : Nat → List Rr → Nat → Except Int (List Rr × Nat)
  | 0, acc, p => .ok (acc, p)
  | k + 1, acc, p => match rdR b p with
    | .error e => .error e
    | .ok a => rdRs b k (acc ++ [a.1]) a.2
def bindE {α β : Type} : Except Int α → (α → Except Int β) → Except Int β
  | .error e, _ => .error e
  | .ok a, f => f a
def hdM (b : List UInt8) : Hdr := ⟨(dH b).id, (dH b).resp, (dH b).op, (dH b).aa, (dH b).tc, (dH b).rd, (dH b).ra, (dH b).code⟩
def rdM (b : List UInt8) : Except Int Msg :=
  if 65535 < b.length then .error 42 else if dE b ≠ 0 then .error (dE b) else
  bindE (rdQs b (cN b 2) [] 12) fun q => bindE (rdRs b (cN b 3) [] q.2) fun x => bindE (rdRs b (cN b 4) [] x.2) fun y => bindE (rdRs b (cN b 5) [] y.2) fun z =>
    if z.2 = b.length then .ok ⟨hdM b, q.1, x.1, y.1, z.1⟩ else .error 41
theorem rdR_ok {b : List UInt8} {p : Nat} {a : Rr × Nat} (h : rdR b p = .ok a) : p < a.2 ∧ a.2 ≤ b.length := by
  unfold rdR at h
  cases h1 : rdN b 20 p p b.length none [] with
  | error e => rw [h1] at h; cases h
  | ok c =>
    obtain ⟨_, h2, h3⟩ := rdN_ok0 h1
    rw [h1, rdR1] at h
    split at h
    · cases h
    · cases h4 : rdD b (bN b c.2 2) (c.2 + 10) (c.2 + 10 + bN b (c.2 + 8) 2) with
      | error e => rw [h4] at h; cases h
      | ok d => rw [h4, rdR2] at h; cases h; simp only; omega
theorem rdQs_err {b : List UInt8} {k : Nat} {acc : List Qu} {p : Nat} {e : Int} (h : rdN b 20 p p b.length none [] = .error e) : rdQs b (k + 1) acc p = .error e := by simp only [rdQs, h]
theorem rdQs_bad {b : List UInt8} {k : Nat} {acc : List Qu} {p : Nat} {a : List UInt8 × Nat} (h : rdN b 20 p p b.length none [] = .ok a) (h1 : b.length < a.2 + 4) : rdQs b (k + 1) acc p = .error 20 := by simp only [rdQs, h, if_pos h1]
theorem rdQs_ok {b : List UInt8} {k : Nat} {acc : List Qu} {p : Nat} {a : List UInt8 × Nat} (h : rdN b 20 p p b.length none [] = .ok a) (h1 : ¬ b.length < a.2 + 4) : rdQs b (k + 1) acc p = rdQs b k (acc ++ [⟨a.1, bN b a.2 2, bN b (a.2 + 2) 2⟩]) (a.2 + 4) := by simp only [rdQs, h, if_neg h1]
theorem rdRs_err {b : List UInt8} {k : Nat} {acc : List Rr} {p : Nat} {e : Int} (h : rdR b p = .error e) : rdRs b (k + 1) acc p = .error e := by simp only [rdRs, h]
theorem rdRs_ok {b : List UInt8} {k : Nat} {acc : List Rr} {p : Nat} {a : Rr × Nat} (h : rdR b p = .ok a) : rdRs b (k + 1) acc p = rdRs b k (acc ++ [a.1]) a.2 := by simp only [rdRs, h]
section rdM
variable {b : List UInt8}
theorem rdM_q (h : ¬ 65535 < b.length) (h0 : dE b = 0) : rdM b = bindE (rdQs b (cN b 2) [] 12) fun q => bindE (rdRs b (cN b 3) [] q.2) fun x => bindE (rdRs b (cN b 4) [] x.2) fun y => bindE (rdRs b (cN b 5) [] y.2) fun z => if z.2 = b.length then .ok ⟨hdM b, q.1, x.1, y.1, z.1⟩ else .error 41 := by rw [rdM, if_neg h, if_neg (by simp [h0])]
theorem bindE_err {α β : Type} {r : Except Int α} {e : Int} {f : α → Except Int β} (h : r = .error e) : bindE r f = .error e := by rw [h]; rfl
theorem bindE_ok {α β : Type} {r : Except Int α} {a : α} {f : α → Except Int β} (h : r = .ok a) : bindE r f = f a := by rw [h]; rfl
end rdM

set_option maxRecDepth 20000 in
set_option maxHeartbeats 2000000 in
theorem c_rdmsg (b : List UInt8) (hb : b.length ≤ 140737488351232) : AC Try.prog 39 [.ptr 0 0 0] (hlook [(0, .box [.fz 0 b.length (cl bc b), i64 0])]) (RetP (perr (rdM b)) (.agg (msgC (resE (rdM b)))) [(0, .box [.fz 0 b.length (cl bc b), i64 (b.length : Int)])] (fun k => [(0, .box [.fz 0 b.length (cl bc b), i64 k])])) := by
  refine AC.intro te_ok (fn := Try.f39) ⟨Try.func39, rfl, rfl⟩ (Nat.le_of_ble_eq_true rfl) ?_
  refine AWp.seq ?_
  refine AWp.region ?_
  refine AOps.cons rfl rfl (q_alloc 100) ?_
  refine AOps.nil ?_
  refine AWp.seq ?_
  refine AWp.region ?_
  refine AOps.cons rfl rfl (q_move) ?_
  refine AOps.cons rfl rfl (q_nil) ?_
  refine AOps.cons rfl rfl (q_fa) ?_
  refine AOps.cons rfl rfl (q_load) ?_
  refine AOps.cons rfl rfl (q_len) ?_
  refine AOps.cons rfl rfl (q_leq) ?_
  refine AOps.callP (hp' := fun k => []) (0) [] [] [] (c_wire_no (decide ((b.length : Int) ≤ 65535)) 42) (fun h1_6 => ?_) (fun x k h1_6 => ?_)
  · skip
    refine AOps.nil ?_
    refine AWp.seq ?_
    refine AWp.region ?_
    have g1 : ¬ 65535 < b.length := by have := pNo_none h1_6; simp at this; omega
    have hb2 : b.length ≤ 65535 := by omega
    refine AOps.cons rfl rfl (q_move) ?_
    refine AOps.cons rfl rfl (q_nil) ?_
    refine AOps.cons rfl rfl (q_fa) ?_
    refine AOps.cons rfl rfl (q_load) ?_
    refine AOps.cons rfl rfl (q_call (0) (hc := (c_header_Decode b 0 (by omega)))) ?_
    refine AOps.cons rfl rfl (q_move) ?_
    refine AOps.cons rfl rfl (q_extract) ?_
    refine AOps.cons rfl rfl (q_extract) ?_
    refine AOps.cons rfl rfl (q_extract) ?_
    refine AOps.cons rfl rfl (q_alloc 309) ?_
    refine AOps.cons rfl rfl (q_alloc 310) ?_
    refine AOps.cons rfl rfl (q_store) ?_
    refine AOps.cons rfl rfl (q_store) ?_
    refine AOps.cons rfl rfl (q_assign) ?_
    refine AOps.nil ?_
    refine AWp.seq ?_
    refine AWp.region ?_
    refine AOps.cons rfl rfl (q_move) ?_
    refine AOps.cons rfl rfl (q_eql) ?_
    refine AOps.cons rfl rfl (q_move) ?_
    refine AOps.callP (hp' := fun k => []) (0) [] [] [] (c_wire_no (decide (dE b = 0)) (dE b)) (fun h3_3 => ?_) (fun x k h3_3 => ?_)
    · skip
      refine AOps.nil ?_
      refine AWp.seq ?_
      refine AWp.region ?_
      have hz : dE b = 0 := by have := pNo_none h3_3; simpa using this
      have hz1 := dE_zero' hz
      obtain ⟨e2, l2⟩ := cN_eq b 2
      obtain ⟨e3, l3⟩ := cN_eq b 3
      obtain ⟨e4, l4⟩ := cN_eq b 4
      obtain ⟨e5, l5⟩ := cN_eq b 5
      refine AOps.cons rfl rfl (q_move) ?_
      refine AOps.cons rfl rfl (q_nil) ?_
      refine AOps.cons rfl rfl (q_fa) ?_
      refine AOps.cons rfl rfl (q_store) ?_
      refine AOps.nil ?_
      refine AWp.seq ?_
      refine AWp.region ?_
      refine AOps.cons rfl rfl (q_load) ?_
      refine AOps.cons rfl rfl (q_build [(_, _)]) ?_
      refine AOps.cons rfl rfl (q_alloc 602) ?_
      refine AOps.cons rfl rfl (q_store) ?_
      refine AOps.nil ?_
      refine AWp.seq ?_
      refine AWp.seq ?_
      refine AWp.region ?_
      refine AOps.weak (Weak.nilcell 602 9008 8 3 quc) ?_
      refine AOps.weak (Weak.nilcell 602 9009 9 5 rrc) ?_
      refine AOps.weak (Weak.nilcell 602 9010 10 5 rrc) ?_
      refine AOps.weak (Weak.nilcell 602 9011 11 5 rrc) ?_
      refine AOps.cons rfl rfl (q_ixa) ?_
      refine AOps.cons rfl rfl (q_load) ?_
      refine AOps.cons rfl rfl (q_move) ?_
      refine AOps.nil ?_
      refine AWp.block ?_
      refine AWp.loopR (α := Nat × List Qu × Nat × Nat) [7, 37, 38, 39, 40, 41, 42, 43, 44, 45, 46, 47, 48, 49, 50, 51, 52, 53, 54, 55, 56, 57, 58, 59] (fun x_ => [(37, i64 (x_.1))]) (fun x_ => [(0, .box [.fz 0 b.length (cl bc b), i64 (x_.2.2.1)]), (602, .box [i64 (dH b).id, tf (dH b).resp, i64 (dH b).op, tf (dH b).aa, tf (dH b).tc, tf (dH b).rd, tf (dH b).ra, i64 (dH b).code, .sl 9008 ((x_.2.2.2)) 0 ((x_.2.1)).length 3, .sl 9009 (0) 0 (([] : List Rr)).length 5, .sl 9010 (0) 0 (([] : List Rr)).length 5, .sl 9011 (0) 0 (([] : List Rr)).length 5]), (9008, .row (cl quc (x_.2.1)) 3 (x_.2.2.2))]) (fun x_ => (x_.1) ≤ cN b 2 ∧ rdQs b (cN b 2 - (x_.1)) (x_.2.1) (x_.2.2.1) = rdQs b (cN b 2) [] 12 ∧ (x_.2.1).length = (x_.1) ∧ (x_.2.2.1) ≤ b.length) (fun x_ => cN b 2 - (x_.1)) (0, [], 12, 0) ?_ (Back.mk' (HasT.cons HasT.nil) (HasH.cons (HasH.cons (HasH.cons HasH.nil)))) ?_
      · exact ⟨Nat.zero_le _, rfl, rfl, by show 12 ≤ _; omega⟩
      · rintro ⟨i, qs, p, v⟩ hI7
        change i ≤ cN b 2 ∧ rdQs b (cN b 2 - i) qs p = rdQs b (cN b 2) [] 12 ∧ qs.length = i ∧ p ≤ b.length at hI7
        obtain ⟨hi, hE, hql, hp⟩ := hI7
        refine AWp.as (s' := AS.over _ [7, 37, 38, 39, 40, 41, 42, 43, 44, 45, 46, 47, 48, 49, 50, 51, 52, 53, 54, 55, 56, 57, 58, 59] [(37, i64 i)] [(0, .box [.fz 0 b.length (cl bc b), i64 p]), (602, .box [i64 (dH b).id, tf (dH b).resp, i64 (dH b).op, tf (dH b).aa, tf (dH b).tc, tf (dH b).rd, tf (dH b).ra, i64 (dH b).code, .sl 9008 (v) 0 (qs).length 3, .sl 9009 (0) 0 (([] : List Rr)).length 5, .sl 9010 (0) 0 (([] : List Rr)).length 5, .sl 9011 (0) 0 (([] : List Rr)).length 5]), (9008, .row (cl quc qs) 3 v)]) rfl ?_
        refine AWp.seq ?_
        refine AWp.region ?_
        refine AOps.dec rfl rfl (q_lss) (fun h7_0 => ?_) (fun h7_0 => ?_)
        · skip
          refine AOps.nil ?_
          refine AWp.seq ?_
          refine AWp.cond_t rfl ?_
          refine AWp.skip ?_
          refine AWp.seq ?_
          refine AWp.block ?_
          refine AWp.seq ?_
          refine AWp.region ?_
          refine AOps.cons rfl rfl (q_move) ?_
          refine AOps.cons rfl rfl (q_move) ?_
          refine AOps.cons rfl rfl (q_nil) ?_
          refine AOps.cons rfl rfl (q_fa) ?_
          refine AOps.cons rfl rfl (q_load) ?_
          refine AOps.cons rfl rfl (q_len) ?_
          refine AOps.callP (hp' := fun k => [(0, .box [_, i64 k])]) (0) [(0, 0)] [] [(_, _)] (c_rdname b 20 p b.length hb2 (Nat.le_refl _) (by omega)) (fun h8_6 => ?_) (fun x k h8_6 => ?_)
          · skip
            obtain ⟨a, ha⟩ := perr_none h8_6
            obtain ⟨n1, n2, n3⟩ := rdN_ok0 ha
            rw [ha]
            dsimp only [resE]
            refine AOps.cons rfl rfl (q_build [(_, _)]) ?_
            refine AOps.cons rfl rfl (q_alloc 908) ?_
            refine AOps.cons rfl rfl (q_store) ?_
            refine AOps.nil ?_
            refine AWp.seq ?_
            refine AWp.region ?_
            refine AOps.cons rfl rfl (q_move) ?_
            refine AOps.callP (hp' := fun k => [(0, .box [_, i64 k])]) (0) [(0, 0)] [] [(_, _)] (c_rdnum b a.2 2 hb2 (by omega) (by omega)) (fun h9_1 => ?_) (fun x k h9_1 => ?_)
            · skip
              refine AOps.cons rfl rfl (q_move) ?_
              refine AOps.callP (hp' := fun k => [(0, .box [_, i64 k])]) (0) [(0, 0)] [] [(_, _)] (c_rdnum b (a.2 + 2) 2 hb2 (by omega) (by omega)) (fun h9_3 => ?_) (fun x k h9_3 => ?_)
              · skip
                refine AOps.cons rfl rfl (q_fa) ?_
                refine AOps.cons rfl rfl (q_store) ?_
                refine AOps.cons rfl rfl (q_fa) ?_
                refine AOps.cons rfl rfl (q_store) ?_
                refine AOps.nil ?_
                refine AWp.region ?_
                have g2 : ¬ b.length < a.2 + 4 := by have := pNo_none h9_3; simp at this; omega
                refine AOps.cons rfl rfl (q_fa) ?_
                refine AOps.cons rfl rfl (q_load) ?_
                refine AOps.cons rfl rfl (q_load) ?_
                refine AOps.cons rfl rfl (q_bs 1103 quc [⟨a.1, bN b a.2 2, bN b (a.2 + 2) 2⟩] [(_, _)]) ?_
                refine AOps.cons rfl rfl (q_app) ?_
                refine AOps.cons rfl rfl (q_fa) ?_
                refine AOps.cons rfl rfl (q_store) ?_
                refine AOps.nil ?_
                refine AWp.region ?_
                refine AOps.cons rfl rfl (q_add) ?_
                refine AOps.cons rfl rfl (q_move) ?_
                refine AOps.nil ?_
                refine ⟨(i + 1, qs ++ [⟨a.1, bN b a.2 2, bN b (a.2 + 2) 2⟩], a.2 + 4, v + 1), ?_, Back.mk' (HasT.cons HasT.nil) (HasH.cons (HasH.cons (HasH.cons HasH.nil))), ?_⟩
                · try dsimp only
                  refine ⟨by omega, ?_, by rw [List.length_append, hql]; rfl, by omega⟩
                  rw [← hE, show cN b 2 - i = (cN b 2 - (i + 1)) + 1 by omega, rdQs_ok ha g2]
                · try dsimp only
                  first | omega | (simp; omega)
              · skip
                show Post te Try.f39 _ (.panic _) _
                refine Post.panicH (0) (k) ?_ (by repeat' (first | exact trivial | exact lv_ok rfl | exact lv_sl rfl rfl | exact lv_ptr rfl rfl | exact lv_mp rfl rfl | exact lobj_row (fun _ => rfl) | refine lobj_box ?_ | refine ⟨rfl, ⟨_, rfl, ?_⟩, ?_⟩ | refine ⟨?_, ?_⟩)) rfl
                obtain ⟨c1, rfl⟩ := pNo_some h9_3
                rw [rdM_q g1 hz, bindE_err (e := 20) (by rw [← hE, show cN b 2 - i = (cN b 2 - (i + 1)) + 1 by omega, rdQs_bad ha (by simp at c1; omega)])]; rfl
            · skip
              show Post te Try.f39 _ (.panic _) _
              refine Post.panicH (0) (k) ?_ (by repeat' (first | exact trivial | exact lv_ok rfl | exact lv_sl rfl rfl | exact lv_ptr rfl rfl | exact lv_mp rfl rfl | exact lobj_row (fun _ => rfl) | refine lobj_box ?_ | refine ⟨rfl, ⟨_, rfl, ?_⟩, ?_⟩ | refine ⟨?_, ?_⟩)) rfl
              obtain ⟨c1, rfl⟩ := pNo_some h9_1
              rw [rdM_q g1 hz, bindE_err (e := 20) (by rw [← hE, show cN b 2 - i = (cN b 2 - (i + 1)) + 1 by omega, rdQs_bad ha (by simp at c1; omega)])]; rfl
          · skip
            show Post te Try.f39 _ (.panic _) _
            refine Post.panicH (0) (k) ?_ (by repeat' (first | exact trivial | exact lv_ok rfl | exact lv_sl rfl rfl | exact lv_ptr rfl rfl | exact lv_mp rfl rfl | exact lobj_row (fun _ => rfl) | refine lobj_box ?_ | refine ⟨rfl, ⟨_, rfl, ?_⟩, ?_⟩ | refine ⟨?_, ?_⟩)) rfl
            obtain ⟨e, he1, rfl⟩ := perr_some h8_6
            rw [rdM_q g1 hz, bindE_err (e := e) (by rw [← hE, show cN b 2 - i = (cN b 2 - (i + 1)) + 1 by omega, rdQs_err he1])]; rfl
        · skip
          refine AOps.nil ?_
          refine AWp.seq ?_
          refine AWp.cond_f rfl ?_
          refine AWp.exit ?_
          refine AWp.seq ?_
          refine AWp.seq ?_
          refine AWp.region ?_
          obtain rfl : i = cN b 2 := by omega
          rw [Nat.sub_self, rdQs] at hE
          have hQ := hE.symm
          obtain ⟨p1, hp1⟩ : ∃ x, x = p := ⟨_, rfl⟩
          rw [← hp1] at hQ
          refine AOps.cons rfl rfl (q_fa) ?_
          refine AOps.cons rfl rfl (q_fa) ?_
          refine AOps.cons rfl rfl (q_fa) ?_
          refine AOps.cons rfl rfl (q_bs 1303 (fun k => [AV.ptr 602 0 k]) [9, 10, 11] [(_, _), (_, _), (_, _)]) ?_
          refine AOps.cons rfl rfl (q_len) ?_
          refine AOps.cons rfl rfl (q_move) ?_
          refine AOps.nil ?_
          refine AWp.block ?_
          refine AWp.loopR (α := Nat × List Rr × List Rr × List Rr × Nat × Nat × Nat × Nat) [8, 9, 65, 66, 67, 68, 69, 70, 71, 72, 73, 74, 75, 76, 77, 78, 79, 80, 81, 82, 83, 84, 85, 86] (fun x_ => [(65, i64 (x_.1))]) (fun x_ => [(0, .box [.fz 0 b.length (cl bc b), i64 (x_.2.2.2.2.1)]), (602, .box [i64 (dH b).id, tf (dH b).resp, i64 (dH b).op, tf (dH b).aa, tf (dH b).tc, tf (dH b).rd, tf (dH b).ra, i64 (dH b).code, .sl 9008 (v) 0 (qs).length 3, .sl 9009 ((x_.2.2.2.2.2.1)) 0 ((x_.2.1)).length 5, .sl 9010 ((x_.2.2.2.2.2.2.1)) 0 ((x_.2.2.1)).length 5, .sl 9011 ((x_.2.2.2.2.2.2.2)) 0 ((x_.2.2.2.1)).length 5]), (9009, .row (cl rrc ((x_.2.1))) 5 ((x_.2.2.2.2.2.1))), (9010, .row (cl rrc ((x_.2.2.1))) 5 ((x_.2.2.2.2.2.2.1))), (9011, .row (cl rrc ((x_.2.2.2.1))) 5 ((x_.2.2.2.2.2.2.2)))]) (fun x_ => (x_.1) ≤ 3 ∧ (x_.2.2.2.2.1) ≤ b.length ∧ (((x_.1) = 0 ∧ (x_.2.1) = [] ∧ (x_.2.2.1) = [] ∧ (x_.2.2.2.1) = [] ∧ (x_.2.2.2.2.1) = p1) ∨ ((x_.1) = 1 ∧ rdRs b (cN b 3) [] p1 = .ok ((x_.2.1), (x_.2.2.2.2.1)) ∧ (x_.2.2.1) = [] ∧ (x_.2.2.2.1) = []) ∨ ((x_.1) = 2 ∧ (∃ p2, rdRs b (cN b 3) [] p1 = .ok ((x_.2.1), p2) ∧ rdRs b (cN b 4) [] p2 = .ok ((x_.2.2.1), (x_.2.2.2.2.1))) ∧ (x_.2.2.2.1) = []) ∨ ((x_.1) = 3 ∧ ∃ p2 p3, rdRs b (cN b 3) [] p1 = .ok ((x_.2.1), p2) ∧ rdRs b (cN b 4) [] p2 = .ok ((x_.2.2.1), p3) ∧ rdRs b (cN b 5) [] p3 = .ok ((x_.2.2.2.1), (x_.2.2.2.2.1))))) (fun x_ => 3 - (x_.1)) (0, [], [], [], p, 0, 0, 0) ?_ (Back.mk' (HasT.cons HasT.nil) (HasH.cons (HasH.cons (HasH.cons (HasH.cons (HasH.cons HasH.nil)))))) ?_
          · exact ⟨Nat.zero_le _, hp, .inl ⟨rfl, rfl, rfl, rfl, hp1.symm⟩⟩
          · rintro ⟨i, A, U, D, p, va, vu, vd⟩ hI13
            change i ≤ 3 ∧ p ≤ b.length ∧ ((i = 0 ∧ A = [] ∧ U = [] ∧ D = [] ∧ p = p1) ∨ (i = 1 ∧ rdRs b (cN b 3) [] p1 = .ok (A, p) ∧ U = [] ∧ D = []) ∨ (i = 2 ∧ (∃ p2, rdRs b (cN b 3) [] p1 = .ok (A, p2) ∧ rdRs b (cN b 4) [] p2 = .ok (U, p)) ∧ D = []) ∨ (i = 3 ∧ ∃ p2 p3, rdRs b (cN b 3) [] p1 = .ok (A, p2) ∧ rdRs b (cN b 4) [] p2 = .ok (U, p3) ∧ rdRs b (cN b 5) [] p3 = .ok (D, p))) at hI13
            obtain ⟨hi, hp, hI⟩ := hI13
            refine AWp.as (s' := AS.over _ [8, 9, 65, 66, 67, 68, 69, 70, 71, 72, 73, 74, 75, 76, 77, 78, 79, 80, 81, 82, 83, 84, 85, 86] [(65, i64 i)] [(0, .box [.fz 0 b.length (cl bc b), i64 p]), (602, .box [i64 (dH b).id, tf (dH b).resp, i64 (dH b).op, tf (dH b).aa, tf (dH b).tc, tf (dH b).rd, tf (dH b).ra, i64 (dH b).code, .sl 9008 (v) 0 (qs).length 3, .sl 9009 (va) 0 (A).length 5, .sl 9010 (vu) 0 (U).length 5, .sl 9011 (vd) 0 (D).length 5]), (9009, .row (cl rrc (A)) 5 (va)), (9010, .row (cl rrc (U)) 5 (vu)), (9011, .row (cl rrc (D)) 5 (vd))]) rfl ?_
            refine AWp.seq ?_
            refine AWp.region ?_
            refine AOps.dec rfl rfl (q_lss) (fun h13_0 => ?_) (fun h13_0 => ?_)
            · skip
              refine AOps.nil ?_
              refine AWp.seq ?_
              refine AWp.cond_t rfl ?_
              refine AWp.skip ?_
              refine AWp.seq ?_
              refine AWp.block ?_
              refine AWp.seq ?_
              refine AWp.region ?_
              rcases hI with ⟨rfl, rfl, rfl, rfl, hp1⟩ | ⟨rfl, hA1, rfl, rfl⟩ | ⟨rfl, ⟨p2, hA1, hU1⟩, rfl⟩ | ⟨h3, _⟩
              rotate_left 3
              · exfalso; simp at h13_0; omega
              · skip
                refine AOps.cons rfl rfl (q_move) ?_
                refine AOps.cons rfl rfl (q_ix) ?_
                refine AOps.cons rfl rfl (q_load (z := .ptr 602 0 9) (hy := rfl)) ?_
                refine AOps.cons rfl rfl (q_assign) ?_
                refine AOps.cons rfl rfl (q_assign) ?_
                refine AOps.nil ?_
                refine AWp.seq ?_
                refine AWp.region ?_
                refine AOps.cons rfl rfl (q_move) ?_
                refine AOps.cons rfl rfl (q_add) ?_
                refine AOps.cons rfl rfl (q_ixa) ?_
                refine AOps.cons rfl rfl (q_load) ?_
                refine AOps.cons rfl rfl (q_move) ?_
                refine AOps.nil ?_
                refine AWp.block ?_
                refine AWp.loopR (α := Nat × List Rr × Nat × Nat) [74, 75, 76, 77, 78, 79, 80, 81, 82, 83, 84, 85] (fun x_ => [(74, i64 (x_.1))]) (fun x_ => [(0, .box [.fz 0 b.length (cl bc b), i64 (x_.2.2.1)]), (602, .box [i64 (dH b).id, tf (dH b).resp, i64 (dH b).op, tf (dH b).aa, tf (dH b).tc, tf (dH b).rd, tf (dH b).ra, i64 (dH b).code, .sl 9008 (v) 0 (qs).length 3, .sl 9009 ((x_.2.2.2)) 0 ((x_.2.1)).length 5, .sl 9010 (vu) 0 (([] : List Rr)).length 5, .sl 9011 (vd) 0 (([] : List Rr)).length 5]), (9009, .row (cl rrc ((x_.2.1))) 5 ((x_.2.2.2)))]) (fun x_ => (x_.1) ≤ cN b 3 ∧ rdRs b (cN b 3 - (x_.1)) (x_.2.1) (x_.2.2.1) = rdRs b (cN b 3) [] p ∧ (x_.2.1).length = (x_.1) ∧ (x_.2.2.1) ≤ b.length) (fun x_ => cN b 3 - (x_.1)) (0, [], p, va) ?_ (Back.mk' (HasT.cons HasT.nil) (HasH.cons (HasH.cons (HasH.cons HasH.nil)))) ?_
                · exact ⟨Nat.zero_le _, rfl, rfl, hp⟩
                · rintro ⟨j, l, q, w⟩ hI16
                  change j ≤ cN b 3 ∧ rdRs b (cN b 3 - j) l q = rdRs b (cN b 3) [] p ∧ l.length = j ∧ q ≤ b.length at hI16
                  obtain ⟨hj, hE, hll, hq⟩ := hI16
                  refine AWp.as (s' := AS.over _ [74, 75, 76, 77, 78, 79, 80, 81, 82, 83, 84, 85] [(74, i64 j)] [(0, .box [.fz 0 b.length (cl bc b), i64 q]), (602, .box [i64 (dH b).id, tf (dH b).resp, i64 (dH b).op, tf (dH b).aa, tf (dH b).tc, tf (dH b).rd, tf (dH b).ra, i64 (dH b).code, .sl 9008 (v) 0 (qs).length 3, .sl 9009 (w) 0 (l).length 5, .sl 9010 (vu) 0 (([] : List Rr)).length 5, .sl 9011 (vd) 0 (([] : List Rr)).length 5]), (9009, .row (cl rrc (l)) 5 (w))]) rfl ?_
                  refine AWp.seq ?_
                  refine AWp.region ?_
                  refine AOps.dec rfl rfl (q_lss) (fun h16_0 => ?_) (fun h16_0 => ?_)
                  · skip
                    refine AOps.nil ?_
                    refine AWp.seq ?_
                    refine AWp.cond_t rfl ?_
                    refine AWp.skip ?_
                    refine AWp.seq ?_
                    refine AWp.block ?_
                    rcases hpo : perr (rdR b q) with _ | xx
                    · skip
                      refine AWp.drawsX _ [⟨0, [9], [], some 76, _, none⟩,
                          ⟨1, [9], [], some 77, _, none⟩,
                          ⟨2, [77], [602], some 78, _, none⟩,
                          ⟨3, [78], [602], some 79, _, none⟩,
                          ⟨4, [0], [], some 80, _, none⟩,
                          ⟨5, [80], [0, 1, 2, 3, 4, 5, 6, 7], some 81, _, some (0, _)⟩,
                          ⟨6, [81], [1806], some 82, _, some (1806, _)⟩,
                          ⟨7, [79, 82], [1806, 9009], some 83, _, some (9009, _)⟩,
                          ⟨8, [76], [602], some 84, _, none⟩,
                          ⟨9, [83, 84], [602, 9009], none, _, some (602, _)⟩]
                        [⟨0, [9], [], some 76, .any, none⟩,
                            ⟨1, [9], [], some 77, .any, none⟩,
                            ⟨2, [77], [602], some 78, .any, none⟩,
                            ⟨3, [78], [602], some 79, .any, none⟩,
                            ⟨4, [0], [], some 80, .any, none⟩,
                            ⟨5, [80], [0, 1, 2, 3, 4, 5, 6, 7], some 81, .any, some (0, .box [])⟩,
                            ⟨6, [81], [1806], some 82, .any, some (1806, .box [])⟩,
                            ⟨7, [79, 82], [1806, 9009], some 83, .any, some (9009, .box [])⟩,
                            ⟨8, [76], [602], some 84, .any, none⟩,
                            ⟨9, [83, 84], [602, 9009], none, .any, some (602, .box [])⟩]
                        mixed_ok rfl (by kernel_rfl) ⟨DS.okX_over fun s0 => (OpAt.go rfl rfl (q_move)).x,
                            DS.okX_over fun s0 => (OpAt.go rfl rfl (q_move)).x,
                            DS.okX_over fun s0 => (OpAt.go rfl rfl (q_nil)).x,
                            DS.okX_over fun s0 => (OpAt.go rfl rfl (q_load)).x,
                            DS.okX_over fun s0 => (OpAt.go rfl rfl (q_move)).x,
                            DS.okX_over fun s0 => at_callP (hp' := fun k => [(0, .box [_, i64 k])]) (0) [(0, 0)] [] [(_, _)] (c_rdrec b q hb2 (by omega)) (fun x k h17_5 => ?_),
                            DS.okX_over fun s0 => (OpAt.go rfl rfl (q_bs 1806 rrc [(resE (rdR b q)).1] [(_, _)])).x,
                            DS.okX_over fun s0 => (OpAt.go rfl rfl (q_app)).x,
                            DS.okX_over fun s0 => (OpAt.go rfl rfl (q_nil)).x,
                            DS.okX_over fun s0 => (OpAt.go rfl rfl (q_store)).x, trivial⟩ ?_ (fun _ _ h => h)
                      · skip
                        exact absurd (hpo.symm.trans h17_5) (by simp)
                      dsimp only [final, DS.upd, AS.seto]
                      refine AWp.region ?_
                      obtain ⟨a, ha⟩ := perr_none hpo
                      have hr := rdR_ok ha
                      rw [ha]
                      dsimp only [resE]
                      refine AOps.cons rfl rfl (q_add) ?_
                      refine AOps.cons rfl rfl (q_move) ?_
                      refine AOps.nil ?_
                      refine ⟨(j + 1, l ++ [a.1], a.2, w + 1), ?_, Back.mk' (HasT.cons HasT.nil) (HasH.cons (HasH.cons (HasH.cons HasH.nil))), ?_⟩
                      · try dsimp only
                        refine ⟨by omega, ?_, by rw [List.length_append, hll]; rfl, hr.2⟩
                        rw [← hE, show cN b 3 - j = (cN b 3 - (j + 1)) + 1 by omega, rdRs_ok ha]
                      · try dsimp only
                        first | omega | (simp; omega)
                    · skip
                      refine AWp.drawsX _ [⟨0, [9], [], some 76, _, none⟩,
                          ⟨1, [9], [], some 77, _, none⟩,
                          ⟨2, [77], [602], some 78, _, none⟩,
                          ⟨3, [78], [602], some 79, _, none⟩,
                          ⟨4, [0], [], some 80, _, none⟩,
                          ⟨5, [80], [0, 1, 2, 3, 4, 5, 6, 7], some 81, _, some (0, _)⟩,
                          ⟨6, [81], [1806], some 82, .fz 0 1 [], some (1806, .box [])⟩,
                          ⟨7, [79, 82], [1806, 9009], some 83, .fz 0 1 [], some (9009, .box [])⟩,
                          ⟨8, [76], [602], some 84, _, none⟩,
                          ⟨9, [83, 84], [602, 9009], none, .fz 0 1 [], some (602, .box [])⟩]
                        [⟨0, [9], [], some 76, .any, none⟩,
                            ⟨1, [9], [], some 77, .any, none⟩,
                            ⟨2, [77], [602], some 78, .any, none⟩,
                            ⟨3, [78], [602], some 79, .any, none⟩,
                            ⟨4, [0], [], some 80, .any, none⟩,
                            ⟨5, [80], [0, 1, 2, 3, 4, 5, 6, 7], some 81, .any, some (0, .box [])⟩,
                            ⟨6, [81], [1806], some 82, .any, some (1806, .box [])⟩,
                            ⟨7, [79, 82], [1806, 9009], some 83, .any, some (9009, .box [])⟩,
                            ⟨8, [76], [602], some 84, .any, none⟩,
                            ⟨9, [83, 84], [602, 9009], none, .any, some (602, .box [])⟩]
                        mixed_ok rfl (by kernel_rfl) ⟨DS.okX_over fun s0 => (OpAt.go rfl rfl (q_move)).x,
                            DS.okX_over fun s0 => (OpAt.go rfl rfl (q_move)).x,
                            DS.okX_over fun s0 => (OpAt.go rfl rfl (q_nil)).x,
                            DS.okX_over fun s0 => (OpAt.go rfl rfl (q_load)).x,
                            DS.okX_over fun s0 => (OpAt.go rfl rfl (q_move)).x,
                            DS.okX_over fun s0 => at_callP (hp' := fun k => [(0, .box [_, i64 k])]) (0) [(0, 0)] [] [(_, _)] (AC.bad hpo (c_rdrec b q hb2 (by omega))) (fun x k h17_5 => ?_),
                            DS.okX_over fun s0 => OpAtX.bot (d := 81) rfl,
                            DS.okX_over fun s0 => OpAtX.bot (d := 82) rfl,
                            DS.okX_over fun s0 => (OpAt.go rfl rfl (q_nil)).x,
                            DS.okX_over fun s0 => OpAtX.bot (d := 83) rfl, trivial⟩ ?_ (fun _ _ h => h)
                      · skip
                        show Post te Try.f39 _ (.panic _) _
                        refine Post.panicH (0) (k) ?_ (by repeat' (first | exact trivial | exact lv_ok rfl | exact lv_sl rfl rfl | exact lv_ptr rfl rfl | exact lv_mp rfl rfl | exact lobj_row (fun _ => rfl) | refine lobj_box ?_ | refine ⟨rfl, ⟨_, rfl, ?_⟩, ?_⟩ | refine ⟨?_, ?_⟩)) rfl
                        obtain ⟨e, he1, rfl⟩ := perr_some h17_5
                        have hX : rdRs b (cN b 3) [] p = .error e := by rw [← hE, show cN b 3 - j = (cN b 3 - (j + 1)) + 1 by omega, rdRs_err he1]
                        rw [hp1] at hX
                        rw [rdM_q g1 hz, bindE_ok hQ]; dsimp only
                        rw [bindE_err hX]; rfl
                      dsimp only [final, DS.upd, AS.seto]
                      exact AWp.bot (d := 81) rfl
                  · skip
                    refine AOps.nil ?_
                    refine AWp.seq ?_
                    refine AWp.cond_f rfl ?_
                    refine AWp.exit ?_
                    refine AWp.region ?_
                    obtain rfl : j = cN b 3 := by omega
                    rw [Nat.sub_self, rdRs] at hE
                    have hA := hE.symm
                    refine AOps.cons rfl rfl (q_add) ?_
                    refine AOps.cons rfl rfl (q_move) ?_
                    refine AOps.nil ?_
                    refine ⟨(1, l, ([] : List Rr), ([] : List Rr), q, w, vu, vd), ?_, Back.mk' (HasT.cons HasT.nil) (HasH.cons (HasH.cons (HasH.cons (HasH.cons (HasH.cons HasH.nil))))), ?_⟩
                    · try dsimp only
                      exact ⟨by omega, hq, .inr (.inl ⟨rfl, hp1 ▸ hA, rfl, rfl⟩)⟩
                    · try dsimp only
                      first | omega | (simp; omega)
              · skip
                refine AOps.cons rfl rfl (q_move) ?_
                refine AOps.cons rfl rfl (q_ix) ?_
                refine AOps.cons rfl rfl (q_load (z := .ptr 602 0 10) (hy := rfl)) ?_
                refine AOps.cons rfl rfl (q_assign) ?_
                refine AOps.cons rfl rfl (q_assign) ?_
                refine AOps.nil ?_
                refine AWp.seq ?_
                refine AWp.region ?_
                refine AOps.cons rfl rfl (q_move) ?_
                refine AOps.cons rfl rfl (q_add) ?_
                refine AOps.cons rfl rfl (q_ixa) ?_
                refine AOps.cons rfl rfl (q_load) ?_
                refine AOps.cons rfl rfl (q_move) ?_
                refine AOps.nil ?_
                refine AWp.block ?_
                refine AWp.loopR (α := Nat × List Rr × Nat × Nat) [74, 75, 76, 77, 78, 79, 80, 81, 82, 83, 84, 85] (fun x_ => [(74, i64 (x_.1))]) (fun x_ => [(0, .box [.fz 0 b.length (cl bc b), i64 (x_.2.2.1)]), (602, .box [i64 (dH b).id, tf (dH b).resp, i64 (dH b).op, tf (dH b).aa, tf (dH b).tc, tf (dH b).rd, tf (dH b).ra, i64 (dH b).code, .sl 9008 (v) 0 (qs).length 3, .sl 9009 (va) 0 (A).length 5, .sl 9010 ((x_.2.2.2)) 0 ((x_.2.1)).length 5, .sl 9011 (vd) 0 (([] : List Rr)).length 5]), (9010, .row (cl rrc ((x_.2.1))) 5 ((x_.2.2.2)))]) (fun x_ => (x_.1) ≤ cN b 4 ∧ rdRs b (cN b 4 - (x_.1)) (x_.2.1) (x_.2.2.1) = rdRs b (cN b 4) [] p ∧ (x_.2.1).length = (x_.1) ∧ (x_.2.2.1) ≤ b.length) (fun x_ => cN b 4 - (x_.1)) (0, [], p, vu) ?_ (Back.mk' (HasT.cons HasT.nil) (HasH.cons (HasH.cons (HasH.cons HasH.nil)))) ?_
                · exact ⟨Nat.zero_le _, rfl, rfl, hp⟩
                · rintro ⟨j, l, q, w⟩ hI16
                  change j ≤ cN b 4 ∧ rdRs b (cN b 4 - j) l q = rdRs b (cN b 4) [] p ∧ l.length = j ∧ q ≤ b.length at hI16
                  obtain ⟨hj, hE, hll, hq⟩ := hI16
                  refine AWp.as (s' := AS.over _ [74, 75, 76, 77, 78, 79, 80, 81, 82, 83, 84, 85] [(74, i64 j)] [(0, .box [.fz 0 b.length (cl bc b), i64 q]), (602, .box [i64 (dH b).id, tf (dH b).resp, i64 (dH b).op, tf (dH b).aa, tf (dH b).tc, tf (dH b).rd, tf (dH b).ra, i64 (dH b).code, .sl 9008 (v) 0 (qs).length 3, .sl 9009 (va) 0 (A).length 5, .sl 9010 (w) 0 (l).length 5, .sl 9011 (vd) 0 (([] : List Rr)).length 5]), (9010, .row (cl rrc (l)) 5 (w))]) rfl ?_
                  refine AWp.seq ?_
                  refine AWp.region ?_
                  refine AOps.dec rfl rfl (q_lss) (fun h16_0 => ?_) (fun h16_0 => ?_)
                  · skip
                    refine AOps.nil ?_
                    refine AWp.seq ?_
                    refine AWp.cond_t rfl ?_
                    refine AWp.skip ?_
                    refine AWp.seq ?_
                    refine AWp.block ?_
                    rcases hpo : perr (rdR b q) with _ | xx
                    · skip
                      refine AWp.drawsX _ [⟨0, [9], [], some 76, _, none⟩,
                          ⟨1, [9], [], some 77, _, none⟩,
                          ⟨2, [77], [602], some 78, _, none⟩,
                          ⟨3, [78], [602], some 79, _, none⟩,
                          ⟨4, [0], [], some 80, _, none⟩,
                          ⟨5, [80], [0, 1, 2, 3, 4, 5, 6, 7], some 81, _, some (0, _)⟩,
                          ⟨6, [81], [1806], some 82, _, some (1806, _)⟩,
                          ⟨7, [79, 82], [1806, 9010], some 83, _, some (9010, _)⟩,
                          ⟨8, [76], [602], some 84, _, none⟩,
                          ⟨9, [83, 84], [602, 9010], none, _, some (602, _)⟩]
                        [⟨0, [9], [], some 76, .any, none⟩,
                            ⟨1, [9], [], some 77, .any, none⟩,
                            ⟨2, [77], [602], some 78, .any, none⟩,
                            ⟨3, [78], [602], some 79, .any, none⟩,
                            ⟨4, [0], [], some 80, .any, none⟩,
                            ⟨5, [80], [0, 1, 2, 3, 4, 5, 6, 7], some 81, .any, some (0, .box [])⟩,
                            ⟨6, [81], [1806], some 82, .any, some (1806, .box [])⟩,
                            ⟨7, [79, 82], [1806, 9010], some 83, .any, some (9010, .box [])⟩,
                            ⟨8, [76], [602], some 84, .any, none⟩,
                            ⟨9, [83, 84], [602, 9010], none, .any, some (602, .box [])⟩]
                        mixed_ok rfl (by kernel_rfl) ⟨DS.okX_over fun s0 => (OpAt.go rfl rfl (q_move)).x,
                            DS.okX_over fun s0 => (OpAt.go rfl rfl (q_move)).x,
                            DS.okX_over fun s0 => (OpAt.go rfl rfl (q_nil)).x,
                            DS.okX_over fun s0 => (OpAt.go rfl rfl (q_load)).x,
                            DS.okX_over fun s0 => (OpAt.go rfl rfl (q_move)).x,
                            DS.okX_over fun s0 => at_callP (hp' := fun k => [(0, .box [_, i64 k])]) (0) [(0, 0)] [] [(_, _)] (c_rdrec b q hb2 (by omega)) (fun x k h17_5 => ?_),
                            DS.okX_over fun s0 => (OpAt.go rfl rfl (q_bs 1806 rrc [(resE (rdR b q)).1] [(_, _)])).x,
                            DS.okX_over fun s0 => (OpAt.go rfl rfl (q_app)).x,
                            DS.okX_over fun s0 => (OpAt.go rfl rfl (q_nil)).x,
                            DS.okX_over fun s0 => (OpAt.go rfl rfl (q_store)).x, trivial⟩ ?_ (fun _ _ h => h)
                      · skip
                        exact absurd (hpo.symm.trans h17_5) (by simp)
                      dsimp only [final, DS.upd, AS.seto]
                      refine AWp.region ?_
                      obtain ⟨a, ha⟩ := perr_none hpo
                      have hr := rdR_ok ha
                      rw [ha]
                      dsimp only [resE]
                      refine AOps.cons rfl rfl (q_add) ?_
                      refine AOps.cons rfl rfl (q_move) ?_
                      refine AOps.nil ?_
                      refine ⟨(j + 1, l ++ [a.1], a.2, w + 1), ?_, Back.mk' (HasT.cons HasT.nil) (HasH.cons (HasH.cons (HasH.cons HasH.nil))), ?_⟩
                      · try dsimp only
                        refine ⟨by omega, ?_, by rw [List.length_append, hll]; rfl, hr.2⟩
                        rw [← hE, show cN b 4 - j = (cN b 4 - (j + 1)) + 1 by omega, rdRs_ok ha]
                      · try dsimp only
                        first | omega | (simp; omega)
                    · skip
                      refine AWp.drawsX _ [⟨0, [9], [], some 76, _, none⟩,
                          ⟨1, [9], [], some 77, _, none⟩,
                          ⟨2, [77], [602], some 78, _, none⟩,
                          ⟨3, [78], [602], some 79, _, none⟩,
                          ⟨4, [0], [], some 80, _, none⟩,
                          ⟨5, [80], [0, 1, 2, 3, 4, 5, 6, 7], some 81, _, some (0, _)⟩,
                          ⟨6, [81], [1806], some 82, .fz 0 1 [], some (1806, .box [])⟩,
                          ⟨7, [79, 82], [1806, 9010], some 83, .fz 0 1 [], some (9010, .box [])⟩,
                          ⟨8, [76], [602], some 84, _, none⟩,
                          ⟨9, [83, 84], [602, 9010], none, .fz 0 1 [], some (602, .box [])⟩]
                        [⟨0, [9], [], some 76, .any, none⟩,
                            ⟨1, [9], [], some 77, .any, none⟩,
                            ⟨2, [77], [602], some 78, .any, none⟩,
                            ⟨3, [78], [602], some 79, .any, none⟩,
                            ⟨4, [0], [], some 80, .any, none⟩,
                            ⟨5, [80], [0, 1, 2, 3, 4, 5, 6, 7], some 81, .any, some (0, .box [])⟩,
                            ⟨6, [81], [1806], some 82, .any, some (1806, .box [])⟩,
                            ⟨7, [79, 82], [1806, 9010], some 83, .any, some (9010, .box [])⟩,
                            ⟨8, [76], [602], some 84, .any, none⟩,
                            ⟨9, [83, 84], [602, 9010], none, .any, some (602, .box [])⟩]
                        mixed_ok rfl (by kernel_rfl) ⟨DS.okX_over fun s0 => (OpAt.go rfl rfl (q_move)).x,
                            DS.okX_over fun s0 => (OpAt.go rfl rfl (q_move)).x,
                            DS.okX_over fun s0 => (OpAt.go rfl rfl (q_nil)).x,
                            DS.okX_over fun s0 => (OpAt.go rfl rfl (q_load)).x,
                            DS.okX_over fun s0 => (OpAt.go rfl rfl (q_move)).x,
                            DS.okX_over fun s0 => at_callP (hp' := fun k => [(0, .box [_, i64 k])]) (0) [(0, 0)] [] [(_, _)] (AC.bad hpo (c_rdrec b q hb2 (by omega))) (fun x k h17_5 => ?_),
                            DS.okX_over fun s0 => OpAtX.bot (d := 81) rfl,
                            DS.okX_over fun s0 => OpAtX.bot (d := 82) rfl,
                            DS.okX_over fun s0 => (OpAt.go rfl rfl (q_nil)).x,
                            DS.okX_over fun s0 => OpAtX.bot (d := 83) rfl, trivial⟩ ?_ (fun _ _ h => h)
                      · skip
                        show Post te Try.f39 _ (.panic _) _
                        refine Post.panicH (0) (k) ?_ (by repeat' (first | exact trivial | exact lv_ok rfl | exact lv_sl rfl rfl | exact lv_ptr rfl rfl | exact lv_mp rfl rfl | exact lobj_row (fun _ => rfl) | refine lobj_box ?_ | refine ⟨rfl, ⟨_, rfl, ?_⟩, ?_⟩ | refine ⟨?_, ?_⟩)) rfl
                        obtain ⟨e, he1, rfl⟩ := perr_some h17_5
                        have hX : rdRs b (cN b 4) [] p = .error e := by rw [← hE, show cN b 4 - j = (cN b 4 - (j + 1)) + 1 by omega, rdRs_err he1]
                        rw [rdM_q g1 hz, bindE_ok hQ]; dsimp only
                        rw [bindE_ok hA1]; dsimp only
                        rw [bindE_err hX]; rfl
                      dsimp only [final, DS.upd, AS.seto]
                      exact AWp.bot (d := 81) rfl
                  · skip
                    refine AOps.nil ?_
                    refine AWp.seq ?_
                    refine AWp.cond_f rfl ?_
                    refine AWp.exit ?_
                    refine AWp.region ?_
                    obtain rfl : j = cN b 4 := by omega
                    rw [Nat.sub_self, rdRs] at hE
                    have hA := hE.symm
                    refine AOps.cons rfl rfl (q_add) ?_
                    refine AOps.cons rfl rfl (q_move) ?_
                    refine AOps.nil ?_
                    refine ⟨(2, A, l, ([] : List Rr), q, va, w, vd), ?_, Back.mk' (HasT.cons HasT.nil) (HasH.cons (HasH.cons (HasH.cons (HasH.cons (HasH.cons HasH.nil))))), ?_⟩
                    · try dsimp only
                      exact ⟨by omega, hq, .inr (.inr (.inl ⟨rfl, ⟨_, hA1, hA⟩, rfl⟩))⟩
                    · try dsimp only
                      first | omega | (simp; omega)
              · skip
                refine AOps.cons rfl rfl (q_move) ?_
                refine AOps.cons rfl rfl (q_ix) ?_
                refine AOps.cons rfl rfl (q_load (z := .ptr 602 0 11) (hy := rfl)) ?_
                refine AOps.cons rfl rfl (q_assign) ?_
                refine AOps.cons rfl rfl (q_assign) ?_
                refine AOps.nil ?_
                refine AWp.seq ?_
                refine AWp.region ?_
                refine AOps.cons rfl rfl (q_move) ?_
                refine AOps.cons rfl rfl (q_add) ?_
                refine AOps.cons rfl rfl (q_ixa) ?_
                refine AOps.cons rfl rfl (q_load) ?_
                refine AOps.cons rfl rfl (q_move) ?_
                refine AOps.nil ?_
                refine AWp.block ?_
                refine AWp.loopR (α := Nat × List Rr × Nat × Nat) [74, 75, 76, 77, 78, 79, 80, 81, 82, 83, 84, 85] (fun x_ => [(74, i64 (x_.1))]) (fun x_ => [(0, .box [.fz 0 b.length (cl bc b), i64 (x_.2.2.1)]), (602, .box [i64 (dH b).id, tf (dH b).resp, i64 (dH b).op, tf (dH b).aa, tf (dH b).tc, tf (dH b).rd, tf (dH b).ra, i64 (dH b).code, .sl 9008 (v) 0 (qs).length 3, .sl 9009 (va) 0 (A).length 5, .sl 9010 (vu) 0 (U).length 5, .sl 9011 ((x_.2.2.2)) 0 ((x_.2.1)).length 5]), (9011, .row (cl rrc ((x_.2.1))) 5 ((x_.2.2.2)))]) (fun x_ => (x_.1) ≤ cN b 5 ∧ rdRs b (cN b 5 - (x_.1)) (x_.2.1) (x_.2.2.1) = rdRs b (cN b 5) [] p ∧ (x_.2.1).length = (x_.1) ∧ (x_.2.2.1) ≤ b.length) (fun x_ => cN b 5 - (x_.1)) (0, [], p, vd) ?_ (Back.mk' (HasT.cons HasT.nil) (HasH.cons (HasH.cons (HasH.cons HasH.nil)))) ?_
                · exact ⟨Nat.zero_le _, rfl, rfl, hp⟩
                · rintro ⟨j, l, q, w⟩ hI16
                  change j ≤ cN b 5 ∧ rdRs b (cN b 5 - j) l q = rdRs b (cN b 5) [] p ∧ l.length = j ∧ q ≤ b.length at hI16
                  obtain ⟨hj, hE, hll, hq⟩ := hI16
                  refine AWp.as (s' := AS.over _ [74, 75, 76, 77, 78, 79, 80, 81, 82, 83, 84, 85] [(74, i64 j)] [(0, .box [.fz 0 b.length (cl bc b), i64 q]), (602, .box [i64 (dH b).id, tf (dH b).resp, i64 (dH b).op, tf (dH b).aa, tf (dH b).tc, tf (dH b).rd, tf (dH b).ra, i64 (dH b).code, .sl 9008 (v) 0 (qs).length 3, .sl 9009 (va) 0 (A).length 5, .sl 9010 (vu) 0 (U).length 5, .sl 9011 (w) 0 (l).length 5]), (9011, .row (cl rrc (l)) 5 (w))]) rfl ?_
                  refine AWp.seq ?_
                  refine AWp.region ?_
                  refine AOps.dec rfl rfl (q_lss) (fun h16_0 => ?_) (fun h16_0 => ?_)
                  · skip
                    refine AOps.nil ?_
                    refine AWp.seq ?_
                    refine AWp.cond_t rfl ?_
                    refine AWp.skip ?_
                    refine AWp.seq ?_
                    refine AWp.block ?_
                    rcases hpo : perr (rdR b q) with _ | xx
                    · skip
                      refine AWp.drawsX _ [⟨0, [9], [], some 76, _, none⟩,
                          ⟨1, [9], [], some 77, _, none⟩,
                          ⟨2, [77], [602], some 78, _, none⟩,
                          ⟨3, [78], [602], some 79, _, none⟩,
                          ⟨4, [0], [], some 80, _, none⟩,
                          ⟨5, [80], [0, 1, 2, 3, 4, 5, 6, 7], some 81, _, some (0, _)⟩,
                          ⟨6, [81], [1806], some 82, _, some (1806, _)⟩,
                          ⟨7, [79, 82], [1806, 9011], some 83, _, some (9011, _)⟩,
                          ⟨8, [76], [602], some 84, _, none⟩,
                          ⟨9, [83, 84], [602, 9011], none, _, some (602, _)⟩]
                        [⟨0, [9], [], some 76, .any, none⟩,
                            ⟨1, [9], [], some 77, .any, none⟩,
                            ⟨2, [77], [602], some 78, .any, none⟩,
                            ⟨3, [78], [602], some 79, .any, none⟩,
                            ⟨4, [0], [], some 80, .any, none⟩,
                            ⟨5, [80], [0, 1, 2, 3, 4, 5, 6, 7], some 81, .any, some (0, .box [])⟩,
                            ⟨6, [81], [1806], some 82, .any, some (1806, .box [])⟩,
                            ⟨7, [79, 82], [1806, 9011], some 83, .any, some (9011, .box [])⟩,
                            ⟨8, [76], [602], some 84, .any, none⟩,
                            ⟨9, [83, 84], [602, 9011], none, .any, some (602, .box [])⟩]
                        mixed_ok rfl (by kernel_rfl) ⟨DS.okX_over fun s0 => (OpAt.go rfl rfl (q_move)).x,
                            DS.okX_over fun s0 => (OpAt.go rfl rfl (q_move)).x,
                            DS.okX_over fun s0 => (OpAt.go rfl rfl (q_nil)).x,
                            DS.okX_over fun s0 => (OpAt.go rfl rfl (q_load)).x,
                            DS.okX_over fun s0 => (OpAt.go rfl rfl (q_move)).x,
                            DS.okX_over fun s0 => at_callP (hp' := fun k => [(0, .box [_, i64 k])]) (0) [(0, 0)] [] [(_, _)] (c_rdrec b q hb2 (by omega)) (fun x k h17_5 => ?_),
                            DS.okX_over fun s0 => (OpAt.go rfl rfl (q_bs 1806 rrc [(resE (rdR b q)).1] [(_, _)])).x,
                            DS.okX_over fun s0 => (OpAt.go rfl rfl (q_app)).x,
                            DS.okX_over fun s0 => (OpAt.go rfl rfl (q_nil)).x,
                            DS.okX_over fun s0 => (OpAt.go rfl rfl (q_store)).x, trivial⟩ ?_ (fun _ _ h => h)
                      · skip
                        exact absurd (hpo.symm.trans h17_5) (by simp)
                      dsimp only [final, DS.upd, AS.seto]
                      refine AWp.region ?_
                      obtain ⟨a, ha⟩ := perr_none hpo
                      have hr := rdR_ok ha
                      rw [ha]
                      dsimp only [resE]
                      refine AOps.cons rfl rfl (q_add) ?_
                      refine AOps.cons rfl rfl (q_move) ?_
                      refine AOps.nil ?_
                      refine ⟨(j + 1, l ++ [a.1], a.2, w + 1), ?_, Back.mk' (HasT.cons HasT.nil) (HasH.cons (HasH.cons (HasH.cons HasH.nil))), ?_⟩
                      · try dsimp only
                        refine ⟨by omega, ?_, by rw [List.length_append, hll]; rfl, hr.2⟩
                        rw [← hE, show cN b 5 - j = (cN b 5 - (j + 1)) + 1 by omega, rdRs_ok ha]
                      · try dsimp only
                        first | omega | (simp; omega)
                    · skip
                      refine AWp.drawsX _ [⟨0, [9], [], some 76, _, none⟩,
                          ⟨1, [9], [], some 77, _, none⟩,
                          ⟨2, [77], [602], some 78, _, none⟩,
                          ⟨3, [78], [602], some 79, _, none⟩,
                          ⟨4, [0], [], some 80, _, none⟩,
                          ⟨5, [80], [0, 1, 2, 3, 4, 5, 6, 7], some 81, _, some (0, _)⟩,
                          ⟨6, [81], [1806], some 82, .fz 0 1 [], some (1806, .box [])⟩,
                          ⟨7, [79, 82], [1806, 9011], some 83, .fz 0 1 [], some (9011, .box [])⟩,
                          ⟨8, [76], [602], some 84, _, none⟩,
                          ⟨9, [83, 84], [602, 9011], none, .fz 0 1 [], some (602, .box [])⟩]
                        [⟨0, [9], [], some 76, .any, none⟩,
                            ⟨1, [9], [], some 77, .any, none⟩,
                            ⟨2, [77], [602], some 78, .any, none⟩,
                            ⟨3, [78], [602], some 79, .any, none⟩,
                            ⟨4, [0], [], some 80, .any, none⟩,
                            ⟨5, [80], [0, 1, 2, 3, 4, 5, 6, 7], some 81, .any, some (0, .box [])⟩,
                            ⟨6, [81], [1806], some 82, .any, some (1806, .box [])⟩,
                            ⟨7, [79, 82], [1806, 9011], some 83, .any, some (9011, .box [])⟩,
                            ⟨8, [76], [602], some 84, .any, none⟩,
                            ⟨9, [83, 84], [602, 9011], none, .any, some (602, .box [])⟩]
                        mixed_ok rfl (by kernel_rfl) ⟨DS.okX_over fun s0 => (OpAt.go rfl rfl (q_move)).x,
                            DS.okX_over fun s0 => (OpAt.go rfl rfl (q_move)).x,
                            DS.okX_over fun s0 => (OpAt.go rfl rfl (q_nil)).x,
                            DS.okX_over fun s0 => (OpAt.go rfl rfl (q_load)).x,
                            DS.okX_over fun s0 => (OpAt.go rfl rfl (q_move)).x,
                            DS.okX_over fun s0 => at_callP (hp' := fun k => [(0, .box [_, i64 k])]) (0) [(0, 0)] [] [(_, _)] (AC.bad hpo (c_rdrec b q hb2 (by omega))) (fun x k h17_5 => ?_),
                            DS.okX_over fun s0 => OpAtX.bot (d := 81) rfl,
                            DS.okX_over fun s0 => OpAtX.bot (d := 82) rfl,
                            DS.okX_over fun s0 => (OpAt.go rfl rfl (q_nil)).x,
                            DS.okX_over fun s0 => OpAtX.bot (d := 83) rfl, trivial⟩ ?_ (fun _ _ h => h)
                      · skip
                        show Post te Try.f39 _ (.panic _) _
                        refine Post.panicH (0) (k) ?_ (by repeat' (first | exact trivial | exact lv_ok rfl | exact lv_sl rfl rfl | exact lv_ptr rfl rfl | exact lv_mp rfl rfl | exact lobj_row (fun _ => rfl) | refine lobj_box ?_ | refine ⟨rfl, ⟨_, rfl, ?_⟩, ?_⟩ | refine ⟨?_, ?_⟩)) rfl
                        obtain ⟨e, he1, rfl⟩ := perr_some h17_5
                        have hX : rdRs b (cN b 5) [] p = .error e := by rw [← hE, show cN b 5 - j = (cN b 5 - (j + 1)) + 1 by omega, rdRs_err he1]
                        rw [rdM_q g1 hz, bindE_ok hQ]; dsimp only
                        rw [bindE_ok hA1]; dsimp only
                        rw [bindE_ok hU1]; dsimp only
                        rw [bindE_err hX]; rfl
                      dsimp only [final, DS.upd, AS.seto]
                      exact AWp.bot (d := 81) rfl
                  · skip
                    refine AOps.nil ?_
                    refine AWp.seq ?_
                    refine AWp.cond_f rfl ?_
                    refine AWp.exit ?_
                    refine AWp.region ?_
                    obtain rfl : j = cN b 5 := by omega
                    rw [Nat.sub_self, rdRs] at hE
                    have hA := hE.symm
                    refine AOps.cons rfl rfl (q_add) ?_
                    refine AOps.cons rfl rfl (q_move) ?_
                    refine AOps.nil ?_
                    refine ⟨(3, A, U, l, q, va, vu, w), ?_, Back.mk' (HasT.cons HasT.nil) (HasH.cons (HasH.cons (HasH.cons (HasH.cons (HasH.cons HasH.nil))))), ?_⟩
                    · try dsimp only
                      exact ⟨by omega, hq, .inr (.inr (.inr ⟨rfl, _, _, hA1, hU1, hA⟩))⟩
                    · try dsimp only
                      first | omega | (simp; omega)
            · skip
              refine AOps.nil ?_
              refine AWp.seq ?_
              refine AWp.cond_f rfl ?_
              refine AWp.exit ?_
              refine AWp.seq ?_
              rcases hpo : pNo (decide ((p : Int) = (b.length : Int))) 41 with _ | xx
              · skip
                obtain ⟨p2, p3, hA, hU, hD⟩ : ∃ p2 p3, rdRs b (cN b 3) [] p1 = .ok (A, p2) ∧ rdRs b (cN b 4) [] p2 = .ok (U, p3) ∧ rdRs b (cN b 5) [] p3 = .ok (D, p) := by
                  simp at h13_0
                  rcases hI with ⟨h, _⟩ | ⟨h, _⟩ | ⟨h, _⟩ | ⟨_, h⟩
                  · omega
                  · omega
                  · omega
                  · exact h
                have hM : rdM b = if p = b.length then .ok ⟨hdM b, qs, A, U, D⟩ else .error 41 := by
                  rw [rdM_q g1 hz, bindE_ok hQ]; dsimp only
                  rw [bindE_ok hA]; dsimp only
                  rw [bindE_ok hU]; dsimp only
                  rw [bindE_ok hD]
                refine AWp.drawsX _ [⟨0, [0], [], some 87, _, none⟩,
                    ⟨1, [87], [0], some 88, _, none⟩,
                    ⟨2, [88], [0], some 89, _, none⟩,
                    ⟨3, [89], [0], some 90, _, none⟩,
                    ⟨4, [0], [], some 91, _, none⟩,
                    ⟨5, [91], [0], some 92, _, none⟩,
                    ⟨6, [92], [0], some 93, _, none⟩,
                    ⟨7, [93], [0], some 94, _, none⟩,
                    ⟨8, [94], [], some 95, _, none⟩,
                    ⟨9, [90, 95], [], some 96, _, none⟩,
                    ⟨10, [96], [0, 1, 2, 3, 4, 5, 6, 7], some 97, _, none⟩]
                  [⟨0, [0], [], some 87, .any, none⟩,
                      ⟨1, [87], [0], some 88, .any, none⟩,
                      ⟨2, [88], [0], some 89, .any, none⟩,
                      ⟨3, [89], [0], some 90, .any, none⟩,
                      ⟨4, [0], [], some 91, .any, none⟩,
                      ⟨5, [91], [0], some 92, .any, none⟩,
                      ⟨6, [92], [0], some 93, .any, none⟩,
                      ⟨7, [93], [0], some 94, .any, none⟩,
                      ⟨8, [94], [], some 95, .any, none⟩,
                      ⟨9, [90, 95], [], some 96, .any, none⟩,
                      ⟨10, [96], [0, 1, 2, 3, 4, 5, 6, 7], some 97, .any, none⟩]
                  mixed_ok rfl (by kernel_rfl) ⟨DS.okX_over fun s0 => (OpAt.go rfl rfl (q_move)).x,
                      DS.okX_over fun s0 => (OpAt.go rfl rfl (q_nil)).x,
                      DS.okX_over fun s0 => (OpAt.go rfl rfl (q_fa)).x,
                      DS.okX_over fun s0 => (OpAt.go rfl rfl (q_load)).x,
                      DS.okX_over fun s0 => (OpAt.go rfl rfl (q_move)).x,
                      DS.okX_over fun s0 => (OpAt.go rfl rfl (q_nil)).x,
                      DS.okX_over fun s0 => (OpAt.go rfl rfl (q_fa)).x,
                      DS.okX_over fun s0 => (OpAt.go rfl rfl (q_load)).x,
                      DS.okX_over fun s0 => (OpAt.go rfl rfl (q_len)).x,
                      DS.okX_over fun s0 => (OpAt.go rfl rfl (q_eql)).x,
                      DS.okX_over fun s0 => at_callP (hp' := fun k => []) (0) [] [] [] (c_wire_no (decide ((p : Int) = (b.length : Int))) 41) (fun x k h20_10 => ?_), trivial⟩ ?_ (fun _ _ h => h)
                · skip
                  exact absurd (hpo.symm.trans h20_10) (by simp)
                dsimp only [final, DS.upd, AS.seto]
                refine AWp.seq ?_
                refine AWp.region ?_
                obtain rfl : p = b.length := by have := pNo_none hpo; simp at this; omega
                rw [if_pos rfl] at hM
                refine AOps.weak (Weak.full 0 [] (t := [(2, .ptr 100 0 0), (6, .ptr 602 0 0)]) (hl := [(0, .box [.fz 0 b.length (cl bc b), i64 b.length]), (602, .box [i64 (dH b).id, tf (dH b).resp, i64 (dH b).op, tf (dH b).aa, tf (dH b).tc, tf (dH b).rd, tf (dH b).ra, i64 (dH b).code, .fz 0 qs.length (cl quc qs), .fz 0 A.length (cl rrc A), .fz 0 U.length (cl rrc U), .fz 0 D.length (cl rrc D)]), (100, .box [i64 0, tf false, i64 0, tf false, tf false, tf false, tf false, i64 0, .v (.slice none 0 0), .v (.slice none 0 0), .v (.slice none 0 0), .v (.slice none 0 0)])])) ?_
                refine AOps.cons rfl rfl (q_load) ?_
                refine AOps.cons rfl rfl (q_store) ?_
                refine AOps.nil ?_
                refine AWp.ret ?_
                show Fin te Try.f39 _ _
                rw [hM]
                refine Fin.retP (by rfl) ?_
                refine q_retH (0) [] [_] [_] [(_, _)] ?_
                rfl
              · skip
                obtain ⟨p2, p3, hA, hU, hD⟩ : ∃ p2 p3, rdRs b (cN b 3) [] p1 = .ok (A, p2) ∧ rdRs b (cN b 4) [] p2 = .ok (U, p3) ∧ rdRs b (cN b 5) [] p3 = .ok (D, p) := by
                  simp at h13_0
                  rcases hI with ⟨h, _⟩ | ⟨h, _⟩ | ⟨h, _⟩ | ⟨_, h⟩
                  · omega
                  · omega
                  · omega
                  · exact h
                have hM : rdM b = if p = b.length then .ok ⟨hdM b, qs, A, U, D⟩ else .error 41 := by
                  rw [rdM_q g1 hz, bindE_ok hQ]; dsimp only
                  rw [bindE_ok hA]; dsimp only
                  rw [bindE_ok hU]; dsimp only
                  rw [bindE_ok hD]
                refine AWp.drawsX _ [⟨0, [0], [], some 87, _, none⟩,
                    ⟨1, [87], [0], some 88, _, none⟩,
                    ⟨2, [88], [0], some 89, _, none⟩,
                    ⟨3, [89], [0], some 90, _, none⟩,
                    ⟨4, [0], [], some 91, _, none⟩,
                    ⟨5, [91], [0], some 92, _, none⟩,
                    ⟨6, [92], [0], some 93, _, none⟩,
                    ⟨7, [93], [0], some 94, _, none⟩,
                    ⟨8, [94], [], some 95, _, none⟩,
                    ⟨9, [90, 95], [], some 96, _, none⟩,
                    ⟨10, [96], [0, 1, 2, 3, 4, 5, 6, 7], some 97, _, none⟩]
                  [⟨0, [0], [], some 87, .any, none⟩,
                      ⟨1, [87], [0], some 88, .any, none⟩,
                      ⟨2, [88], [0], some 89, .any, none⟩,
                      ⟨3, [89], [0], some 90, .any, none⟩,
                      ⟨4, [0], [], some 91, .any, none⟩,
                      ⟨5, [91], [0], some 92, .any, none⟩,
                      ⟨6, [92], [0], some 93, .any, none⟩,
                      ⟨7, [93], [0], some 94, .any, none⟩,
                      ⟨8, [94], [], some 95, .any, none⟩,
                      ⟨9, [90, 95], [], some 96, .any, none⟩,
                      ⟨10, [96], [0, 1, 2, 3, 4, 5, 6, 7], some 97, .any, none⟩]
                  mixed_ok rfl (by kernel_rfl) ⟨DS.okX_over fun s0 => (OpAt.go rfl rfl (q_move)).x,
                      DS.okX_over fun s0 => (OpAt.go rfl rfl (q_nil)).x,
                      DS.okX_over fun s0 => (OpAt.go rfl rfl (q_fa)).x,
                      DS.okX_over fun s0 => (OpAt.go rfl rfl (q_load)).x,
                      DS.okX_over fun s0 => (OpAt.go rfl rfl (q_move)).x,
                      DS.okX_over fun s0 => (OpAt.go rfl rfl (q_nil)).x,
                      DS.okX_over fun s0 => (OpAt.go rfl rfl (q_fa)).x,
                      DS.okX_over fun s0 => (OpAt.go rfl rfl (q_load)).x,
                      DS.okX_over fun s0 => (OpAt.go rfl rfl (q_len)).x,
                      DS.okX_over fun s0 => (OpAt.go rfl rfl (q_eql)).x,
                      DS.okX_over fun s0 => at_callP (hp' := fun k => []) (0) [] [] [] (AC.bad hpo (c_wire_no (decide ((p : Int) = (b.length : Int))) 41)) (fun x k h20_10 => ?_), trivial⟩ ?_ (fun _ _ h => h)
                · skip
                  show Post te Try.f39 _ (.panic _) _
                  refine Post.panicH (0) (p) ?_ (by repeat' (first | exact trivial | exact lv_ok rfl | exact lv_sl rfl rfl | exact lv_ptr rfl rfl | exact lv_mp rfl rfl | exact lobj_row (fun _ => rfl) | refine lobj_box ?_ | refine ⟨rfl, ⟨_, rfl, ?_⟩, ?_⟩ | refine ⟨?_, ?_⟩)) rfl
                  obtain ⟨c1, rfl⟩ := pNo_some h20_10
                  rw [hM, if_neg (by simp at c1; omega)]; rfl
                dsimp only [final, DS.upd, AS.seto]
                exact AWp.bot (d := 97) rfl
    · skip
      show Post te Try.f39 _ (.panic _) _
      refine Post.panicH (0) (0) ?_ (by repeat' (first | exact trivial | exact lv_ok rfl | exact lv_sl rfl rfl | exact lv_ptr rfl rfl | exact lv_mp rfl rfl | exact lobj_row (fun _ => rfl) | refine lobj_box ?_ | refine ⟨rfl, ⟨_, rfl, ?_⟩, ?_⟩ | refine ⟨?_, ?_⟩)) rfl
      obtain ⟨c1, rfl⟩ := pNo_some h3_3
      rw [rdM, if_neg g1, if_pos (by simpa using c1)]; rfl
  · skip
    show Post te Try.f39 _ (.panic _) _
    refine Post.panicH (0) (0) ?_ (by repeat' (first | exact trivial | exact lv_ok rfl | exact lv_sl rfl rfl | exact lv_ptr rfl rfl | exact lv_mp rfl rfl | exact lobj_row (fun _ => rfl) | refine lobj_box ?_ | refine ⟨rfl, ⟨_, rfl, ?_⟩, ?_⟩ | refine ⟨?_, ?_⟩)) rfl
    obtain ⟨c1, rfl⟩ := pNo_some h1_6
    rw [rdM, if_pos (by simp at c1; omega)]; rfl

end Go.Proofs.Ytkfccjbihcbmiaa.Fw

/- Q17: functions that defer: what lies ahead of the deferred calls, and the result behind them. -/
set_option linter.unusedVariables false
set_option linter.unusedSimpArgs false
set_option linter.unusedSectionVars false
namespace Go.Proofs.Ytkfccjbihcbmiaa.Fw
open Go.RowKit
section
variable {P : Program}
theorem fin_ret {te : TE} (hte : TEok P te) {fn : Func} {R : AEnd → Heap → Prop} {n : Nat} {s' : AS} {w' : World} {φ' : PMap} {Λ : Lent} {a' : Act} (hf : Fin te fn R s') (hs' : Sim n w' φ' Λ s' a') :
    ∃ v r h' φ2, (results fn a'.tmps).run P w' = .ok v w' ∧ R (.ret r) h' ∧ HSim w' φ2 Λ h' ∧ Goes w' φ' w' φ2 ∧ Rep w' φ2 Λ r v := by
  obtain ⟨xs, r, h', h1, h2, h3⟩ := hf
  obtain ⟨vs, v1, v2, v3⟩ := run_resultList hte hs' h1
  have hrun : (results fn a'.tmps).run P w' = .ok (if h : vs.toArray.size = 1 then vs.toArray[0] else .tuple vs.toArray) w' := by
    rw [results_eq, ← Array.toArray_toList (xs := fn.results), List.mapM_toArray]
    simp only [Sem.run_bind, Sem.run_map, v1, Result.andThen_ok, Sem.run_pure]
  have hrep : Rep w' φ' Λ (resVal xs) (if h : vs.toArray.size = 1 then vs.toArray[0] else .tuple vs.toArray) := by
    by_cases hx : ∃ x, xs = [x]
    · obtain ⟨x, rfl⟩ := hx
      have hvl : vs.length = 1 := by simpa using v2
      obtain ⟨v, hv1, hv2⟩ := v3 0 x rfl
      rw [dif_pos (by simpa using hvl)]
      simp only [resVal]
      have : vs.toArray[0]'(by simp; omega) = v := by
        have := (List.getElem?_eq_some_iff.1 hv1).2
        simpa using this
      rw [this]
      exact hv2
    · have hne : vs.length ≠ 1 := by
        intro h1
        rw [v2] at h1
        obtain ⟨x, hx2⟩ := List.length_eq_one_iff.1 h1
        exact hx ⟨x, hx2⟩
      rw [dif_neg (by simpa using hne)]
      have : resVal xs = .tup xs := by
        unfold resVal
        split
        · exact absurd ⟨_, rfl⟩ hx
        · rfl
      rw [this]
      refine .tup (fun j => vs.getD j undef) (by simp [v2]) (fun j hj => ?_) (fun j c hj => ?_)
      · rw [List.getElem?_toArray, List.getElem?_eq_getElem (by omega), List.getD_eq_getElem?_getD, List.getElem?_eq_getElem (by omega)]
        rfl
      · obtain ⟨v, k1, k2⟩ := v3 j c hj
        rw [List.getD_eq_getElem?_getD, k1]
        exact k2
  obtain ⟨φ2, k1, k2, k3⟩ := h2 w' φ' Λ _ hs'.hs hrep
  exact ⟨_, r, h', φ2, hrun, h3, k1, k3, k2⟩
theorem sim_enter {n : Nat} {w : World} {φ : PMap} {Λ : Lent} {args : List AV} {vals : Array Value} {h : Heap} (hs : HSim w φ Λ h) (ha : ArgsRep w φ Λ args vals) (hn : args.length ≤ n) :
    Sim n w φ Λ ⟨fun i => args.getD i (.v undef), h⟩ { tmps := vals ++ Array.replicate (n - vals.size) undef, defers := [] } := by
  refine ⟨rfl, by simp [ha.1]; omega, fun i => ?_, hs⟩
  simp only [Array.getD_eq_getD_getElem?, List.getD_eq_getElem?_getD]
  by_cases hi : i < args.length
  · obtain ⟨v, h1, h2⟩ := ha.2 i args[i] (List.getElem?_eq_getElem hi)
    rw [Array.getElem?_append_left (by rw [ha.1]; exact hi), h1, List.getElem?_eq_getElem hi]
    exact h2
  · rw [List.getElem?_eq_none (by omega), Array.getElem?_append_right (by rw [ha.1]; omega)]
    have : ((Array.replicate (n - vals.size) undef)[i - vals.size]?).getD undef = undef := by
      rw [Array.getElem?_replicate]
      split <;> rfl
    rw [this]
    exact .v
theorem put_dfr (a : Act) (d : Option Tmp) (v : Value) (ds : List Deferred) : ({ a with defers := a.defers ++ ds } : Act).put d v = { a.put d v with defers := (a.put d v).defers ++ ds } := by
  cases d <;> rfl
/-- The deferred calls that stand ahead play no part. -/
theorem frame_upon {o : Oper} {a : Act} {next : Act → World → Prop} {Q : Exit → Act → World → Prop} (ds : List Deferred) (r : Result Next)
    (h : o.upon P a (fun a' w' => next { a' with defers := a'.defers ++ ds } w') (fun e a' w' => Q e { a' with defers := a'.defers ++ ds } w') r) :
    o.upon P { a with defers := a.defers ++ ds } next Q r := by
  unfold Oper.upon at h ⊢
  split
  · simp only at h; rw [put_dfr]; exact h
  · simp only at h; rw [put_dfr]; exact h
  · rename_i d w'
    simp only at h
    have := put_dfr { a with defers := d :: a.defers } o.dst undef ds
    simp only [List.cons_append] at this
    rw [this]; exact h
  · simp only at h
    refine h.mono fun e w'' q => ?_
    cases e with
    | returned v => simp only at q ⊢; rw [put_dfr]; exact q
    | panicked c => exact q
    | outgrown => obtain ⟨a0, w0, q0⟩ := q; exact ⟨_, w0, q0⟩
  · simp only at h
    refine h.mono fun v w'' q => ?_
    rw [put_dfr]; exact q
  · exact h
  · simp_all
theorem Oper.upon_next {o : Oper} {a : Act} {n1 n2 : Act → World → Prop} {Q : Exit → Act → World → Prop} (hn : ∀ a w, n1 a w → n2 a w) {r : Result Next} (h : o.upon P a n1 Q r) : o.upon P a n2 Q r := by
  unfold Oper.upon at h ⊢
  split
  · exact hn _ _ h
  · exact hn _ _ h
  · exact hn _ _ h
  · simp only at h
    refine h.mono fun e w'' q => ?_
    cases e with
    | returned v => exact hn _ _ q
    | panicked c => exact q
    | outgrown => exact q
  · simp only at h
    exact h.mono fun v w'' q => hn _ _ q
  · exact h
  · simp_all
theorem frame_ops {ops : Array Oper} {Q : Exit → Act → World → Prop} (ds : List Deferred) : ∀ (l : List Nat) (a : Act) (w : World),
    wpOps P ops (fun e a' w' => Q e { a' with defers := a'.defers ++ ds } w') l a w → wpOps P ops Q l { a with defers := a.defers ++ ds } w
  | [], a, w, h => h
  | i :: rest, a, w, h => by
    simp only [wpOps] at h ⊢
    cases ho : ops[i]? with
    | none => simp only [ho] at h ⊢; exact frame_ops ds rest a w h
    | some o =>
      simp only [ho] at h ⊢
      split
      · rename_i hw
        rw [if_pos hw] at h
        rcases h with h | h
        · left
          refine frame_upon ds _ ?_
          have hn : ∀ a' w', wpOps P ops (fun e a' w' => Q e { a' with defers := a'.defers ++ ds } w') rest a' w' → wpOps P ops Q rest { a' with defers := a'.defers ++ ds } w' := fun a' w' => frame_ops ds rest a' w'
          exact Oper.upon_next hn h
        · right
          obtain ⟨h1, a0, w0, q0⟩ := h
          exact ⟨h1, _, w0, q0⟩
      · rename_i hw
        rw [if_neg hw] at h
        rw [put_dfr]
        exact frame_ops ds rest _ w h
theorem keep_ops {I : Act → Prop} {ops : Array Oper} {Q : Exit → Act → World → Prop} (hI : ∀ (i : Nat) (o : Oper), ops[i]? = some o → ∀ a v, I a → I (a.put o.dst v)) (hD : ∀ (a : Act) ds, I a → I { a with defers := ds }) : ∀ (l : List Nat) (a : Act) (w : World), I a →
    wpOps P ops (fun e a' w' => (e ≠ .outgrown → I a') → Q e a' w') l a w → wpOps P ops Q l a w
  | [], a, w, ha, h => h fun _ => ha
  | i :: rest, a, w, ha, h => by
    simp only [wpOps] at h ⊢
    cases ho : ops[i]? with
    | none => simp only [ho] at h ⊢; exact keep_ops hI hD rest a w ha h
    | some o =>
      simp only [ho] at h ⊢
      have hp := hI i o ho
      split
      · rename_i hw
        rw [if_pos hw] at h
        rcases h with h | h
        · left
          unfold Oper.wp at h ⊢
          generalize (execOp a.eval o).run P w = r at h
          unfold Oper.upon at h ⊢
          split
          · exact keep_ops hI hD rest _ _ (hp a _ ha) h
          · exact keep_ops hI hD rest _ _ (hp a _ ha) h
          · exact keep_ops hI hD rest _ _ (hp _ _ (hD a _ ha)) h
          · simp only at h
            refine h.mono fun e w'' q => ?_
            cases e with
            | returned v => exact keep_ops hI hD rest _ _ (hp a _ ha) q
            | panicked c => exact q fun _ => ha
            | outgrown => obtain ⟨a0, w0, q0⟩ := q; exact ⟨a0, w0, q0 fun k => absurd rfl k⟩
          · simp only at h
            exact h.mono fun v w'' q => keep_ops hI hD rest _ _ (hp a _ ha) q
          · exact h fun _ => ha
          · simp_all
        · right
          obtain ⟨h1, a0, w0, q0⟩ := h
          exact ⟨h1, a0, w0, q0 fun k => absurd rfl k⟩
      · rename_i hw
        rw [if_neg hw] at h
        exact keep_ops hI hD rest _ _ (hp a _ ha) h
theorem conc_ne (ae : AExit) : ae.conc ≠ .outgrown := by cases ae <;> simp [AExit.conc]
/-- Operations behind a defer: what is kept is told. -/
theorem AOps.framed {I : Act → Prop} {n : Nat} {ops : Array Oper} {Q : APost} {l : List Nat} {s : AS} (hI : ∀ (i : Nat) (o : Oper), ops[i]? = some o → ∀ a v, I a → I (a.put o.dst v)) (hD : ∀ (a : Act) ds, I a → I { a with defers := ds }) (h : AOps P n ops Q l s)
    {Λ : Lent} {w : World} {φ : PMap} {a : Act} (ds : List Deferred) (hs : Sim n w φ Λ s a) (ha : I a) {QQ : Exit → Act → World → Prop}
    (hQ : ∀ ae s' w' φ' a', Q ae s' → Sim n w' φ' Λ s' a' → Goes w φ w' φ' → I a' → QQ ae.conc { a' with defers := ds } w') : wpOps P ops QQ l { a with defers := ds } w := by
  have e0 : ({ a with defers := ds } : Act) = { a with defers := a.defers ++ ds } := by rw [hs.defs]; rfl
  rw [e0]
  refine frame_ops ds l a w (keep_ops hI hD l a w ha ?_)
  refine h Λ w φ a hs _ fun ae s' w' φ' a' q hs' g hi => ?_
  have e1 : ({ a' with defers := a'.defers ++ ds } : Act) = { a' with defers := ds } := by rw [hs'.defs]; rfl
  rw [e1]
  exact hQ ae s' w' φ' a' q hs' g (hi (conc_ne ae))
def opsOf : Code → Array Oper
  | .region _ o _ => o
  | _ => #[]
def fstC : Code → Code
  | .seq x _ => x
  | c => c
def sndC : Code → Code
  | .seq _ y => y
  | c => c
theorem wpOps_cons {ops : Array Oper} {Q : Exit → Act → World → Prop} {i : Nat} {rest : List Nat} {o : Oper} {a : Act} {w : World} (ho : ops[i]? = some o) (hg : o.guard = none) (h : o.wp P a w (wpOps P ops Q rest) Q) : wpOps P ops Q (i :: rest) a w := by
  simp only [wpOps, ho, Region.wanted, hg, if_true]; exact .inl h
end
end Go.Proofs.Ytkfccjbihcbmiaa.Fw

/- Layer 4: what wire.Decode comes to; its deferred function. -/
set_option linter.unusedVariables false
set_option linter.unusedSimpArgs false
namespace Go.Proofs.Ytkfccjbihcbmiaa.Fw
open Go.RowKit


def zM : Msg := ⟨⟨0, false, 0, false, false, false, false, 0⟩, [], [], [], []⟩
def decM (b : List UInt8) : Msg := match rdM b with
  | .ok m => m
  | .error _ => zM
def decE (b : List UInt8) : Int := match rdM b with
  | .ok _ => 0
  | .error e => e
theorem und_errno : Try.prog.underlying 35 = some (.int .i64) := by kernel_rfl
theorem ta_hit (e : Int) (w : World) : (Instr.typeAssert (pE e) 20 35 true).run Try.prog w = .ok (.tuple #[.int .i64 e, .bool true]) w := by
  simp [Instr.typeAssert, run_underlying und_errno, pE]
theorem ta_nil (w : World) : (Instr.typeAssert .nilIface 20 35 true).run Try.prog w = .ok (.tuple #[.int .i64 0, .bool false]) w := by
  simp [Instr.typeAssert, run_underlying und_errno]
theorem put_getD {a : Act} {d : Option Tmp} {v : Value} {t : Nat} (h : d ≠ some t) : (a.put d v).tmps.getD t undef = a.tmps.getD t undef := by
  cases d with
  | none => rfl
  | some d =>
    have h2 : d ≠ t := fun e => h (by rw [e])
    simp [Act.put, Array.getD_eq_getD_getElem?, Array.getElem?_setIfInBounds, h2]
def kpt (T : List Nat) (o : Oper) : Bool := match o.dst with
  | some d => T.all fun t => !Nat.beq d t
  | none => true
theorem keeps_dst {T : List Nat} {ops : Array Oper} (h : ops.toList.all (kpt T) = true) {i : Nat} {o : Oper} (ho : ops[i]? = some o) : ∀ t ∈ T, o.dst ≠ some t := by
  intro t ht e
  have hm : o ∈ ops.toList := by simpa using Array.mem_of_getElem? ho
  have h1 := List.all_eq_true.1 h o hm
  unfold kpt at h1
  rw [e] at h1
  have h2 := List.all_eq_true.1 h1 t ht
  simp at h2
theorem f38_res : Try.f38.results = #[] := rfl
theorem dec_idle (p q : Value) (w : World) : CallsD Try.prog 38 #[p, q] .returning w fun e u' w' => e = .returned (.tuple #[]) ∧ u' = .returning ∧ w' = w := by
  refine callsD_of_wpS (fn := Try.f38) Try.func38 rfl fun c₀ cs hu => ?_
  apply wpS_seq
  apply wpS_region
  simp [wpOpsS, go_sem, recoverD, hu, Try.ntmps38, Exit.thenS, ta_nil]
  apply wpS_seq
  apply wpS_region
  simp [wpOpsS, go_sem, Exit.thenS]
  refine wpS_cond (t := false) (by simp [Act.eval, Array.replicate]) ?_
  simp only [Bool.false_eq_true, if_false]
  refine wpS_of_wp (wp_skip ?_)
  cases c₀
  simp_all [bodyPostS, results, f38_res]
def Z12 : List AV := [i64 0, tf false, i64 0, tf false, tf false, tf false, tf false, i64 0, .v (.slice none 0 0), .v (.slice none 0 0), .v (.slice none 0 0), .v (.slice none 0 0)]
noncomputable def decOps : Array Oper := match sndC (sndC (Try.f38.body.getD .skip)) with
  | .cond _ x _ => opsOf x
  | _ => #[]
theorem dec_keep : decOps.toList.all (kpt [0, 1]) = true := rfl
theorem dec_ops (e : Int) : AOps Try.prog 12 decOps (fun x s => x = .normal ∧ Weak s (mkS [(0, .ptr 100 0 0), (1, .ptr 101 0 0)] [(100, .box Z12), (101, .box [i64 e])])) (List.range decOps.size)
    (mkS [(0, .ptr 100 0 0), (1, .ptr 101 0 0), (2, i64 e)] [(100, .box Z12), (101, .box [i64 0])]) := by
  refine AOps.cons rfl rfl (q_build []) ?_
  refine AOps.cons rfl rfl q_move ?_
  refine AOps.cons rfl rfl q_store ?_
  refine AOps.cons rfl rfl q_store ?_
  refine AOps.nil ⟨rfl, ?_⟩
  exact Weak.full 0 []

end Go.Proofs.Ytkfccjbihcbmiaa.Fw

/- Layer 4: wire.Decode's deferred function. -/
set_option linter.unusedVariables false
set_option linter.unusedSimpArgs false
namespace Go.Proofs.Ytkfccjbihcbmiaa.Fw
open Go.RowKit

set_option maxRecDepth 100000 in
set_option maxHeartbeats 4000000 in
theorem dec_catch {e : Int} {w : World} {φ : PMap} {Λ : Lent} {pm pe : Value} (hs : HSim w φ Λ (hlook [(100, .box Z12), (101, .box [i64 0])])) (r1 : Rep w φ Λ (.ptr 100 0 0) pm) (r2 : Rep w φ Λ (.ptr 101 0 0) pe) :
    CallsD Try.prog 38 #[pm, pe] (.panicking [{ v := pE e, recovered := false }]) w fun en u' w' => en = .returned (.tuple #[]) ∧ u' = .panicking [{ v := pE e, recovered := true }] ∧
      ∃ φ', HSim w' φ' Λ (hlook [(100, .box Z12), (101, .box [i64 e])]) ∧ Goes w φ w' φ' ∧ Rep w' φ' Λ (.ptr 100 0 0) pm ∧ Rep w' φ' Λ (.ptr 101 0 0) pe := by
  refine callsD_of_wpS (fn := Try.f38) Try.func38 rfl fun c₀ cs hu => ?_
  apply wpS_seq
  apply wpS_region
  simp [wpOpsS, go_sem, recoverD, hu, Try.ntmps38, Exit.thenS, ta_hit]
  apply wpS_seq
  apply wpS_region
  simp [wpOpsS, go_sem, Exit.thenS]
  refine wpS_cond (t := true) (by simp [Act.eval, Array.replicate]) ?_
  simp only [if_true]
  refine wpS_of_wp ?_
  generalize hT : (#[pm, pe] ++ _ : Array Value) = T
  have h0 : T.getD 0 undef = pm := by rw [← hT]; simp [Array.replicate]
  have h1 : T.getD 1 undef = pe := by rw [← hT]; simp [Array.replicate]
  have h2 : T.getD 2 undef = .int .i64 e := by rw [← hT]; simp [Array.replicate]
  have hsz : T.size = 12 := by rw [← hT]; simp [Array.replicate]
  have hsim : Sim 12 w φ Λ (mkS [(0, .ptr 100 0 0), (1, .ptr 101 0 0), (2, i64 e)] [(100, .box Z12), (101, .box [i64 0])]) ⟨T, []⟩ := by
    refine ⟨rfl, hsz, fun i => ?_, hs⟩
    match i with
    | 0 => show Rep w φ Λ (.ptr 100 0 0) (T.getD 0 undef); rw [h0]; exact r1
    | 1 => show Rep w φ Λ (.ptr 101 0 0) (T.getD 1 undef); rw [h1]; exact r2
    | 2 => show Rep w φ Λ (i64 e) (T.getD 2 undef); rw [h2]; exact .v
    | i + 3 => exact .any
  apply wp_region
  change wpOps Try.prog decOps _ (List.range decOps.size) (⟨T, []⟩ : Act) w
  refine AOps.framed (I := fun a => a.tmps.getD 0 undef = pm ∧ a.tmps.getD 1 undef = pe) (ops := decOps) (fun i o ho a v hI => ?_) (fun a ds hI => hI) (dec_ops e) [] (a := ⟨T, []⟩) hsim ⟨h0, h1⟩ ?_
  · have hd := keeps_dst (T := [0, 1]) (ops := decOps) (by kernel_rfl) ho
    exact ⟨by rw [put_getD (hd 0 (by simp))]; exact hI.1, by rw [put_getD (hd 1 (by simp))]; exact hI.2⟩
  · rintro ae s' w' φ' a' ⟨rfl, hw⟩ hs' g ⟨k0, k1⟩
    obtain ⟨φ2, hs2, g2⟩ := hw 12 Λ w' φ' a' hs'
    refine ⟨rfl, _, rfl, .tuple #[], by simp [results, f38_res], rfl, rfl, φ2, hs2.hs, g.trans g2, ?_, ?_⟩
    · have := hs2.tmps 0; rwa [k0] at this
    · have := hs2.tmps 1; rwa [k1] at this

end Go.Proofs.Ytkfccjbihcbmiaa.Fw

/- Layer 4: wire.Decode, its parts. -/
set_option linter.unusedVariables false
set_option linter.unusedSimpArgs false
namespace Go.Proofs.Ytkfccjbihcbmiaa.Fw
open Go.RowKit

noncomputable def dB : Code := Try.f15.body.getD .skip
theorem d_ops0 (b : List UInt8) : AOps Try.prog Try.f15.ntmps (opsOf (fstC dB)) (fun x s => x = .normal ∧ Weak s (mkS [(0, .fz 0 b.length (cl bc b)), (2, .ptr 100 0 0), (3, .ptr 101 0 0)] [(100, .box Z12), (101, .box [i64 0])])) (List.range (opsOf (fstC dB)).size)
    ⟨fun i => [.fz 0 b.length (cl bc b)].getD i (.v undef), emp⟩ := by
  refine AOps.cons rfl rfl (q_alloc 100) ?_
  refine AOps.cons rfl rfl (q_alloc 101) ?_
  exact AOps.nil ⟨rfl, Weak.full 0 []⟩
theorem d_ops2 (b : List UInt8) : AOps Try.prog Try.f15.ntmps (opsOf (fstC (sndC (sndC dB)))) (fun x s => x = .normal ∧ Weak s (mkS [(2, .ptr 100 0 0), (3, .ptr 101 0 0), (4, .ptr 302 0 0)] [(100, .box Z12), (101, .box [i64 0]), (302, .box [.fz 0 b.length (cl bc b), i64 0])])) (List.range (opsOf (fstC (sndC (sndC dB)))).size)
    ((mkS [(0, .fz 0 b.length (cl bc b)), (2, .ptr 100 0 0), (3, .ptr 101 0 0)] [(100, .box Z12), (101, .box [i64 0])]).put (some 5) .any) := by
  refine AOps.cons rfl rfl q_move ?_
  refine AOps.cons rfl rfl (q_build [(_, _)]) ?_
  refine AOps.cons rfl rfl (q_box 302) ?_
  refine AOps.cons rfl rfl q_assign ?_
  exact AOps.nil ⟨rfl, Weak.full 0 []⟩
def dQ (b : List UInt8) : APost
  | .normal, s => ∃ m, rdM b = .ok m ∧ Weak s (mkS [(2, .ptr 100 0 0), (3, .ptr 101 0 0)] [(100, .box (msgC m)), (101, .box [i64 0])])
  | .panic x, s => ∃ e, x = pE e ∧ rdM b = .error e ∧ Weak s (mkS [(2, .ptr 100 0 0), (3, .ptr 101 0 0)] [(100, .box Z12), (101, .box [i64 0])])
  | _, _ => False
theorem d_ops3 (b : List UInt8) (hb : b.length ≤ 140737488351232) : AOps Try.prog Try.f15.ntmps (opsOf (fstC (sndC (sndC (sndC dB))))) (dQ b) (List.range (opsOf (fstC (sndC (sndC (sndC dB))))).size)
    (mkS [(2, .ptr 100 0 0), (3, .ptr 101 0 0), (4, .ptr 302 0 0)] [(100, .box Z12), (101, .box [i64 0]), (302, .box [.fz 0 b.length (cl bc b), i64 0])]) := by
  refine AOps.cons rfl rfl q_move ?_
  refine AOps.callP (hp' := fun k => [(302, .box [_, i64 k])]) (0) [(0, 302)] [] [(_, _)] (c_rdmsg b hb) (fun h => ?_) (fun x k h => ?_)
  · obtain ⟨m, hm⟩ := perr_none h
    rw [hm]
    dsimp only [resE]
    refine AOps.cons rfl rfl q_store ?_
    refine AOps.cons rfl rfl q_store ?_
    exact AOps.nil ⟨m, hm, Weak.full 0 []⟩
  · obtain ⟨e, he, rfl⟩ := perr_some h
    exact ⟨e, rfl, he, Weak.full 0 []⟩
theorem d_fin (m : Msg) (e : Int) : Fin te Try.f15 (Ret (.tup [.agg (msgC m), i64 e])) (mkS [(2, .ptr 100 0 0), (3, .ptr 101 0 0)] [(100, .box (msgC m)), (101, .box [i64 e])]) := by
  refine q_ret (0) [_, _] [_, _] ?_
  rfl
theorem d_zero (e : Int) : Weak (mkS [(2, .ptr 100 0 0), (3, .ptr 101 0 0)] [(100, .box Z12), (101, .box [i64 e])]) (mkS [(2, .ptr 100 0 0), (3, .ptr 101 0 0)] [(100, .box (msgC zM)), (101, .box [i64 e])]) := Weak.full 0 []

end Go.Proofs.Ytkfccjbihcbmiaa.Fw

/- Layer 4: wire.Decode. -/
set_option linter.unusedVariables false
set_option linter.unusedSimpArgs false
namespace Go.Proofs.Ytkfccjbihcbmiaa.Fw
open Go.RowKit

theorem dB_keep2 : (opsOf (fstC (sndC (sndC dB)))).toList.all (kpt [2, 3]) = true := rfl
theorem dB_keep3 : (opsOf (fstC (sndC (sndC (sndC dB))))).toList.all (kpt [2, 3]) = true := rfl
theorem d_inv (x y : Value) (w : World) : (invoke (.fn (.func 38) #[x, y]) #[]).run Try.prog w = .ok (.enter 38 #[x, y]) w := by
  simp [go_sem]
set_option maxRecDepth 100000 in
set_option maxHeartbeats 4000000 in
theorem c_Decode (b : List UInt8) (hb : b.length ≤ 140737488351232) : AC Try.prog 15 [.fz 0 b.length (cl bc b)] emp (Ret (.tup [.agg (msgC (decM b)), i64 (decE b)])) := by
  refine ⟨⟨Try.f15, _, Try.func15, rfl, rfl⟩, fun Λ w φ vals hs ha QQ hret hpan => ?_⟩
  have hs0 := sim_enter (n := Try.f15.ntmps) hs ha (Nat.le_of_ble_eq_true rfl)
  refine calls_of_wp_defers (fn := Try.f15) Try.func15 rfl ?_
  refine wp_seq (wp_region ?_)
  refine d_ops0 b Λ w φ _ hs0 _ ?_
  rintro ae s1 w1 φ1 a1 ⟨rfl, hW1⟩ hs1 g1
  obtain ⟨φ2, hs2, g2⟩ := hW1 _ Λ w1 φ1 a1 hs1
  refine wp_seq (wp_region ?_)
  have hmf : ∀ (fn : Go.Fn) (first cap : Array Value) (w : World), (Instr.makeFunc fn first cap).run Try.prog w = .ok (.func fn first cap) w := fun _ _ _ _ => rfl
  obtain ⟨V, hV⟩ : ∃ V : Value, V = .func (.func 38) #[] #[a1.eval (.tmp 2), a1.eval (.tmp 3)] := ⟨_, rfl⟩
  have hsz : a1.tmps.size = 11 := hs1.size
  refine wpOps_cons rfl rfl ?_
  simp only [Oper.wp, execOp]
  simp [hmf]
  rw [← hV, Oper.upon_value]
  have h5 : (a1.put (some 5) V).eval (.tmp 5) = V := by simp [Act.put, Act.eval, hsz]
  refine wpOps_cons rfl rfl ?_
  have hd : Deferred.ofValue V #[] = pure { target := .fn (.func 38) #[a1.eval (.tmp 2), a1.eval (.tmp 3)], args := #[] } := by rw [hV]; rfl
  simp [Oper.wp, execOp, resolve, h5, hd]
  rw [Oper.upon_defer]
  change Code.wp Try.prog _ _ ({ a1.put (some 5) V with defers := _ :: (a1.put (some 5) V).defers } : Act) w1
  rw [show (a1.put (some 5) V).defers = [] from hs1.defs]
  refine wp_seq (wp_region ?_)
  change wpOps Try.prog (opsOf (fstC (sndC (sndC dB)))) _ (List.range (opsOf (fstC (sndC (sndC dB)))).size) _ w1
  refine AOps.framed (I := fun a => a.tmps.getD 2 undef = a1.eval (.tmp 2) ∧ a.tmps.getD 3 undef = a1.eval (.tmp 3)) (ops := opsOf (fstC (sndC (sndC dB)))) (fun i o ho a v hI => ?_) (fun a ds hI => hI) (d_ops2 b) _ (a := a1.put (some 5) V) (hs2.put (some 5) rfl .any) ⟨put_getD (by simp), put_getD (by simp)⟩ ?_
  · have hd := keeps_dst (T := [2, 3]) dB_keep2 ho
    exact ⟨by rw [put_getD (hd 2 (by simp))]; exact hI.1, by rw [put_getD (hd 3 (by simp))]; exact hI.2⟩
  rintro ae s3 w3 φ3 a3 ⟨rfl, hW3⟩ hs3 g3 hI3
  obtain ⟨φ4, hs4, g4⟩ := hW3 _ Λ w3 φ3 a3 hs3
  refine wp_seq (wp_region ?_)
  change wpOps Try.prog (opsOf (fstC (sndC (sndC (sndC dB))))) _ (List.range (opsOf (fstC (sndC (sndC (sndC dB))))).size) _ w3
  refine AOps.framed (I := fun a => a.tmps.getD 2 undef = a1.eval (.tmp 2) ∧ a.tmps.getD 3 undef = a1.eval (.tmp 3)) (ops := opsOf (fstC (sndC (sndC (sndC dB))))) (fun i o ho a v hI => ?_) (fun a ds hI => hI) (d_ops3 b hb) _ (a := a3) hs4 hI3 ?_
  · have hd := keeps_dst (T := [2, 3]) dB_keep3 ho
    exact ⟨by rw [put_getD (hd 2 (by simp))]; exact hI.1, by rw [put_getD (hd 3 (by simp))]; exact hI.2⟩
  rintro ae s5 w5 φ5 a5 q hs5 g5 ⟨k2, k3⟩
  have gg : Goes w φ w5 φ5 := (((g1.trans g2).trans g3).trans g4).trans g5
  cases ae with
  | normal =>
    obtain ⟨m, hm, hW5⟩ := q
    obtain ⟨φ6, hs6, g6⟩ := hW5 _ Λ w5 φ5 a5 hs5
    refine wp_ret ?_
    refine leaves_cons (f := 38) (args := #[a1.eval (.tmp 2), a1.eval (.tmp 3)]) (by simp) (d_inv _ _ _) ?_
    refine (dec_idle _ _ w5).mono ?_
    rintro e u' w' ⟨rfl, rfl, rfl⟩
    obtain ⟨v, r, h', φ7, f1, f2, f3, f4, f5⟩ := fin_ret te_ok (d_fin m 0) hs6
    refine ⟨v, f1, hret r h' _ φ7 v ?_ f3 ((gg.trans g6).trans f4) f5⟩
    rw [show decM b = m by rw [decM, hm], show decE b = 0 by rw [decE, hm]]
    exact f2
  | panic x =>
    obtain ⟨e, rfl, he, hW5⟩ := q
    obtain ⟨φ6, hs6, g6⟩ := hW5 _ Λ w5 φ5 a5 hs5
    have r1 := hs6.tmps 2
    have r2 := hs6.tmps 3
    rw [k2] at r1
    rw [k3] at r2
    refine leaves_cons (f := 38) (args := #[a1.eval (.tmp 2), a1.eval (.tmp 3)]) (by simp) (d_inv _ _ _) ?_
    refine (dec_catch hs6.hs r1 r2).mono ?_
    rintro e' u' w' ⟨rfl, rfl, φ7, hh, g7, q2, q3⟩
    have hsim : Sim Try.f15.ntmps w' φ7 Λ (mkS [(2, .ptr 100 0 0), (3, .ptr 101 0 0)] [(100, .box Z12), (101, .box [i64 e])]) ⟨a5.tmps, []⟩ := by
      refine ⟨rfl, hs5.size, fun i => ?_, hh⟩
      match i with
      | 0 => exact .any
      | 1 => exact .any
      | 2 => show Rep w' φ7 Λ (.ptr 100 0 0) (a5.tmps.getD 2 undef); rw [k2]; exact q2
      | 3 => show Rep w' φ7 Λ (.ptr 101 0 0) (a5.tmps.getD 3 undef); rw [k3]; exact q3
      | i + 4 => exact .any
    obtain ⟨φ8, hs8, g8⟩ := d_zero e _ Λ w' φ7 _ hsim
    obtain ⟨v, r, h', φ9, f1, f2, f3, f4, f5⟩ := fin_ret te_ok (d_fin zM e) hs8
    refine ⟨v, f1, hret r h' _ φ9 v ?_ f3 ((((gg.trans g6).trans g7).trans g8).trans f4) f5⟩
    rw [show decM b = zM by rw [decM, he], show decE b = e by rw [decE, he]]
    exact f2
  | exit id => exact q.elim
  | goto l => exact q.elim
  | ret => exact q.elim

end Go.Proofs.Ytkfccjbihcbmiaa.Fw

/- Messages as arguments of laws. -/
set_option linter.unusedVariables false
set_option linter.unusedSimpArgs false
namespace Go.Proofs.Ytkfccjbihcbmiaa.Fw
open Go.RowKit


section
variable {d : Nat} {s n b u : TypeId} {is in' ib iu : TI}
theorem has_rr {t y : TypeId} {it iy : TI} {cs : List AV} (h : Has te (d + 2) t cs) (ht : te.get t = some it) (kt : it.k = .struct [(0, s), (1, n), (2, n), (3, n), (4, y)]) (hs : te.get s = some is) (ks : is.k = .str) (hn : te.get n = some in') (kn : in'.k = .int .i64)
    (hy : te.get y = some iy) (ky : iy.k = .slice u) (hu : te.get u = some iu) (ku : iu.k = .int .u8) (bu : iu.bytes = 1) : ∃ x : Rr, cs = rrc x ∧ x.da.length ≤ 140737488351232 := by
  obtain ⟨_, w, rfl, q, hh⟩ := has_struct h ht kt
  obtain ⟨a1, rfl, _⟩ := has_str q hs ks
  obtain ⟨_, w, rfl, q, hh⟩ := hh
  obtain ⟨a2, rfl, _⟩ := has_int q hn kn
  obtain ⟨_, w, rfl, q, hh⟩ := hh
  obtain ⟨a3, rfl, _⟩ := has_int q hn kn
  obtain ⟨_, w, rfl, q, hh⟩ := hh
  obtain ⟨a4, rfl, _⟩ := has_int q hn kn
  obtain ⟨_, w, rfl, q, hh⟩ := hh
  obtain ⟨a5, rfl, h5⟩ := has_bytes q hy ky hu ku bu
  cases hh
  exact ⟨⟨a1, a2, a3, a4, a5⟩, rfl, h5⟩
theorem has_qu {t : TypeId} {it : TI} {cs : List AV} (h : Has te (d + 1) t cs) (ht : te.get t = some it) (kt : it.k = .struct [(0, s), (1, n), (2, n)]) (hs : te.get s = some is) (ks : is.k = .str) (hn : te.get n = some in') (kn : in'.k = .int .i64) : ∃ x : Qu, cs = quc x ∧ True := by
  obtain ⟨_, w, rfl, q, hh⟩ := has_struct h ht kt
  obtain ⟨a1, rfl, _⟩ := has_str q hs ks
  obtain ⟨_, w, rfl, q, hh⟩ := hh
  obtain ⟨a2, rfl, _⟩ := has_int q hn kn
  obtain ⟨_, w, rfl, q, hh⟩ := hh
  obtain ⟨a3, rfl, _⟩ := has_int q hn kn
  cases hh
  exact ⟨⟨a1, a2, a3⟩, rfl, trivial⟩
theorem has_rrs {t r y : TypeId} {it ir iy : TI} {cs : List AV} (h : Has te (d + 3) t cs) (ht : te.get t = some it) (kt : it.k = .slice r) (hr : te.get r = some ir) (kr : ir.k = .struct [(0, s), (1, n), (2, n), (3, n), (4, y)]) (br : ir.bytes = 64)
    (hs : te.get s = some is) (ks : is.k = .str) (hn : te.get n = some in') (kn : in'.k = .int .i64) (hy : te.get y = some iy) (ky : iy.k = .slice u) (hu : te.get u = some iu) (ku : iu.k = .int .u8) (bu : iu.bytes = 1) : ∃ l : List Rr, cs = [.fz 0 l.length (cl rrc l)] ∧ RrsOk l := by
  obtain ⟨l, h1, h2, h3⟩ := has_sl (f := rrc) (q := fun x => x.da.length ≤ 140737488351232) h ht kt hr fun c hc => has_rr hc hr kr hs ks hn kn hy ky hu ku bu
  exact ⟨l, h1, by rw [br] at h2; exact h2, h3⟩
theorem has_qus {t r : TypeId} {it ir : TI} {cs : List AV} (h : Has te (d + 2) t cs) (ht : te.get t = some it) (kt : it.k = .slice r) (hr : te.get r = some ir) (kr : ir.k = .struct [(0, s), (1, n), (2, n)]) (br : ir.bytes = 32)
    (hs : te.get s = some is) (ks : is.k = .str) (hn : te.get n = some in') (kn : in'.k = .int .i64) : ∃ l : List Qu, cs = [.fz 0 l.length (cl quc l)] ∧ l.length * 32 ≤ 140737488351232 := by
  obtain ⟨l, h1, h2, h3⟩ := has_sl (f := quc) (q := fun _ => True) h ht kt hr fun c hc => has_qu hc hr kr hs ks hn kn
  exact ⟨l, h1, by rw [br] at h2; exact h2⟩
theorem has_hdr {t : TypeId} {it : TI} {cs : List AV} (h : Has te (d + 1) t cs) (ht : te.get t = some it) (kt : it.k = .struct [(0, n), (1, b), (2, n), (3, b), (4, b), (5, b), (6, b), (7, n)]) (hn : te.get n = some in') (kn : in'.k = .int .i64) (hb : te.get b = some ib) (kb : ib.k = .bool) :
    ∃ x : Hdr, cs = [i64 x.id, tf x.resp, i64 x.op, tf x.aa, tf x.tc, tf x.rd, tf x.ra, i64 x.code] ∧ (-9223372036854775808 ≤ x.id ∧ x.id ≤ 9223372036854775807) ∧ (-9223372036854775808 ≤ x.op ∧ x.op ≤ 9223372036854775807) ∧ (-9223372036854775808 ≤ x.code ∧ x.code ≤ 9223372036854775807) := by
  obtain ⟨_, w, rfl, q, hh⟩ := has_struct h ht kt
  obtain ⟨a1, rfl, b1⟩ := has_int q hn kn
  obtain ⟨_, w, rfl, q, hh⟩ := hh
  obtain ⟨a2, rfl⟩ := has_bool q hb kb
  obtain ⟨_, w, rfl, q, hh⟩ := hh
  obtain ⟨a3, rfl, b3⟩ := has_int q hn kn
  obtain ⟨_, w, rfl, q, hh⟩ := hh
  obtain ⟨a4, rfl⟩ := has_bool q hb kb
  obtain ⟨_, w, rfl, q, hh⟩ := hh
  obtain ⟨a5, rfl⟩ := has_bool q hb kb
  obtain ⟨_, w, rfl, q, hh⟩ := hh
  obtain ⟨a6, rfl⟩ := has_bool q hb kb
  obtain ⟨_, w, rfl, q, hh⟩ := hh
  obtain ⟨a7, rfl⟩ := has_bool q hb kb
  obtain ⟨_, w, rfl, q, hh⟩ := hh
  obtain ⟨a8, rfl, b8⟩ := has_int q hn kn
  cases hh
  exact ⟨⟨a1, a2, a3, a4, a5, a6, a7, a8⟩, rfl, b1, b3, b8⟩
theorem has_msg {t th tq tr r q y : TypeId} {it ith itq itr ir iq iy : TI} {cs : List AV} (h : Has te (d + 4) t cs) (ht : te.get t = some it) (kt : it.k = .struct [(0, th), (8, tq), (9, tr), (10, tr), (11, tr)])
    (hth : te.get th = some ith) (kth : ith.k = .struct [(0, n), (1, b), (2, n), (3, b), (4, b), (5, b), (6, b), (7, n)]) (htq : te.get tq = some itq) (ktq : itq.k = .slice q) (hq : te.get q = some iq) (kq : iq.k = .struct [(0, s), (1, n), (2, n)]) (bq : iq.bytes = 32)
    (htr : te.get tr = some itr) (ktr : itr.k = .slice r) (hr : te.get r = some ir) (kr : ir.k = .struct [(0, s), (1, n), (2, n), (3, n), (4, y)]) (br : ir.bytes = 64)
    (hs : te.get s = some is) (ks : is.k = .str) (hn : te.get n = some in') (kn : in'.k = .int .i64) (hb : te.get b = some ib) (kb : ib.k = .bool) (hy : te.get y = some iy) (ky : iy.k = .slice u) (hu : te.get u = some iu) (ku : iu.k = .int .u8) (bu : iu.bytes = 1) :
    ∃ m : Msg, cs = msgC m ∧ MsgOk m := by
  obtain ⟨_, w, rfl, q1, hh⟩ := has_struct h ht kt
  obtain ⟨a1, rfl, _⟩ := has_hdr q1 hth kth hn kn hb kb
  obtain ⟨_, w, rfl, q1, hh⟩ := hh
  obtain ⟨a2, rfl, b2⟩ := has_qus q1 htq ktq hq kq bq hs ks hn kn
  obtain ⟨_, w, rfl, q1, hh⟩ := hh
  obtain ⟨a3, rfl, b3⟩ := has_rrs q1 htr ktr hr kr br hs ks hn kn hy ky hu ku bu
  obtain ⟨_, w, rfl, q1, hh⟩ := hh
  obtain ⟨a4, rfl, b4⟩ := has_rrs q1 htr ktr hr kr br hs ks hn kn hy ky hu ku bu
  obtain ⟨_, w, rfl, q1, hh⟩ := hh
  obtain ⟨a5, rfl, b5⟩ := has_rrs q1 htr ktr hr kr br hs ks hn kn hy ky hu ku bu
  cases hh
  exact ⟨⟨a1, a2, a3, a4, a5⟩, rfl, b2, b3, b4, b5⟩
end

end Go.Proofs.Ytkfccjbihcbmiaa.Fw

/- Messages as arguments of laws, with names' sizes. -/
set_option linter.unusedVariables false
set_option linter.unusedSimpArgs false
namespace Go.Proofs.Ytkfccjbihcbmiaa.Fw
open Go.RowKit


section
variable {d : Nat} {s n b u : TypeId} {is in' ib iu : TI}
theorem has_rrN {t y : TypeId} {it iy : TI} {cs : List AV} (h : Has te (d + 2) t cs) (ht : te.get t = some it) (kt : it.k = .struct [(0, s), (1, n), (2, n), (3, n), (4, y)]) (hs : te.get s = some is) (ks : is.k = .str) (hn : te.get n = some in') (kn : in'.k = .int .i64)
    (hy : te.get y = some iy) (ky : iy.k = .slice u) (hu : te.get u = some iu) (ku : iu.k = .int .u8) (bu : iu.bytes = 1) : ∃ x : Rr, cs = rrc x ∧ (x.da.length ≤ 140737488351232 ∧ x.nm.length ≤ 140737488351232) := by
  obtain ⟨_, w, rfl, q, hh⟩ := has_struct h ht kt
  obtain ⟨a1, rfl, bn⟩ := has_str q hs ks
  obtain ⟨_, w, rfl, q, hh⟩ := hh
  obtain ⟨a2, rfl, _⟩ := has_int q hn kn
  obtain ⟨_, w, rfl, q, hh⟩ := hh
  obtain ⟨a3, rfl, _⟩ := has_int q hn kn
  obtain ⟨_, w, rfl, q, hh⟩ := hh
  obtain ⟨a4, rfl, _⟩ := has_int q hn kn
  obtain ⟨_, w, rfl, q, hh⟩ := hh
  obtain ⟨a5, rfl, h5⟩ := has_bytes q hy ky hu ku bu
  cases hh
  exact ⟨⟨a1, a2, a3, a4, a5⟩, rfl, h5, bn⟩
theorem has_quN {t : TypeId} {it : TI} {cs : List AV} (h : Has te (d + 1) t cs) (ht : te.get t = some it) (kt : it.k = .struct [(0, s), (1, n), (2, n)]) (hs : te.get s = some is) (ks : is.k = .str) (hn : te.get n = some in') (kn : in'.k = .int .i64) : ∃ x : Qu, cs = quc x ∧ x.nm.length ≤ 140737488351232 := by
  obtain ⟨_, w, rfl, q, hh⟩ := has_struct h ht kt
  obtain ⟨a1, rfl, bn⟩ := has_str q hs ks
  obtain ⟨_, w, rfl, q, hh⟩ := hh
  obtain ⟨a2, rfl, _⟩ := has_int q hn kn
  obtain ⟨_, w, rfl, q, hh⟩ := hh
  obtain ⟨a3, rfl, _⟩ := has_int q hn kn
  cases hh
  exact ⟨⟨a1, a2, a3⟩, rfl, bn⟩
theorem has_rrsN {t r y : TypeId} {it ir iy : TI} {cs : List AV} (h : Has te (d + 3) t cs) (ht : te.get t = some it) (kt : it.k = .slice r) (hr : te.get r = some ir) (kr : ir.k = .struct [(0, s), (1, n), (2, n), (3, n), (4, y)]) (br : ir.bytes = 64)
    (hs : te.get s = some is) (ks : is.k = .str) (hn : te.get n = some in') (kn : in'.k = .int .i64) (hy : te.get y = some iy) (ky : iy.k = .slice u) (hu : te.get u = some iu) (ku : iu.k = .int .u8) (bu : iu.bytes = 1) : ∃ l : List Rr, cs = [.fz 0 l.length (cl rrc l)] ∧ (RrsOk l ∧ ∀ x ∈ l, x.nm.length ≤ 140737488351232) := by
  obtain ⟨l, h1, h2, h3⟩ := has_sl (f := rrc) (q := fun x => x.da.length ≤ 140737488351232 ∧ x.nm.length ≤ 140737488351232) h ht kt hr fun c hc => has_rrN hc hr kr hs ks hn kn hy ky hu ku bu
  exact ⟨l, h1, ⟨by rw [br] at h2; exact h2, fun x hx => (h3 x hx).1⟩, fun x hx => (h3 x hx).2⟩
theorem has_qusN {t r : TypeId} {it ir : TI} {cs : List AV} (h : Has te (d + 2) t cs) (ht : te.get t = some it) (kt : it.k = .slice r) (hr : te.get r = some ir) (kr : ir.k = .struct [(0, s), (1, n), (2, n)]) (br : ir.bytes = 32)
    (hs : te.get s = some is) (ks : is.k = .str) (hn : te.get n = some in') (kn : in'.k = .int .i64) : ∃ l : List Qu, cs = [.fz 0 l.length (cl quc l)] ∧ (l.length * 32 ≤ 140737488351232 ∧ ∀ x ∈ l, x.nm.length ≤ 140737488351232) := by
  obtain ⟨l, h1, h2, h3⟩ := has_sl (f := quc) (q := fun x => x.nm.length ≤ 140737488351232) h ht kt hr fun c hc => has_quN hc hr kr hs ks hn kn
  exact ⟨l, h1, by rw [br] at h2; exact h2, h3⟩
theorem has_msgN {t th tq tr r q y : TypeId} {it ith itq itr ir iq iy : TI} {cs : List AV} (h : Has te (d + 4) t cs) (ht : te.get t = some it) (kt : it.k = .struct [(0, th), (8, tq), (9, tr), (10, tr), (11, tr)])
    (hth : te.get th = some ith) (kth : ith.k = .struct [(0, n), (1, b), (2, n), (3, b), (4, b), (5, b), (6, b), (7, n)]) (htq : te.get tq = some itq) (ktq : itq.k = .slice q) (hq : te.get q = some iq) (kq : iq.k = .struct [(0, s), (1, n), (2, n)]) (bq : iq.bytes = 32)
    (htr : te.get tr = some itr) (ktr : itr.k = .slice r) (hr : te.get r = some ir) (kr : ir.k = .struct [(0, s), (1, n), (2, n), (3, n), (4, y)]) (br : ir.bytes = 64)
    (hs : te.get s = some is) (ks : is.k = .str) (hn : te.get n = some in') (kn : in'.k = .int .i64) (hb : te.get b = some ib) (kb : ib.k = .bool) (hy : te.get y = some iy) (ky : iy.k = .slice u) (hu : te.get u = some iu) (ku : iu.k = .int .u8) (bu : iu.bytes = 1) :
    ∃ m : Msg, cs = msgC m ∧ MsgOk m ∧ NmOk m := by
  obtain ⟨_, w, rfl, q1, hh⟩ := has_struct h ht kt
  obtain ⟨a1, rfl, _⟩ := has_hdr q1 hth kth hn kn hb kb
  obtain ⟨_, w, rfl, q1, hh⟩ := hh
  obtain ⟨a2, rfl, b2⟩ := has_qusN q1 htq ktq hq kq bq hs ks hn kn
  obtain ⟨_, w, rfl, q1, hh⟩ := hh
  obtain ⟨a3, rfl, b3⟩ := has_rrsN q1 htr ktr hr kr br hs ks hn kn hy ky hu ku bu
  obtain ⟨_, w, rfl, q1, hh⟩ := hh
  obtain ⟨a4, rfl, b4⟩ := has_rrsN q1 htr ktr hr kr br hs ks hn kn hy ky hu ku bu
  obtain ⟨_, w, rfl, q1, hh⟩ := hh
  obtain ⟨a5, rfl, b5⟩ := has_rrsN q1 htr ktr hr kr br hs ks hn kn hy ky hu ku bu
  cases hh
  refine ⟨⟨a1, a2, a3, a4, a5⟩, rfl, ⟨b2.1, b3.1, b4.1, b5.1⟩, b2.2, fun x hx => ?_⟩
  simp only [Msg.rrs, List.mem_append] at hx
  rcases hx with (hx | hx) | hx
  · exact b3.2 x hx
  · exact b4.2 x hx
  · exact b5.2 x hx
end

end Go.Proofs.Ytkfccjbihcbmiaa.Fw

/- Layer 4: awake, WireWrites. -/
set_option linter.unusedVariables false
set_option linter.unusedSimpArgs false
namespace Go.Proofs.Ytkfccjbihcbmiaa.Fw
open Go.RowKit


def aM : Msg := ⟨⟨7, false, 0, false, false, false, false, 0⟩, [], [], [], []⟩
def aB : List UInt8 := [0, 7, 0, 0, 0, 0, 0, 0, 0, 0, 0, 0]
theorem aM_ok : MsgOk aM ∧ NmOk aM := by
  refine ⟨⟨by decide, ⟨by decide, by simp [aM]⟩, ⟨by decide, by simp [aM]⟩, ⟨by decide, by simp [aM]⟩⟩, by simp [aM], by simp [aM, Msg.rrs]⟩
theorem aM_enc : encB aM = aB ∧ encE aM = 0 := by decide +kernel
theorem aM_dec : decE aB = 0 ∧ (decM aB).h.id = 7 := by decide +kernel

set_option maxRecDepth 20000 in
set_option maxHeartbeats 2000000 in
theorem c_ciceronelaw04_awake  : AC Try.prog 14 [] emp (Ret (tf true)) := by
  refine AC.intro te_ok (fn := Try.f14) ⟨Try.func14, rfl, rfl⟩ (Nat.le_of_ble_eq_true rfl) ?_
  refine AWp.seq ?_
  refine AWp.region ?_
  refine AOps.cons rfl rfl (q_assign) ?_
  refine AOps.nil ?_
  refine AWp.seq ?_
  refine AWp.region ?_
  refine AOps.cons rfl rfl (q_build [(_, _)]) ?_
  refine AOps.cons rfl rfl (q_build [(_, _)]) ?_
  refine AOps.cons rfl rfl (q_call (0) (hA := by exact ⟨fv_agg ⟨fv_okb rfl rfl, fv_okb rfl rfl, fv_okb rfl rfl, fv_okb rfl rfl, fv_okb rfl rfl, fv_okb rfl rfl, fv_okb rfl rfl, fv_okb rfl rfl, fv_nilz, fv_nilz, fv_nilz, fv_nilz, trivial⟩, trivial⟩) (hc := (c_wire_Encode aM aM_ok.1 aM_ok.2))) ?_
  refine AOps.cons rfl rfl (q_move) ?_
  refine AOps.cons rfl rfl (q_extract) ?_
  refine AOps.cons rfl rfl (q_extract) ?_
  refine AOps.cons rfl rfl (q_assign) ?_
  refine AOps.cons rfl rfl (q_assign) ?_
  refine AOps.nil ?_
  refine AWp.seq ?_
  refine AWp.region ?_
  rw [aM_enc.1, aM_enc.2]
  refine AOps.cons rfl rfl (q_move) ?_
  refine AOps.cons rfl rfl (q_call (0) (hc := (c_Decode aB (by decide)))) ?_
  refine AOps.cons rfl rfl (q_move) ?_
  refine AOps.cons rfl rfl (q_extract) ?_
  refine AOps.cons rfl rfl (q_extract) ?_
  refine AOps.cons rfl rfl (q_alloc 305) ?_
  refine AOps.cons rfl rfl (q_store) ?_
  refine AOps.cons rfl rfl (q_assign) ?_
  refine AOps.nil ?_
  refine AWp.seq ?_
  refine AWp.region ?_
  rw [aM_dec.1]
  refine AOps.cons rfl rfl (q_move) ?_
  refine AOps.dec rfl rfl (q_eql) (fun h3_1 => ?_) (fun h3_1 => ?_)
  · skip
    refine AOps.cons rfl rfl (q_move) ?_
    refine AOps.gcons rfl rfl rfl rfl rfl (q_move) ?_
    refine AOps.gdec rfl rfl rfl rfl rfl (q_eql) (fun h3_4 => ?_) (fun h3_4 => ?_)
    · skip
      refine AOps.cons rfl rfl (q_pick) ?_
      refine AOps.cons rfl rfl (q_move) ?_
      refine AOps.gcons rfl rfl rfl rfl rfl (q_move) ?_
      refine AOps.gcons rfl rfl rfl rfl rfl (q_len) ?_
      refine AOps.gdec rfl rfl rfl rfl rfl (q_eql) (fun h3_9 => ?_) (fun h3_9 => ?_)
      · skip
        refine AOps.cons rfl rfl (q_pick) ?_
        refine AOps.cons rfl rfl (q_move) ?_
        refine AOps.gcons rfl rfl rfl rfl rfl (q_fa) ?_
        refine AOps.gcons rfl rfl rfl rfl rfl (q_fa) ?_
        refine AOps.gcons rfl rfl rfl rfl rfl (q_load) ?_
        refine AOps.gcons rfl rfl rfl rfl rfl ((OpOk.dec_t (q_eql) (aM_dec.2))) ?_
        refine AOps.cons rfl rfl (q_pick) ?_
        refine AOps.cons rfl rfl (q_assign) ?_
        refine AOps.nil ?_
        refine AWp.ret ?_
        show Fin te Try.f14 _ _
        refine q_ret (0) [_] [_] ?_
        rfl
      · exfalso; first | exact h3_9 rfl | omega | (rw [eqV_same rfl] at h3_9; cases h3_9) | (simp at h3_9; done) | (simp_all; done)
    · exfalso; first | exact h3_4 rfl | omega | (rw [eqV_same rfl] at h3_4; cases h3_4) | (simp at h3_4; done) | (simp_all; done)
  · exfalso; first | exact h3_1 rfl | omega | (rw [eqV_same rfl] at h3_1; cases h3_1) | (simp at h3_1; done) | (simp_all; done)

set_option maxRecDepth 20000 in
set_option maxHeartbeats 2000000 in
theorem c_ciceronelaw04_WireWrites (m : Msg) (h : MsgOk m) (hn : NmOk m) : AC Try.prog 9 [.agg (msgC m)] emp (Ret (tf true)) := by
  refine AC.intro te_ok (fn := Try.f9) ⟨Try.func9, rfl, rfl⟩ (Nat.le_of_ble_eq_true rfl) ?_
  refine AWp.seq ?_
  refine AWp.region ?_
  refine AOps.cons rfl rfl (q_box 100) ?_
  refine AOps.cons rfl rfl (q_assign) ?_
  refine AOps.nil ?_
  refine AWp.seq ?_
  refine AWp.region ?_
  refine AOps.cons rfl rfl (q_load) ?_
  refine AOps.cons rfl rfl (q_call (0) (hc := (c_ciceroneplain_Message m h))) ?_
  refine AOps.cons rfl rfl (q_alloc 202) ?_
  refine AOps.cons rfl rfl (q_store) ?_
  refine AOps.nil ?_
  refine AWp.seq ?_
  refine AWp.region ?_
  refine AOps.cons rfl rfl (q_load) ?_
  refine AOps.cons rfl rfl (q_call (0) (hc := (c_wire_Encode m h hn))) ?_
  refine AOps.cons rfl rfl (q_move) ?_
  refine AOps.cons rfl rfl (q_extract) ?_
  refine AOps.cons rfl rfl (q_extract) ?_
  refine AOps.cons rfl rfl (q_assign) ?_
  refine AOps.cons rfl rfl (q_assign) ?_
  refine AOps.nil ?_
  refine AWp.seq ?_
  refine AWp.region ?_
  refine AOps.cons rfl rfl (q_load) ?_
  refine AOps.cons rfl rfl (q_call (0) (hc := (c_ciceroneref04_Encode m h hn))) ?_
  refine AOps.cons rfl rfl (q_move) ?_
  refine AOps.cons rfl rfl (q_extract) ?_
  refine AOps.cons rfl rfl (q_extract) ?_
  refine AOps.cons rfl rfl (q_assign) ?_
  refine AOps.cons rfl rfl (q_assign) ?_
  refine AOps.nil ?_
  refine AWp.seq ?_
  refine AWp.draws [⟨0, [5], [], some 20, _, none⟩,
      ⟨1, [7], [], some 21, _, none⟩,
      ⟨2, [20, 21], [], some 22, _, none⟩,
      ⟨3, [22], [], some 23, _, none⟩,
      ⟨4, [4, 23], [], some 24, _, none⟩,
      ⟨5, [6, 23], [], some 25, _, none⟩,
      ⟨6, [23, 24, 25], [], some 26, _, none⟩,
      ⟨7, [23, 26], [], some 27, _, none⟩,
      ⟨8, [27], [], some 28, _, none⟩,
      ⟨9, [3, 28], [202], some 29, _, none⟩,
      ⟨10, [28, 29], [], some 30, _, none⟩,
      ⟨11, [1, 28], [100], some 31, _, none⟩,
      ⟨12, [28, 31], [], some 32, _, none⟩,
      ⟨13, [28, 30, 32], [], some 33, _, none⟩,
      ⟨14, [28, 33], [], some 34, _, none⟩,
      ⟨15, [34], [], some 35, _, none⟩,
      ⟨16, [3, 35], [202], some 36, _, none⟩,
      ⟨17, [1, 35], [100], some 37, _, none⟩,
      ⟨18, [35, 36, 37], [], some 38, _, none⟩,
      ⟨19, [35, 38], [], some 39, _, none⟩,
      ⟨20, [39], [], some 40, _, none⟩,
      ⟨21, [40], [], some 41, _, none⟩,
      ⟨22, [40, 41], [], some 42, _, none⟩,
      ⟨23, [42], [], some 2, _, none⟩]
    [⟨0, [5], [], some 20, .any, none⟩,
        ⟨1, [7], [], some 21, .any, none⟩,
        ⟨2, [20, 21], [], some 22, .any, none⟩,
        ⟨3, [22], [], some 23, .any, none⟩,
        ⟨4, [4, 23], [], some 24, .any, none⟩,
        ⟨5, [6, 23], [], some 25, .any, none⟩,
        ⟨6, [23, 24, 25], [], some 26, .any, none⟩,
        ⟨7, [23, 26], [], some 27, .any, none⟩,
        ⟨8, [27], [], some 28, .any, none⟩,
        ⟨9, [3, 28], [202], some 29, .any, none⟩,
        ⟨10, [28, 29], [], some 30, .any, none⟩,
        ⟨11, [1, 28], [100], some 31, .any, none⟩,
        ⟨12, [28, 31], [], some 32, .any, none⟩,
        ⟨13, [28, 30, 32], [], some 33, .any, none⟩,
        ⟨14, [28, 33], [], some 34, .any, none⟩,
        ⟨15, [34], [], some 35, .any, none⟩,
        ⟨16, [3, 35], [202], some 36, .any, none⟩,
        ⟨17, [1, 35], [100], some 37, .any, none⟩,
        ⟨18, [35, 36, 37], [], some 38, .any, none⟩,
        ⟨19, [35, 38], [], some 39, .any, none⟩,
        ⟨20, [39], [], some 40, .any, none⟩,
        ⟨21, [40], [], some 41, .any, none⟩,
        ⟨22, [40, 41], [], some 42, .any, none⟩,
        ⟨23, [42], [], some 2, .any, none⟩]
    mixed_ok rfl (by kernel_rfl) ⟨DS.ok_over fun s0 => OpAt.go rfl rfl (q_move),
        DS.ok_over fun s0 => OpAt.go rfl rfl (q_move),
        DS.ok_over fun s0 => OpAt.go rfl rfl ((OpOk.dec_t (q_eql) (rfl))),
        DS.ok_over fun s0 => OpAt.go rfl rfl (q_move),
        DS.ok_over fun s0 => OpAt.ggo rfl rfl rfl rfl rfl (q_move),
        DS.ok_over fun s0 => OpAt.ggo rfl rfl rfl rfl rfl (q_move),
        DS.ok_over fun s0 => OpAt.ggo rfl rfl rfl rfl rfl ((OpOk.dec_t (q_call (0) (hc := (c_bytes_Equal (encB m) (encB m) 0 0))) (rfl))),
        DS.ok_over fun s0 => OpAt.go rfl rfl (q_pick),
        DS.ok_over fun s0 => OpAt.go rfl rfl (q_move),
        DS.ok_over fun s0 => OpAt.ggo rfl rfl rfl rfl rfl (q_load),
        DS.ok_over fun s0 => OpAt.ggo rfl rfl rfl rfl rfl (q_call (0) (hc := (c_wire_Can m h hn))),
        DS.ok_over fun s0 => OpAt.ggo rfl rfl rfl rfl rfl (q_load),
        DS.ok_over fun s0 => OpAt.ggo rfl rfl rfl rfl rfl (q_call (0) (hc := (c_ciceroneref04_Can m h hn))),
        DS.ok_over fun s0 => OpAt.ggo rfl rfl rfl rfl rfl ((OpOk.bool_is (c := true) (q_beql) (by simp))),
        DS.ok_over fun s0 => OpAt.go rfl rfl (q_pick),
        DS.ok_over fun s0 => OpAt.go rfl rfl (q_move),
        DS.ok_over fun s0 => OpAt.ggo rfl rfl rfl rfl rfl (q_load),
        DS.ok_over fun s0 => OpAt.ggo rfl rfl rfl rfl rfl (q_load),
        DS.ok_over fun s0 => OpAt.ggo rfl rfl rfl rfl rfl ((OpOk.bool_is (c := true) (q_call (0) (hc := (c_ciceroneplain_SameMessage m m h h))) (decide_eq_true rfl))),
        DS.ok_over fun s0 => OpAt.go rfl rfl (q_pick),
        DS.ok_over fun s0 => OpAt.go rfl rfl (q_move),
        DS.ok_over fun s0 => OpAt.ggo rfl rfl rfl rfl rfl ((OpOk.bool_is (c := true) (q_call (0) (hc := c_ciceronelaw04_awake)) (rfl))),
        DS.ok_over fun s0 => OpAt.go rfl rfl (q_pick),
        DS.ok_over fun s0 => OpAt.go rfl rfl (q_assign), trivial⟩ ?_
  dsimp only [final, DS.upd, AS.seto]
  refine AWp.ret ?_
  show Fin te Try.f9 _ _
  refine q_ret (0) [_] [_] ?_
  rfl

end Go.Proofs.Ytkfccjbihcbmiaa.Fw

