/- The walks of the laws PrefixBack and PrefixNobody; no condition. -/
import Derived.Test.YtahkngplohnliaaL11a
set_option linter.unusedVariables false
set_option linter.unusedSimpArgs false
namespace Go.Proofs.Ytahkngplohnliaa.Fw
open Go.RowKit


theorem feed_append : ∀ (a b : List UInt8), feed (a ++ b) = ((feed a).1 ++ (feed ((feed a).2 ++ b)).1, (feed ((feed a).2 ++ b)).2) := by
  intro a
  induction h : a.length using Nat.strongRecOn generalizing a with
  | ind n ih =>
    intro b
    cases hB : szB a with
    | false => simp [feed_no hB]
    | true =>
      have h1 := szB_iff.1 hB
      have h2 := szN_ge hB
      have e1 : szN (a ++ b) = szN a := by
        have g0 : (a ++ b).getD 0 0 = a.getD 0 0 := by simp [List.getD_eq_getElem?_getD, List.getElem?_append, show 0 < a.length by omega]
        have g1 : (a ++ b).getD 1 0 = a.getD 1 0 := by simp [List.getD_eq_getElem?_getD, List.getElem?_append, show 1 < a.length by omega]
        rw [szN, szN, if_neg (by simp; omega), if_neg (by omega), g0, g1]
      have hB2 : szB (a ++ b) = true := szB_iff.2 ⟨by simp; omega, by rw [e1]; simp; omega⟩
      rw [feed_yes hB2, feed_yes hB, e1]
      have e2 : (a ++ b).take (szN a).toNat = a.take (szN a).toNat := by rw [List.take_append_of_le_length (by omega)]
      have e3 : (a ++ b).drop (szN a).toNat = a.drop (szN a).toNat ++ b := by rw [List.drop_append_of_le_length (by omega)]
      rw [e2, e3, ih (a.drop (szN a).toNat).length (by simp; omega) _ rfl b]
      rfl
theorem feed_count : ∀ (b : List UInt8), (feed b).1.length * 2 + (feed b).2.length ≤ b.length := by
  intro b
  induction h : b.length using Nat.strongRecOn generalizing b with
  | ind n ih =>
    cases hB : szB b with
    | false => simp [feed_no hB]; omega
    | true =>
      have h1 := szB_iff.1 hB
      have h2 := szN_ge hB
      have := ih (b.drop (szN b).toNat).length (by simp; omega) _ rfl
      rw [feed_yes hB]
      simp only [List.length_cons, List.length_drop] at this ⊢
      omega
theorem feed_cat : ∀ {ws : List (List UInt8)}, (∀ x ∈ ws, x.length ≤ 65535) → feed (ws.flatMap frame) = (ws, [])
  | [], _ => feed_nil
  | x :: ws, h => by
    rw [List.flatMap_cons, feed_frame (h x (by simp)), feed_cat (ws := ws) fun y hy => h y (by simp [hy])]
theorem cat_length : ∀ {ws : List (List UInt8)}, (∀ x ∈ ws, x.length ≤ 300) → (ws.flatMap frame).length ≤ ws.length * 302
  | [], _ => by simp
  | x :: ws, h => by
    have h1 := h x (by simp)
    have h2 := cat_length (ws := ws) fun y hy => h y (by simp [hy])
    have h3 := frame_length x
    rw [List.flatMap_cons, List.length_append, List.length_cons]
    omega
/-- The rest is the end. -/
theorem feed_end : ∀ (b : List UInt8), b.drop (b.length - (feed b).2.length) = (feed b).2 := by
  intro b
  induction h : b.length using Nat.strongRecOn generalizing b with
  | ind n ih =>
    subst h
    cases hB : szB b with
    | false => simp [feed_no hB]
    | true =>
      have h1 := szB_iff.1 hB
      have h2 := szN_ge hB
      have h3 := ih (b.drop (szN b).toNat).length (by simp; omega) _ rfl
      have h4 := feed_count (b.drop (szN b).toNat)
      rw [feed_yes hB]
      rw [List.drop_drop] at h3
      simp only [List.length_drop] at h3 h4
      conv => rhs; rw [← h3]
      congr 1
      show b.length - (feed (b.drop (szN b).toNat)).2.length = _
      omega

set_option maxRecDepth 20000 in
theorem c_ciceronelaw11_PrefixBack (l : List (List UInt8)) (cs : List Int) (hl : l.length ≤ 140737488351232) (hb : ∀ x ∈ l, x.length ≤ 140737488351232) (hc : cs.length ≤ 140737488351232) : AC Try.prog 9 [.fz 0 l.length (cl (lc 0 bc) l), .fz 0 cs.length (cl ic cs)] emp (Ret (tf true)) := by
  refine AC.intro te_ok (fn := Try.f9) ⟨Try.func9, rfl, rfl⟩ (Nat.le_of_ble_eq_true rfl) ?_
  refine AWp.seq ?_
  refine AWp.region ?_
  refine AOps.cons rfl rfl (q_assign) ?_
  refine AOps.nil ?_
  refine AWp.seq ?_
  refine AWp.region ?_
  refine AOps.cons rfl rfl (q_nilrow 200 1 bc) ?_
  refine AOps.nil ?_
  refine AWp.seq ?_
  refine AWp.region ?_
  refine AOps.cons rfl rfl (q_nilrow 300 1 (lc 0 bc)) ?_
  refine AOps.nil ?_
  refine AWp.cutR (α := List UInt8 × List (List UInt8) × Nat × Nat) [4, 5, 6, 7, 8, 9, 10, 16, 17, 18, 19, 20, 21, 22, 23, 24, 25, 26, 27, 28, 29, 30, 31, 32, 33, 34, 35, 36, 37, 38, 39, 40, 41, 42, 43, 44, 45, 46, 47, 48, 49, 50, 51, 52] (fun x_ => [(5, .sl 200 (x_.2.2.1) 0 (x_.1).length 1), (6, .sl 300 (x_.2.2.2) 0 (x_.2.1).length 1)]) (fun x_ => [(200, .row (cl bc (x_.1)) 1 (x_.2.2.1)), (300, .row (cl (lc 0 bc) (x_.2.1)) 1 (x_.2.2.2))]) (fun x_ => (x_.2.1).length ≤ 21 ∧ (∀ x ∈ (x_.2.1), x.length ≤ 300) ∧ (x_.1) = (x_.2.1).flatMap frame) ?_ ?_
  · skip
    refine AWp.seq ?_
    refine AWp.region ?_
    refine AOps.cons rfl rfl (q_move) ?_
    refine AOps.cons rfl rfl (q_len) ?_
    refine AOps.cons rfl rfl (q_move) ?_
    refine AOps.nil ?_
    refine AWp.block ?_
    refine AWp.loopR (α := Nat × List UInt8 × List (List UInt8) × Nat × Nat) [4, 5, 6, 7, 8, 9, 10, 18, 19, 20, 21, 22, 23, 24, 25, 26, 27, 28, 29, 30, 31, 32, 33, 34, 35, 36, 37, 38, 39, 40, 41, 42, 43, 44, 45, 46, 47, 48, 49, 50, 51, 52] (fun x_ => [(18, i64 (x_.1)), (5, .sl 200 (x_.2.2.2.1) 0 (x_.2.1).length 1), (6, .sl 300 (x_.2.2.2.2) 0 (x_.2.2.1).length 1)]) (fun x_ => [(200, .row (cl bc (x_.2.1)) 1 (x_.2.2.2.1)), (300, .row (cl (lc 0 bc) (x_.2.2.1)) 1 (x_.2.2.2.2))]) (fun x_ => (x_.1) ≤ l.length ∧ (x_.1) ≤ 21 ∧ (x_.2.2.1).length = (x_.1) ∧ (∀ x ∈ (x_.2.2.1), x.length ≤ 300) ∧ (x_.2.1) = (x_.2.2.1).flatMap frame) (fun x_ => l.length - (x_.1)) (0, [], [], 0, 0) ?_ (Back.mk' (HasT.cons (HasT.cons (HasT.cons HasT.nil))) (HasH.cons (HasH.cons HasH.nil))) ?_
    · exact ⟨by simp, by simp, by simp, by simp, by simp⟩
    · rintro ⟨i, al, ws, va, vw⟩ hI4
      change i ≤ l.length ∧ i ≤ 21 ∧ ws.length = i ∧ (∀ x ∈ ws, x.length ≤ 300) ∧ al = ws.flatMap frame at hI4
      obtain ⟨hi, hi2, hws, hw3, hal⟩ := hI4
      refine AWp.as (s' := AS.over _ [4, 5, 6, 7, 8, 9, 10, 18, 19, 20, 21, 22, 23, 24, 25, 26, 27, 28, 29, 30, 31, 32, 33, 34, 35, 36, 37, 38, 39, 40, 41, 42, 43, 44, 45, 46, 47, 48, 49, 50, 51, 52] [(18, i64 i), (5, .sl 200 va 0 al.length 1), (6, .sl 300 vw 0 ws.length 1)] [(200, .row (cl bc al) 1 va), (300, .row (cl (lc 0 bc) ws) 1 vw)]) rfl ?_
      have hcl := cat_length hw3
      rw [← hal, hws] at hcl
      refine AWp.seq ?_
      refine AWp.region ?_
      refine AOps.dec rfl rfl (q_lss) (fun h4_0 => ?_) (fun h4_0 => ?_)
      · skip
        refine AOps.nil ?_
        refine AWp.seq ?_
        refine AWp.cond_t rfl ?_
        refine AWp.skip ?_
        refine AWp.seq ?_
        refine AWp.block ?_
        refine AWp.seq ?_
        refine AWp.region ?_
        refine AOps.cons rfl rfl (q_move) ?_
        refine AOps.cons rfl rfl (q_ix) ?_
        refine AOps.cons rfl rfl (q_load) ?_
        refine AOps.cons rfl rfl (q_assign) ?_
        refine AOps.cons rfl rfl (q_assign) ?_
        refine AOps.nil ?_
        refine AWp.seq ?_
        refine AWp.seq ?_
        refine AWp.region ?_
        refine AOps.cons rfl rfl (q_move) ?_
        refine AOps.dec rfl rfl (q_gtr) (fun h6_1 => ?_) (fun h6_1 => ?_)
        · skip
          refine AOps.nil ?_
          refine AWp.cond_t rfl ?_
          refine AWp.exit ?_
          refine ⟨(_, _, _, _), ?_, Back.mk' (HasT.cons (HasT.cons HasT.nil)) (HasH.cons (HasH.cons HasH.nil))⟩
          try dsimp only
          exact ⟨by omega, hw3, hal⟩
        · skip
          refine AOps.nil ?_
          refine AWp.cond_f rfl ?_
          refine AWp.skip ?_
          refine AWp.seq ?_
          refine AWp.region ?_
          refine AOps.cons rfl rfl (q_move) ?_
          refine AOps.cons rfl rfl (q_move) ?_
          refine AOps.cons rfl rfl (q_len) ?_
          refine AOps.cons rfl rfl (q_min) ?_
          refine AOps.cons rfl rfl (q_sl) ?_
          refine AOps.cons rfl rfl (q_assign) ?_
          refine AOps.nil ?_
          refine AWp.seq ?_
          refine AWp.region ?_
          generalize hx : (l.getD (i : Int).toNat default).take (min (((l.getD (i : Int).toNat default).length : Nat) : Int) 300).toNat = x
          have hxl : x.length ≤ 300 := by rw [← hx]; simp only [List.length_take]; omega
          refine AOps.cons rfl rfl (q_move) ?_
          refine AOps.cons rfl rfl (q_call (0) (hc := c_prefix_Encode _ _ (by first | assumption | omega | decide | (simp; omega) | (simp [*]; done)))) ?_
          refine AOps.cons rfl rfl (q_move) ?_
          refine AOps.cons rfl rfl (q_extract) ?_
          refine AOps.cons rfl rfl (q_extract) ?_
          refine AOps.cons rfl rfl (q_assign) ?_
          refine AOps.cons rfl rfl (q_assign) ?_
          refine AOps.nil ?_
          refine AWp.seq ?_
          refine AWp.seq ?_
          refine AWp.region ?_
          rw [encB_small (by omega), encE_small (by omega)]
          have hfl := frame_length x
          refine AOps.cons rfl rfl (q_move) ?_
          refine AOps.dec rfl rfl (q_neq) (fun h9_1 => ?_) (fun h9_1 => ?_)
          · exfalso; first | exact h9_1 rfl | omega | (rw [eqV_same rfl] at h9_1; cases h9_1) | (simp at h9_1; done) | (simp_all; done)
          · skip
            refine AOps.cons rfl rfl (q_move) ?_
            refine AOps.gcons rfl rfl rfl rfl rfl (q_move) ?_
            refine AOps.gcons rfl rfl rfl rfl rfl (q_len) ?_
            refine AOps.gcons rfl rfl rfl rfl rfl (q_move) ?_
            refine AOps.gcons rfl rfl rfl rfl rfl (q_len) ?_
            refine AOps.gcons rfl rfl rfl rfl rfl (q_add) ?_
            refine AOps.gdec rfl rfl rfl rfl rfl (q_neq) (fun h9_8 => ?_) (fun h9_8 => ?_)
            · exfalso; omega
            · skip
              refine AOps.cons rfl rfl (q_pick) ?_
              refine AOps.nil ?_
              refine AWp.cond_f rfl ?_
              refine AWp.skip ?_
              refine AWp.region ?_
              refine AOps.cons rfl rfl (q_move) ?_
              refine AOps.cons rfl rfl (q_move) ?_
              refine AOps.cons rfl rfl (q_app) ?_
              refine AOps.cons rfl rfl (q_move) ?_
              refine AOps.cons rfl rfl (q_move) ?_
              refine AOps.cons rfl rfl (q_bs 1205 (lc 0 bc) [_] [(_, _)]) ?_
              refine AOps.cons rfl rfl (q_app) ?_
              refine AOps.cons rfl rfl (q_assign) ?_
              refine AOps.cons rfl rfl (q_assign) ?_
              refine AOps.nil ?_
              refine AWp.region ?_
              refine AOps.cons rfl rfl (q_add) ?_
              refine AOps.cons rfl rfl (q_move) ?_
              refine AOps.nil ?_
              refine ⟨(i + 1, _, _, _, _), ?_, Back.mk' (HasT.cons (HasT.cons (HasT.cons HasT.nil))) (HasH.cons (HasH.cons HasH.nil)), ?_⟩
              · try dsimp only
                refine ⟨by omega, by omega, by simp [hws], fun y hy => ?_, by simp [hal]⟩
                rcases List.mem_append.1 hy with hy | hy
                · exact hw3 y hy
                · obtain rfl : y = x := by simpa using hy
                  exact hxl
              · try dsimp only
                omega
      · skip
        refine AOps.nil ?_
        refine AWp.seq ?_
        refine AWp.cond_f rfl ?_
        refine AWp.exit ?_
        refine ⟨(_, _, _, _), ?_, Back.mk' (HasT.cons (HasT.cons HasT.nil)) (HasH.cons (HasH.cons HasH.nil))⟩
        try dsimp only
        exact ⟨by omega, hw3, hal⟩
  · rintro ⟨al, ws, va, vw⟩ hC13
    change ws.length ≤ 21 ∧ (∀ x ∈ ws, x.length ≤ 300) ∧ al = ws.flatMap frame at hC13
    obtain ⟨hws, hw3, hal⟩ := hC13
    refine AWp.as (s' := AS.over _ [4, 5, 6, 7, 8, 9, 10, 16, 17, 18, 19, 20, 21, 22, 23, 24, 25, 26, 27, 28, 29, 30, 31, 32, 33, 34, 35, 36, 37, 38, 39, 40, 41, 42, 43, 44, 45, 46, 47, 48, 49, 50, 51, 52] [(5, .sl 200 va 0 al.length 1), (6, .sl 300 vw 0 ws.length 1)] [(200, .row (cl bc al) 1 va), (300, .row (cl (lc 0 bc) ws) 1 vw)]) rfl ?_
    refine AWp.seq ?_
    refine AWp.region ?_
    refine AOps.cons rfl rfl (q_callB (0) [] [(8, 14008), (9, 14009)] [(_, _), (_, _)] (hc := c_prefix_New)) ?_
    refine AOps.cons rfl rfl (q_assign) ?_
    refine AOps.nil ?_
    refine AWp.seq ?_
    refine AWp.region ?_
    refine AOps.cons rfl rfl (q_nilrow 1500 1 (lc 0 bc)) ?_
    refine AOps.nil ?_
    refine AWp.seq ?_
    refine AWp.seq ?_
    refine AWp.region ?_
    refine AOps.cons rfl rfl (q_move) ?_
    refine AOps.cons rfl rfl (q_len) ?_
    refine AOps.cons rfl rfl (q_move) ?_
    refine AOps.nil ?_
    refine AWp.block ?_
    refine AWp.loopR (α := Nat × List (List UInt8) × Nat × Nat × Nat × Nat × List UInt8 × Nat × Nat) [5, 12, 14, 15, 56, 57, 58, 59, 60, 61, 62, 63, 64, 65, 66, 67, 68, 69, 70, 71, 72, 73, 74, 75, 76, 77] (fun x_ => [(56, i64 (x_.1)), (12, .sl 1500 (x_.2.2.2.2.2.2.2.2) 0 (x_.2.1).length 1), (5, .sl 200 va (x_.2.2.1) (x_.2.2.2.1) 1)]) (fun x_ => [(14008, .box [.sl 14009 (x_.2.2.2.2.2.2.2.1) (x_.2.2.2.2.1) (x_.2.2.2.2.2.1) 1, tf true]), (14009, .row (cl bc (x_.2.2.2.2.2.2.1)) 1 (x_.2.2.2.2.2.2.2.1)), (1500, .row (cl (lc 0 bc) (x_.2.1)) 1 (x_.2.2.2.2.2.2.2.2))]) (fun x_ => (x_.1) ≤ cs.length ∧ (x_.2.2.1) + (x_.2.2.2.1) = al.length ∧ (x_.2.2.2.2.1) + (x_.2.2.2.2.2.1) = (x_.2.2.2.2.2.2.1).length ∧ feed (al.take (x_.2.2.1)) = ((x_.2.1), (x_.2.2.2.2.2.2.1).drop (x_.2.2.2.2.1))) (fun x_ => cs.length - (x_.1)) (0, [], 0, _, 0, 0, [], 0, 0) ?_ (Back.mk' (HasT.cons (HasT.cons (HasT.cons HasT.nil))) (HasH.cons (HasH.cons (HasH.cons HasH.nil)))) ?_
    · exact ⟨by simp, by simp, by simp, by simp [feed_nil]⟩
    · rintro ⟨j, got, p, q, o, m, w, v, vg⟩ hI16
      change j ≤ cs.length ∧ p + q = al.length ∧ o + m = w.length ∧ feed (al.take p) = (got, w.drop o) at hI16
      obtain ⟨hj, hpq, hom, hf⟩ := hI16
      refine AWp.as (s' := AS.over _ [5, 12, 14, 15, 56, 57, 58, 59, 60, 61, 62, 63, 64, 65, 66, 67, 68, 69, 70, 71, 72, 73, 74, 75, 76, 77] [(56, i64 j), (12, .sl 1500 vg 0 got.length 1), (5, .sl 200 va p q 1)] [(14008, .box [.sl 14009 v o m 1, tf true]), (14009, .row (cl bc w) 1 v), (1500, .row (cl (lc 0 bc) got) 1 vg)]) rfl ?_
      have hcnt := feed_count (al.take p)
      rw [hf] at hcnt
      simp only [List.length_take, List.length_drop] at hcnt
      refine AWp.seq ?_
      refine AWp.region ?_
      refine AOps.dec rfl rfl (q_lss) (fun h16_0 => ?_) (fun h16_0 => ?_)
      · skip
        refine AOps.nil ?_
        refine AWp.seq ?_
        refine AWp.cond_t rfl ?_
        refine AWp.skip ?_
        refine AWp.seq ?_
        refine AWp.block ?_
        refine AWp.seq ?_
        refine AWp.region ?_
        refine AOps.cons rfl rfl (q_ix) ?_
        refine AOps.cons rfl rfl (q_load) ?_
        refine AOps.cons rfl rfl (q_assign) ?_
        refine AOps.nil ?_
        refine AWp.seq ?_
        refine AWp.region ?_
        refine AOps.cons rfl rfl (q_move) ?_
        refine AOps.cons rfl rfl (q_conv_u64) ?_
        refine AOps.cons rfl rfl (q_rem) ?_
        refine AOps.cons rfl rfl (q_conv_i64) ?_
        refine AOps.cons rfl rfl (q_move) ?_
        refine AOps.cons rfl rfl (q_len) ?_
        refine AOps.cons rfl rfl (q_min) ?_
        refine AOps.cons rfl rfl (q_assign) ?_
        refine AOps.nil ?_
        refine AWp.seq ?_
        refine AWp.region ?_
        generalize hk : min (cs.getD (j : Int).toNat default % 18446744073709551616 % 50) (q : Int) = k
        have hk0 : 0 ≤ k ∧ k ≤ q := by omega
        have hcl := cat_length hw3
        rw [← hal] at hcl
        have hcx : ((al.drop p).take k.toNat).length = k.toNat := by rw [List.length_take, List.length_drop]; omega
        have hcnt2 := feed_count (w.drop o ++ (al.drop p).take k.toNat)
        rw [List.length_append, List.length_drop, hcx] at hcnt2
        refine AOps.cons rfl rfl (q_move) ?_
        refine AOps.cons rfl rfl (q_move) ?_
        refine AOps.cons rfl rfl (q_move) ?_
        refine AOps.cons rfl rfl (q_move) ?_
        refine AOps.cons rfl rfl (q_sl) ?_
        refine AOps.cons rfl rfl (q_callB (0) [(0, 14008), (1, 14009)] [] [(_, _), (_, _)] (hc := c_Feed _ _ _ _ _ _ (by first | assumption | omega | decide | (simp; omega) | (simp [*]; done)) (by first | assumption | omega | decide | (simp; omega) | (simp [*]; done)))) ?_
        refine AOps.cons rfl rfl (q_app) ?_
        refine AOps.cons rfl rfl (q_assign) ?_
        refine AOps.nil ?_
        refine AWp.region ?_
        refine AOps.cons rfl rfl (q_move) ?_
        refine AOps.cons rfl rfl (q_move) ?_
        refine AOps.cons rfl rfl (q_sl) ?_
        refine AOps.cons rfl rfl (q_assign) ?_
        refine AOps.nil ?_
        refine AWp.region ?_
        refine AOps.cons rfl rfl (q_add) ?_
        refine AOps.cons rfl rfl (q_move) ?_
        refine AOps.nil ?_
        refine ⟨(j + 1, _, _, _, _, _, _, _, _), ?_, Back.mk' (HasT.cons (HasT.cons (HasT.cons HasT.nil))) (HasH.cons (HasH.cons (HasH.cons HasH.nil))), ?_⟩
        · try dsimp only
          refine ⟨by omega, by omega, by simp only [List.length_append, List.length_drop, hcx]; omega, ?_⟩
          have e : al.take (p + k.toNat * 1) = al.take p ++ (al.drop p).take k.toNat := by rw [Nat.mul_one, List.take_add]
          rw [e, feed_append, hf, feed_end]
        · try dsimp only
          omega
      · skip
        refine AOps.nil ?_
        refine AWp.seq ?_
        refine AWp.cond_f rfl ?_
        refine AWp.exit ?_
        refine AWp.seq ?_
        refine AWp.region ?_
        have hcl := cat_length hw3
        rw [← hal] at hcl
        have hcx : ((al.drop p).take q).length = q := by rw [List.length_take, List.length_drop]; omega
        have hcnt2 := feed_count (w.drop o ++ (al.drop p).take q)
        rw [List.length_append, List.length_drop, hcx] at hcnt2
        have hall : al.take p ++ (al.drop p).take q = al := by rw [List.take_of_length_le (l := al.drop p) (by rw [List.length_drop]; omega), List.take_append_drop]
        have hw := feed_append (al.take p) ((al.drop p).take q)
        rw [hall, hf, hal, feed_cat fun x hx => by have := hw3 x hx; omega, ← hal] at hw
        dsimp only at hw
        have hw1 := (Prod.mk.inj hw).1
        have hw2 := (Prod.mk.inj hw).2
        refine AOps.cons rfl rfl (q_move) ?_
        refine AOps.cons rfl rfl (q_move) ?_
        refine AOps.cons rfl rfl (q_move) ?_
        refine AOps.cons rfl rfl (q_callB (0) [(0, 14008), (1, 14009)] [] [(_, _), (_, _)] (hc := c_Feed _ _ _ _ _ _ (by first | assumption | omega | decide | (simp; omega) | (simp [*]; done)) (by first | assumption | omega | decide | (simp; omega) | (simp [*]; done)))) ?_
        refine AOps.cons rfl rfl (q_app) ?_
        refine AOps.cons rfl rfl (q_assign) ?_
        refine AOps.nil ?_
        refine AWp.seq ?_
        refine AWp.region ?_
        rw [← hw1, ← hw2]
        refine AOps.cons rfl rfl (q_move) ?_
        refine AOps.cons rfl rfl (q_move) ?_
        refine AOps.bool rfl rfl (q_call (0) (hc := c_ciceroneplain_SameTexts _ _ _ _ _ _ (by first | assumption | omega | decide | (simp; omega) | (simp [*]; done)))) (fun h23_2 => ?_) (fun h23_2 => ?_)
        · skip
          refine AOps.cons rfl rfl (q_move) ?_
          refine AOps.gcons rfl rfl rfl rfl rfl (q_move) ?_
          refine AOps.gcons rfl rfl rfl rfl rfl (q_callB (0) [(0, 14008), (1, 14009)] [] [(_, _), (_, _)] (hc := c_Left _ _ _ _ _)) ?_
          refine AOps.gcons rfl rfl rfl rfl rfl (q_eql) ?_
          refine AOps.cons rfl rfl (q_pick) ?_
          refine AOps.cons rfl rfl (q_assign) ?_
          refine AOps.nil ?_
          refine AWp.ret ?_
          show Fin te Try.f9 _ _
          refine q_ret (0) [_] [_] ?_
          rfl
        · exfalso; first | exact h23_2 rfl | omega | (rw [eqV_same rfl] at h23_2; cases h23_2) | (simp at h23_2; done) | (simp_all; done)

set_option maxRecDepth 20000 in
theorem c_Feed_nil (c : List UInt8) (lv : Nat) : AC Try.prog 20 [.v (.pointer none), .fz lv c.length (cl bc c)] emp (Ret (.fz 0 ([] : List (List UInt8)).length (cl (lc 0 bc) []))) := by
  refine AC.intro te_ok (fn := Try.f20) ⟨Try.func20, rfl, rfl⟩ (Nat.le_of_ble_eq_true rfl) ?_
  refine AWp.seq ?_
  refine AWp.region ?_
  refine AOps.cons rfl rfl (q_nilz 0 (lc 0 bc)) ?_
  refine AOps.nil ?_
  refine AWp.seq ?_
  refine AWp.seq ?_
  refine AWp.region ?_
  refine AOps.cons rfl rfl (q_move) ?_
  refine AOps.cons rfl rfl (q_pnil) ?_
  refine AOps.cons rfl rfl (q_move) ?_
  refine AOps.gskip rfl rfl rfl rfl rfl rfl rfl rfl ?_
  refine AOps.gskip rfl rfl rfl rfl rfl rfl rfl rfl ?_
  refine AOps.gskip rfl rfl rfl rfl rfl rfl rfl rfl ?_
  refine AOps.gskip rfl rfl rfl rfl rfl rfl rfl rfl ?_
  refine AOps.gskip rfl rfl rfl rfl rfl rfl rfl rfl ?_
  refine AOps.cons rfl rfl (q_pick) ?_
  refine AOps.nil ?_
  refine AWp.cond_t rfl ?_
  refine AWp.seq ?_
  refine AWp.region ?_
  refine AOps.cons rfl rfl (q_nilz 0 (lc 0 bc)) ?_
  refine AOps.nil ?_
  refine AWp.ret ?_
  show Fin te Try.f20 _ _
  refine q_ret (0) [_] [_] ?_
  rfl

set_option maxRecDepth 20000 in
theorem c_Feed_no (c : List UInt8) (lv : Nat) : AC Try.prog 20 [.ptr 0 0 0, .fz lv c.length (cl bc c)] (hlook [(0, .box [.v (.slice none 0 0), tf false])]) (RetH (.fz 0 ([] : List (List UInt8)).length (cl (lc 0 bc) [])) [(0, .box [.v (.slice none 0 0), tf false])]) := by
  refine AC.intro te_ok (fn := Try.f20) ⟨Try.func20, rfl, rfl⟩ (Nat.le_of_ble_eq_true rfl) ?_
  refine AWp.seq ?_
  refine AWp.region ?_
  refine AOps.cons rfl rfl (q_nilz 0 (lc 0 bc)) ?_
  refine AOps.nil ?_
  refine AWp.seq ?_
  refine AWp.seq ?_
  refine AWp.region ?_
  refine AOps.cons rfl rfl (q_move) ?_
  refine AOps.cons rfl rfl (q_pnil) ?_
  refine AOps.cons rfl rfl (q_move) ?_
  refine AOps.gcons rfl rfl rfl rfl rfl (q_move) ?_
  refine AOps.gcons rfl rfl rfl rfl rfl (q_nil) ?_
  refine AOps.gcons rfl rfl rfl rfl rfl (q_fa) ?_
  refine AOps.gcons rfl rfl rfl rfl rfl ((OpOk.bool_is (c := false) (q_load) (rfl))) ?_
  refine AOps.gcons rfl rfl rfl rfl rfl (q_not) ?_
  refine AOps.cons rfl rfl (q_pick) ?_
  refine AOps.nil ?_
  refine AWp.cond_t rfl ?_
  refine AWp.seq ?_
  refine AWp.region ?_
  refine AOps.cons rfl rfl (q_nilz 0 (lc 0 bc)) ?_
  refine AOps.nil ?_
  refine AWp.ret ?_
  show Fin te Try.f20 _ _
  refine q_retH (0) [] [_] [_] [(0, .box [.v (.slice none 0 0), tf false])] ?_
  rfl

set_option maxRecDepth 20000 in
theorem c_Left_nil  : AC Try.prog 21 [.v (.pointer none)] emp (Ret (i64 0)) := by
  refine AC.intro te_ok (fn := Try.f21) ⟨Try.func21, rfl, rfl⟩ (Nat.le_of_ble_eq_true rfl) ?_
  refine AWp.seq ?_
  refine AWp.region ?_
  refine AOps.cons rfl rfl (q_assign) ?_
  refine AOps.nil ?_
  refine AWp.seq ?_
  refine AWp.seq ?_
  refine AWp.region ?_
  refine AOps.cons rfl rfl (q_move) ?_
  refine AOps.cons rfl rfl (q_pnil) ?_
  refine AOps.nil ?_
  refine AWp.cond_t rfl ?_
  refine AWp.seq ?_
  refine AWp.region ?_
  refine AOps.cons rfl rfl (q_assign) ?_
  refine AOps.nil ?_
  refine AWp.ret ?_
  show Fin te Try.f21 _ _
  refine q_ret (0) [_] [_] ?_
  rfl

set_option maxRecDepth 20000 in
theorem c_Left_no  : AC Try.prog 21 [.ptr 0 0 0] (hlook [(0, .box [.v (.slice none 0 0), tf false])]) (RetH (i64 0) [(0, .box [.v (.slice none 0 0), tf false])]) := by
  refine AC.intro te_ok (fn := Try.f21) ⟨Try.func21, rfl, rfl⟩ (Nat.le_of_ble_eq_true rfl) ?_
  refine AWp.seq ?_
  refine AWp.region ?_
  refine AOps.cons rfl rfl (q_assign) ?_
  refine AOps.nil ?_
  refine AWp.seq ?_
  refine AWp.seq ?_
  refine AWp.region ?_
  refine AOps.cons rfl rfl (q_move) ?_
  refine AOps.cons rfl rfl (q_pnil) ?_
  refine AOps.nil ?_
  refine AWp.cond_f rfl ?_
  refine AWp.skip ?_
  refine AWp.seq ?_
  refine AWp.region ?_
  refine AOps.cons rfl rfl (q_move) ?_
  refine AOps.cons rfl rfl (q_nil) ?_
  refine AOps.cons rfl rfl (q_fa) ?_
  refine AOps.cons rfl rfl (q_fa) ?_
  refine AOps.cons rfl rfl (q_load) ?_
  refine AOps.cons rfl rfl (q_len) ?_
  refine AOps.cons rfl rfl (q_assign) ?_
  refine AOps.nil ?_
  refine AWp.ret ?_
  show Fin te Try.f21 _ _
  refine q_retH (0) [] [_] [_] [(0, .box [.v (.slice none 0 0), tf false])] ?_
  rfl

set_option maxRecDepth 20000 in
theorem c_ciceronelaw11_PrefixNobody (b : List UInt8) (hl : b.length ≤ 140737488351232) : AC Try.prog 10 [.fz 0 b.length (cl bc b)] emp (Ret (tf true)) := by
  refine AC.intro te_ok (fn := Try.f10) ⟨Try.func10, rfl, rfl⟩ (Nat.le_of_ble_eq_true rfl) ?_
  refine AWp.seq ?_
  refine AWp.region ?_
  refine AOps.cons rfl rfl (q_assign) ?_
  refine AOps.nil ?_
  refine AWp.seq ?_
  refine AWp.seq ?_
  refine AWp.region ?_
  refine AOps.cons rfl rfl (q_build []) ?_
  refine AOps.cons rfl rfl (q_box 201) ?_
  refine AOps.cons rfl rfl (q_bsr 202 [(_, _), (_, _)]) ?_
  refine AOps.cons rfl rfl (q_len) ?_
  refine AOps.cons rfl rfl (q_move) ?_
  refine AOps.nil ?_
  refine AWp.block ?_
  refine AWp.loopR (α := Nat) [2, 4, 9, 10, 11, 12, 13, 14, 15, 16, 17, 18, 19, 20, 21, 22, 23] (fun i => [(9, i64 i)]) (fun i => [(201, .box [.v (.slice none 0 0), tf false])]) (fun i => i ≤ 2) (fun i => 2 - i) 0 ?_ (Back.mk' (HasT.cons HasT.nil) (HasH.cons HasH.nil)) ?_
  · decide
  · rintro i hi
    refine AWp.seq ?_
    refine AWp.region ?_
    refine AOps.dec rfl rfl (q_lss) (fun h2_0 => ?_) (fun h2_0 => ?_)
    · skip
      refine AOps.nil ?_
      refine AWp.seq ?_
      refine AWp.cond_t rfl ?_
      refine AWp.skip ?_
      refine AWp.seq ?_
      refine AWp.block ?_
      refine AWp.seq ?_
      refine AWp.region ?_
      obtain rfl | rfl : i = 0 ∨ i = 1 := by omega
      · skip
        refine AOps.cons rfl rfl (q_ix) ?_
        refine AOps.cons rfl rfl (q_load) ?_
        refine AOps.cons rfl rfl (q_assign) ?_
        refine AOps.nil ?_
        refine AWp.seq ?_
        refine AWp.region ?_
        refine AOps.cons rfl rfl (q_move) ?_
        refine AOps.cons rfl rfl (q_move) ?_
        refine AOps.cons rfl rfl (q_call (0) (hc := c_Feed_nil _ _)) ?_
        refine AOps.cons rfl rfl (q_len) ?_
        refine AOps.dec rfl rfl (q_gtr) (fun h4_4 => ?_) (fun h4_4 => ?_)
        · exfalso; first | exact h4_4 rfl | omega | (rw [eqV_same rfl] at h4_4; cases h4_4) | (simp at h4_4; done) | (simp_all; done)
        · skip
          refine AOps.cons rfl rfl (q_move) ?_
          refine AOps.gcons rfl rfl rfl rfl rfl (q_move) ?_
          refine AOps.gcons rfl rfl rfl rfl rfl (q_call (0) (hc := c_Left_nil)) ?_
          refine AOps.gdec rfl rfl rfl rfl rfl (q_neq) (fun h4_8 => ?_) (fun h4_8 => ?_)
          · exfalso; first | exact h4_8 rfl | omega | (rw [eqV_same rfl] at h4_8; cases h4_8) | (simp at h4_8; done) | (simp_all; done)
          · skip
            refine AOps.cons rfl rfl (q_pick) ?_
            refine AOps.nil ?_
            refine AWp.cond_f rfl ?_
            refine AWp.skip ?_
            refine AWp.region ?_
            refine AOps.cons rfl rfl (q_add) ?_
            refine AOps.cons rfl rfl (q_move) ?_
            refine AOps.nil ?_
            refine ⟨1, ?_, Back.mk' (HasT.cons HasT.nil) (HasH.cons HasH.nil), ?_⟩
            · decide
            · decide
      · skip
        refine AOps.cons rfl rfl (q_ix) ?_
        refine AOps.cons rfl rfl (q_load) ?_
        refine AOps.cons rfl rfl (q_assign) ?_
        refine AOps.nil ?_
        refine AWp.seq ?_
        refine AWp.region ?_
        refine AOps.cons rfl rfl (q_move) ?_
        refine AOps.cons rfl rfl (q_move) ?_
        refine AOps.cons rfl rfl (q_callB (0) [(0, 201)] [] [(_, _)] (hc := c_Feed_no _ _)) ?_
        refine AOps.cons rfl rfl (q_len) ?_
        refine AOps.dec rfl rfl (q_gtr) (fun h4_4 => ?_) (fun h4_4 => ?_)
        · exfalso; first | exact h4_4 rfl | omega | (rw [eqV_same rfl] at h4_4; cases h4_4) | (simp at h4_4; done) | (simp_all; done)
        · skip
          refine AOps.cons rfl rfl (q_move) ?_
          refine AOps.gcons rfl rfl rfl rfl rfl (q_move) ?_
          refine AOps.gcons rfl rfl rfl rfl rfl (q_callB (0) [(0, 201)] [] [(_, _)] (hc := c_Left_no)) ?_
          refine AOps.gdec rfl rfl rfl rfl rfl (q_neq) (fun h4_8 => ?_) (fun h4_8 => ?_)
          · exfalso; first | exact h4_8 rfl | omega | (rw [eqV_same rfl] at h4_8; cases h4_8) | (simp at h4_8; done) | (simp_all; done)
          · skip
            refine AOps.cons rfl rfl (q_pick) ?_
            refine AOps.nil ?_
            refine AWp.cond_f rfl ?_
            refine AWp.skip ?_
            refine AWp.region ?_
            refine AOps.cons rfl rfl (q_add) ?_
            refine AOps.cons rfl rfl (q_move) ?_
            refine AOps.nil ?_
            refine ⟨2, ?_, Back.mk' (HasT.cons HasT.nil) (HasH.cons HasH.nil), ?_⟩
            · decide
            · decide
    · skip
      refine AOps.nil ?_
      refine AWp.seq ?_
      refine AWp.cond_f rfl ?_
      refine AWp.exit ?_
      refine AWp.seq ?_
      refine AWp.region ?_
      refine AOps.cons rfl rfl (q_bs 800 bc [1] [(_, _)]) ?_
      refine AOps.weak (Weak.full 0 [] (t := [(24, .fz 0 ([1] : List UInt8).length (cl bc [1]))]) (hl := [])) ?_
      refine AOps.cons rfl rfl (q_bs 801 (lc 0 bc) [_] [(_, _)]) ?_
      refine AOps.cons rfl rfl (q_bs 802 ic [1] [(_, _)]) ?_
      refine AOps.weak (Weak.full 0 [] (t := [(25, .fz 0 ([[1]] : List (List UInt8)).length (cl (lc 0 bc) [[1]])), (26, .fz 0 ([1] : List Int).length (cl ic [1]))]) (hl := [])) ?_
      refine AOps.cons rfl rfl (q_call (0) (hc := c_ciceronelaw11_PrefixBack [[1]] [1] (by simp) (by simp) (by simp))) ?_
      refine AOps.cons rfl rfl (q_assign) ?_
      refine AOps.nil ?_
      refine AWp.ret ?_
      show Fin te Try.f10 _ _
      refine q_ret (0) [_] [_] ?_
      rfl

end Go.Proofs.Ytahkngplohnliaa.Fw
