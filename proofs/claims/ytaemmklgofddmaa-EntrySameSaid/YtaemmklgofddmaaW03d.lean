/- Walks of layer 3: the reference's data and names. -/
import Derived.Test.YtaemmklgofddmaaW03c
set_option linter.unusedVariables false
set_option linter.unusedSimpArgs false
namespace Go.Proofs.Ytaemmklgofddmaa.Fw
open Go.RowKit

theorem num_four (n : Int) (h : 0 ≤ n ∧ n ≤ 4294967295) : num (fourB n) = n := by
  have h0 := byte_toNat (n / 2 ^ 24)
  have h1 := byte_toNat (n / 2 ^ 16)
  have h2 := byte_toNat (n / 2 ^ 8)
  have h3 := byte_toNat n
  simp only [num, fourB, List.foldl_cons, List.foldl_nil, h0, h1, h2, h3]
  omega
theorem byte_id {x : UInt8} {a : Int} (h : a % 256 = x.toNat) : byte a = x := by
  have h1 := byte_toNat a
  exact UInt8.toNat_inj.1 (by omega)
theorem four_num' (a b c d : UInt8) : fourB (num [a, b, c, d]) = [a, b, c, d] := by
  have ha := a.toNat_lt
  have hb := b.toNat_lt
  have hc := c.toNat_lt
  have hd := d.toNat_lt
  simp only [num, List.foldl_cons, List.foldl_nil, fourB]
  rw [byte_id (x := a) (by omega), byte_id (x := b) (by omega), byte_id (x := c) (by omega), byte_id (x := d) (by omega)]
theorem cut_app {m r : List UInt8} (h : canN m = true) : cutO (m ++ r) = true ∧ cutM (m ++ r) = m ∧ cutR (m ++ r) = r := by
  obtain ⟨h1, h2, h3⟩ := cut_at (b := m ++ r) (k := m.length) (by simp) (by rw [List.take_left]; exact h)
  rw [List.take_left] at h2
  rw [List.drop_left] at h3
  exact ⟨h1, h2, h3⟩
theorem wd_flat (x : Soa) (j : Nat) (hj : j < 5) : wd ((ns x).flatMap fourB) j 5 = num (fourB ((ns x).getD j default)) := by
  have : j = 0 ∨ j = 1 ∨ j = 2 ∨ j = 3 ∨ j = 4 := by omega
  rcases this with rfl | rfl | rfl | rfl | rfl <;> rfl
theorem soa_make {x : Soa} (h : mkO x = true) : soaO (mkB x) = true ∧ soaV (mkB x) = x ∧ (mkB x).length ≤ 530 := by
  have h2 := h
  simp only [mkO, Bool.and_eq_true, List.all_eq_true] at h2
  obtain ⟨h3, h4, h5⟩ := h2
  have hg : ∀ n ∈ ns x, 0 ≤ n ∧ n ≤ 4294967295 := fun n hn => of_decide_eq_true (h5 n hn)
  rw [(mk_yes h).1, List.append_assoc]
  obtain ⟨a1, a2, a3⟩ := cut_app (r := x.r ++ (ns x).flatMap fourB) h3
  obtain ⟨b1, b2, b3⟩ := cut_app (r := (ns x).flatMap fourB) h4
  have hl : ((ns x).flatMap fourB).length = 20 := rfl
  have ho : soaO (x.m ++ (x.r ++ (ns x).flatMap fourB)) = true := by
    rw [soaO, a1, a3, b1, b3, hl]; rfl
  refine ⟨ho, ?_, ?_⟩
  · rw [soaV, if_pos ho, a2, a3, b2, b3, wd_flat x 0 (by omega), wd_flat x 1 (by omega), wd_flat x 2 (by omega), wd_flat x 3 (by omega), wd_flat x 4 (by omega)]
    rw [num_four _ (hg _ (getD_mem' (l := ns x) (i := 0) (by show _ < 5; omega))), num_four _ (hg _ (getD_mem' (l := ns x) (i := 1) (by show _ < 5; omega))), num_four _ (hg _ (getD_mem' (l := ns x) (i := 2) (by show _ < 5; omega))),
      num_four _ (hg _ (getD_mem' (l := ns x) (i := 3) (by show _ < 5; omega))), num_four _ (hg _ (getD_mem' (l := ns x) (i := 4) (by show _ < 5; omega)))]
    rfl
  · have := canN_len h3
    have := canN_len h4
    simp only [List.length_append, hl]
    omega
theorem five_of {c : List UInt8} (hc : c.length = 20) : c = ([wd c 0 5, wd c 1 5, wd c 2 5, wd c 3 5, wd c 4 5] : List Int).flatMap fourB := by
  match c, hc with
  | [a0, a1, a2, a3, a4, a5, a6, a7, a8, a9, b0, b1, b2, b3, b4, b5, b6, b7, b8, b9], _ =>
    have e0 : wd [a0, a1, a2, a3, a4, a5, a6, a7, a8, a9, b0, b1, b2, b3, b4, b5, b6, b7, b8, b9] 0 5 = num [a0, a1, a2, a3] := rfl
    have e1 : wd [a0, a1, a2, a3, a4, a5, a6, a7, a8, a9, b0, b1, b2, b3, b4, b5, b6, b7, b8, b9] 1 5 = num [a4, a5, a6, a7] := rfl
    have e2 : wd [a0, a1, a2, a3, a4, a5, a6, a7, a8, a9, b0, b1, b2, b3, b4, b5, b6, b7, b8, b9] 2 5 = num [a8, a9, b0, b1] := rfl
    have e3 : wd [a0, a1, a2, a3, a4, a5, a6, a7, a8, a9, b0, b1, b2, b3, b4, b5, b6, b7, b8, b9] 3 5 = num [b2, b3, b4, b5] := rfl
    have e4 : wd [a0, a1, a2, a3, a4, a5, a6, a7, a8, a9, b0, b1, b2, b3, b4, b5, b6, b7, b8, b9] 4 5 = num [b6, b7, b8, b9] := rfl
    rw [e0, e1, e2, e3, e4]
    simp only [List.flatMap_cons, List.flatMap_nil, four_num']
    rfl
theorem cut_back {b : List UInt8} (h : cutO b = true) : b = cutM b ++ cutR b ∧ canN (cutM b) = true := by
  rw [cutM, cutR, if_pos h, if_pos h, List.take_append_drop]
  simp only [cutO, Bool.and_eq_true] at h
  exact ⟨rfl, h.2⟩
theorem wd_le {c : List UInt8} {j : Nat} (hc : c.length = 20) (hj : j < 5) : 0 ≤ wd c j 5 ∧ wd c j 5 ≤ 4294967295 := by
  have h1 := dg_len hc hj
  have h2 := num_le 4 ((dg c j).take 4) (by rw [List.length_take]; omega)
  rw [wd, if_pos hj]
  omega
theorem make_soa {d : List UInt8} (h : soaO d = true) : mkO (soaV d) = true ∧ mkB (soaV d) = d := by
  have h2 := h
  simp only [soaO, Bool.and_eq_true, decide_eq_true_eq] at h2
  obtain ⟨h3, h4, h5⟩ := h2
  obtain ⟨a1, a2⟩ := cut_back h3
  obtain ⟨b1, b2⟩ := cut_back h4
  have hv : soaV d = ⟨cutM d, cutM (cutR d), wd (cutR (cutR d)) 0 5, wd (cutR (cutR d)) 1 5, wd (cutR (cutR d)) 2 5, wd (cutR (cutR d)) 3 5, wd (cutR (cutR d)) 4 5⟩ := by rw [soaV, if_pos h]
  have ho : mkO (soaV d) = true := by
    rw [hv]
    refine mk_good a2 b2 ?_
    intro n hn
    simp only [ns, List.mem_cons, List.not_mem_nil, or_false] at hn
    rcases hn with rfl | rfl | rfl | rfl | rfl <;> exact wd_le h5 (by omega)
  refine ⟨ho, ?_⟩
  rw [(mk_yes ho).1, hv]
  show cutM d ++ cutM (cutR d) ++ ([wd (cutR (cutR d)) 0 5, wd (cutR (cutR d)) 1 5, wd (cutR (cutR d)) 2 5, wd (cutR (cutR d)) 3 5, wd (cutR (cutR d)) 4 5] : List Int).flatMap fourB = d
  rw [← five_of h5, List.append_assoc, ← b1, ← a1]
theorem can_1234 : canR 1 [1, 2, 3, 4] = true := by simp [canR]
theorem namR_le (t : Int) (d : List UInt8) : (namR t d).length ≤ 1 := by
  unfold namR
  split
  · split
    · simp
    · split <;> simp
  · simp
theorem namS_le (t : Int) (d : List UInt8) : (namS t d).length ≤ 2 := by
  have := namR_le t d
  unfold namS
  split
  · split <;> simp
  · omega

set_option maxRecDepth 20000 in
theorem c_ciceroneref03_Can (t : Int) (b : List UInt8) (lv : Nat) (h : b.length ≤ 140737488351232) : AC Try.prog 42 [i64 t, .fz lv b.length (cl bc b)] emp (Ret (tf (canS t b))) := by
  refine AC.intro te_ok (fn := Try.f42) ⟨Try.func42, rfl, rfl⟩ (Nat.le_of_ble_eq_true rfl) ?_
  refine AWp.seq ?_
  refine AWp.region ?_
  refine AOps.cons rfl rfl (q_assign) ?_
  refine AOps.nil ?_
  refine AWp.seq ?_
  refine AWp.seq ?_
  refine AWp.region ?_
  refine AOps.cons rfl rfl (q_move) ?_
  refine AOps.dec rfl rfl (q_lss) (fun h1_1 => ?_) (fun h1_1 => ?_)
  · skip
    refine AOps.cons rfl rfl (q_move) ?_
    refine AOps.gskip rfl rfl rfl rfl rfl rfl rfl rfl ?_
    refine AOps.gskip rfl rfl rfl rfl rfl rfl rfl rfl ?_
    refine AOps.cons rfl rfl (q_pick) ?_
    refine AOps.cons rfl rfl (q_move) ?_
    refine AOps.gskip rfl rfl rfl rfl rfl rfl rfl rfl ?_
    refine AOps.gskip rfl rfl rfl rfl rfl rfl rfl rfl ?_
    refine AOps.gskip rfl rfl rfl rfl rfl rfl rfl rfl ?_
    refine AOps.cons rfl rfl (q_pick) ?_
    refine AOps.nil ?_
    refine AWp.cond_t rfl ?_
    refine AWp.seq ?_
    refine AWp.region ?_
    refine AOps.cons rfl rfl (q_assign) ?_
    refine AOps.nil ?_
    refine AWp.ret ?_
    show Fin te Try.f42 _ _
    refine q_ret (0) [_] [_] ?_
    rw [canS_ne (by omega), canR, if_pos (by omega)]; rfl
  · skip
    refine AOps.cons rfl rfl (q_move) ?_
    refine AOps.gcons rfl rfl rfl rfl rfl (q_move) ?_
    refine AOps.gdec rfl rfl rfl rfl rfl (q_gtr) (fun h1_4 => ?_) (fun h1_4 => ?_)
    · skip
      refine AOps.cons rfl rfl (q_pick) ?_
      refine AOps.cons rfl rfl (q_move) ?_
      refine AOps.gskip rfl rfl rfl rfl rfl rfl rfl rfl ?_
      refine AOps.gskip rfl rfl rfl rfl rfl rfl rfl rfl ?_
      refine AOps.gskip rfl rfl rfl rfl rfl rfl rfl rfl ?_
      refine AOps.cons rfl rfl (q_pick) ?_
      refine AOps.nil ?_
      refine AWp.cond_t rfl ?_
      refine AWp.seq ?_
      refine AWp.region ?_
      refine AOps.cons rfl rfl (q_assign) ?_
      refine AOps.nil ?_
      refine AWp.ret ?_
      show Fin te Try.f42 _ _
      refine q_ret (0) [_] [_] ?_
      rw [canS_ne (by omega), canR, if_pos (by omega)]; rfl
    · skip
      refine AOps.cons rfl rfl (q_pick) ?_
      refine AOps.cons rfl rfl (q_move) ?_
      refine AOps.gcons rfl rfl rfl rfl rfl (q_move) ?_
      refine AOps.gcons rfl rfl rfl rfl rfl (q_len) ?_
      refine AOps.gdec rfl rfl rfl rfl rfl (q_gtr) (fun h1_9 => ?_) (fun h1_9 => ?_)
      · skip
        refine AOps.cons rfl rfl (q_pick) ?_
        refine AOps.nil ?_
        refine AWp.cond_t rfl ?_
        refine AWp.seq ?_
        refine AWp.region ?_
        refine AOps.cons rfl rfl (q_assign) ?_
        refine AOps.nil ?_
        refine AWp.ret ?_
        show Fin te Try.f42 _ _
        refine q_ret (0) [_] [_] ?_
        by_cases h6 : t = 6
        · subst h6; rw [canS_6n (by omega)]; rfl
        · rw [canS_ne h6, canR, if_pos (by omega)]; rfl
      · skip
        refine AOps.cons rfl rfl (q_pick) ?_
        refine AOps.nil ?_
        refine AWp.cond_f rfl ?_
        refine AWp.skip ?_
        refine AWp.seq ?_
        refine AWp.seq ?_
        refine AWp.region ?_
        have hne : t ≠ 6 → canS t b = canR t b := canS_ne
        refine AOps.cons rfl rfl (q_move) ?_
        refine AOps.nil ?_
        refine AWp.block ?_
        refine AWp.seq ?_
        refine AWp.region ?_
        refine AOps.dec rfl rfl (q_eql) (fun h4_0 => ?_) (fun h4_0 => ?_)
        · skip
          refine AOps.cons rfl rfl (q_assign) ?_
          refine AOps.nil ?_
          refine AWp.cond_t rfl ?_
          refine AWp.seq ?_
          refine AWp.region ?_
          refine AOps.cons rfl rfl (q_move) ?_
          refine AOps.cons rfl rfl (q_len) ?_
          refine AOps.cons rfl rfl (q_eql) ?_
          refine AOps.cons rfl rfl (q_assign) ?_
          refine AOps.nil ?_
          refine AWp.ret ?_
          show Fin te Try.f42 _ _
          refine q_ret (0) [_] [_] ?_
          rw [canS_ne (by omega), canR, if_neg (by omega), if_pos h4_0]; exact congrArg tf (decide_eq_decide.2 (by omega))
        · skip
          refine AOps.cons rfl rfl (q_assign) ?_
          refine AOps.nil ?_
          refine AWp.cond_f rfl ?_
          refine AWp.seq ?_
          refine AWp.region ?_
          refine AOps.dec rfl rfl (q_eql) (fun h6_0 => ?_) (fun h6_0 => ?_)
          · skip
            refine AOps.cons rfl rfl (q_assign) ?_
            refine AOps.nil ?_
            refine AWp.cond_t rfl ?_
            refine AWp.seq ?_
            refine AWp.region ?_
            refine AOps.cons rfl rfl (q_move) ?_
            refine AOps.cons rfl rfl (q_len) ?_
            refine AOps.cons rfl rfl (q_eql) ?_
            refine AOps.cons rfl rfl (q_assign) ?_
            refine AOps.nil ?_
            refine AWp.ret ?_
            show Fin te Try.f42 _ _
            refine q_ret (0) [_] [_] ?_
            rw [canS_ne (by omega), canR, if_neg (by omega), if_neg h4_0, if_pos h6_0]; exact congrArg tf (decide_eq_decide.2 (by omega))
          · skip
            refine AOps.cons rfl rfl (q_assign) ?_
            refine AOps.nil ?_
            refine AWp.cond_f rfl ?_
            refine AWp.seq ?_
            refine AWp.seq ?_
            refine AWp.region ?_
            refine AOps.dec rfl rfl (q_eql) (fun h8_0 => ?_) (fun h8_0 => ?_)
            · skip
              refine AOps.cons rfl rfl (q_assign) ?_
              refine AOps.nil ?_
              refine AWp.cond_t rfl ?_
              refine AWp.skip ?_
              refine AWp.cond_t rfl ?_
              refine AWp.seq ?_
              refine AWp.region ?_
              refine AOps.cons rfl rfl (q_move) ?_
              refine AOps.cons rfl rfl (by first | exact q_conv_zs | exact q_conv_ls) ?_
              refine AOps.cons rfl rfl (q_call (lv) (hc := c_ciceroneref01_Can _ (by first | assumption | omega | decide | (simp; omega) | (simp [*]; done)))) ?_
              refine AOps.cons rfl rfl (q_assign) ?_
              refine AOps.nil ?_
              refine AWp.ret ?_
              show Fin te Try.f42 _ _
              refine q_ret (0) [_] [_] ?_
              rw [canS_ne (by omega), canR, if_neg (by omega), if_neg h4_0, if_neg h6_0, if_pos (by omega)]; rfl
            · skip
              refine AOps.cons rfl rfl (q_assign) ?_
              refine AOps.nil ?_
              refine AWp.cond_f rfl ?_
              refine AWp.seq ?_
              refine AWp.region ?_
              refine AOps.dec rfl rfl (q_eql) (fun h9_0 => ?_) (fun h9_0 => ?_)
              · skip
                refine AOps.cons rfl rfl (q_assign) ?_
                refine AOps.nil ?_
                refine AWp.cond_t rfl ?_
                refine AWp.skip ?_
                refine AWp.cond_t rfl ?_
                refine AWp.seq ?_
                refine AWp.region ?_
                refine AOps.cons rfl rfl (q_move) ?_
                refine AOps.cons rfl rfl (by first | exact q_conv_zs | exact q_conv_ls) ?_
                refine AOps.cons rfl rfl (q_call (lv) (hc := c_ciceroneref01_Can _ (by first | assumption | omega | decide | (simp; omega) | (simp [*]; done)))) ?_
                refine AOps.cons rfl rfl (q_assign) ?_
                refine AOps.nil ?_
                refine AWp.ret ?_
                show Fin te Try.f42 _ _
                refine q_ret (0) [_] [_] ?_
                rw [canS_ne (by omega), canR, if_neg (by omega), if_neg h4_0, if_neg h6_0, if_pos (by omega)]; rfl
              · skip
                refine AOps.cons rfl rfl (q_assign) ?_
                refine AOps.nil ?_
                refine AWp.cond_f rfl ?_
                refine AWp.region ?_
                refine AOps.dec rfl rfl (q_eql) (fun h10_0 => ?_) (fun h10_0 => ?_)
                · skip
                  refine AOps.cons rfl rfl (q_assign) ?_
                  refine AOps.nil ?_
                  refine AWp.cond_t rfl ?_
                  refine AWp.seq ?_
                  refine AWp.region ?_
                  refine AOps.cons rfl rfl (q_move) ?_
                  refine AOps.cons rfl rfl (by first | exact q_conv_zs | exact q_conv_ls) ?_
                  refine AOps.cons rfl rfl (q_call (lv) (hc := c_ciceroneref01_Can _ (by first | assumption | omega | decide | (simp; omega) | (simp [*]; done)))) ?_
                  refine AOps.cons rfl rfl (q_assign) ?_
                  refine AOps.nil ?_
                  refine AWp.ret ?_
                  show Fin te Try.f42 _ _
                  refine q_ret (0) [_] [_] ?_
                  rw [canS_ne (by omega), canR, if_neg (by omega), if_neg h4_0, if_neg h6_0, if_pos (by omega)]; rfl
                · skip
                  refine AOps.cons rfl rfl (q_assign) ?_
                  refine AOps.nil ?_
                  refine AWp.cond_f rfl ?_
                  refine AWp.seq ?_
                  refine AWp.region ?_
                  refine AOps.dec rfl rfl (q_eql) (fun h12_0 => ?_) (fun h12_0 => ?_)
                  · skip
                    refine AOps.cons rfl rfl (q_assign) ?_
                    refine AOps.nil ?_
                    refine AWp.cond_t rfl ?_
                    refine AWp.seq ?_
                    refine AWp.region ?_
                    refine AOps.cons rfl rfl (q_move) ?_
                    refine AOps.cons rfl rfl (q_len) ?_
                    refine AOps.dec rfl rfl (q_gtr) (fun h13_2 => ?_) (fun h13_2 => ?_)
                    · skip
                      refine AOps.cons rfl rfl (q_move) ?_
                      refine AOps.gcons rfl rfl rfl rfl rfl (q_move) ?_
                      refine AOps.gcons rfl rfl rfl rfl rfl (q_sl) ?_
                      refine AOps.gcons rfl rfl rfl rfl rfl (by first | exact q_conv_zs | exact q_conv_ls) ?_
                      refine AOps.gcons rfl rfl rfl rfl rfl (q_call (lv) (hc := c_ciceroneref01_Can _ (by first | assumption | omega | decide | (simp; omega) | (simp [*]; done)))) ?_
                      refine AOps.cons rfl rfl (q_pick) ?_
                      refine AOps.cons rfl rfl (q_assign) ?_
                      refine AOps.nil ?_
                      refine AWp.ret ?_
                      show Fin te Try.f42 _ _
                      refine q_ret (0) [_] [_] ?_
                      rw [canS_ne (by omega), canR, if_neg (by omega), if_neg h4_0, if_neg h6_0, if_neg (by omega), if_pos h12_0, decide_eq_true (by omega)]; rfl
                    · skip
                      refine AOps.cons rfl rfl (q_move) ?_
                      refine AOps.gskip rfl rfl rfl rfl rfl rfl rfl rfl ?_
                      refine AOps.gskip rfl rfl rfl rfl rfl rfl rfl rfl ?_
                      refine AOps.gskip rfl rfl rfl rfl rfl rfl rfl rfl ?_
                      refine AOps.gskip rfl rfl rfl rfl rfl rfl rfl rfl ?_
                      refine AOps.cons rfl rfl (q_pick) ?_
                      refine AOps.cons rfl rfl (q_assign) ?_
                      refine AOps.nil ?_
                      refine AWp.ret ?_
                      show Fin te Try.f42 _ _
                      refine q_ret (0) [_] [_] ?_
                      rw [canS_ne (by omega), canR, if_neg (by omega), if_neg h4_0, if_neg h6_0, if_neg (by omega), if_pos h12_0, decide_eq_false (by omega)]; rfl
                  · skip
                    refine AOps.cons rfl rfl (q_assign) ?_
                    refine AOps.nil ?_
                    refine AWp.cond_f rfl ?_
                    refine AWp.seq ?_
                    refine AWp.region ?_
                    refine AOps.dec rfl rfl (q_eql) (fun h14_0 => ?_) (fun h14_0 => ?_)
                    · skip
                      refine AOps.cons rfl rfl (q_assign) ?_
                      refine AOps.nil ?_
                      refine AWp.cond_t rfl ?_
                      refine AWp.seq ?_
                      refine AWp.region ?_
                      refine AOps.cons rfl rfl (q_move) ?_
                      refine AOps.cons rfl rfl (q_call (lv) (hc := c_ciceroneref03_SOA _ _ (by first | assumption | omega | decide | (simp; omega) | (simp [*]; done)))) ?_
                      refine AOps.cons rfl rfl (q_move) ?_
                      refine AOps.cons rfl rfl (q_extract) ?_
                      refine AOps.cons rfl rfl (q_extract) ?_
                      refine AOps.cons rfl rfl (q_alloc 1605) ?_
                      refine AOps.cons rfl rfl (q_store) ?_
                      refine AOps.cons rfl rfl (q_assign) ?_
                      refine AOps.nil ?_
                      refine AWp.seq ?_
                      refine AWp.region ?_
                      refine AOps.cons rfl rfl (q_move) ?_
                      refine AOps.cons rfl rfl (q_assign) ?_
                      refine AOps.nil ?_
                      refine AWp.ret ?_
                      show Fin te Try.f42 _ _
                      refine q_ret (0) [_] [_] ?_
                      obtain rfl : t = 6 := h14_0
                      rw [canS_6 (by omega)]; rfl
                    · skip
                      refine AOps.cons rfl rfl (q_assign) ?_
                      refine AOps.nil ?_
                      refine AWp.cond_f rfl ?_
                      refine AWp.seq ?_
                      refine AWp.region ?_
                      refine AOps.dec rfl rfl (q_eql) (fun h17_0 => ?_) (fun h17_0 => ?_)
                      · skip
                        refine AOps.cons rfl rfl (q_assign) ?_
                        refine AOps.nil ?_
                        refine AWp.cond_t rfl ?_
                        refine AWp.seq ?_
                        refine AWp.region ?_
                        refine AOps.cons rfl rfl (q_move) ?_
                        refine AOps.cons rfl rfl (q_call (lv) (hc := c_ciceroneref03_texts _ _ (by first | assumption | omega | decide | (simp; omega) | (simp [*]; done)))) ?_
                        refine AOps.cons rfl rfl (q_assign) ?_
                        refine AOps.nil ?_
                        refine AWp.ret ?_
                        show Fin te Try.f42 _ _
                        refine q_ret (0) [_] [_] ?_
                        rw [canS_ne (by omega), canR, if_neg (by omega), if_neg h4_0, if_neg h6_0, if_neg (by omega), if_neg h12_0, if_pos h17_0]; rfl
                      · skip
                        refine AOps.cons rfl rfl (q_assign) ?_
                        refine AOps.nil ?_
                        refine AWp.cond_f rfl ?_
                        refine AWp.seq ?_
                        refine AWp.region ?_
                        refine AOps.dec rfl rfl (q_eql) (fun h19_0 => ?_) (fun h19_0 => ?_)
                        · skip
                          refine AOps.cons rfl rfl (q_assign) ?_
                          refine AOps.nil ?_
                          refine AWp.cond_t rfl ?_
                          refine AWp.seq ?_
                          refine AWp.region ?_
                          refine AOps.cons rfl rfl (q_move) ?_
                          refine AOps.cons rfl rfl (q_call (lv) (hc := c_ciceroneref03_options _ _ (by first | assumption | omega | decide | (simp; omega) | (simp [*]; done)))) ?_
                          refine AOps.cons rfl rfl (q_assign) ?_
                          refine AOps.nil ?_
                          refine AWp.ret ?_
                          show Fin te Try.f42 _ _
                          refine q_ret (0) [_] [_] ?_
                          rw [canS_ne (by omega), canR, if_neg (by omega), if_neg h4_0, if_neg h6_0, if_neg (by omega), if_neg h12_0, if_neg h17_0, if_pos h19_0]; rfl
                        · skip
                          refine AOps.cons rfl rfl (q_assign) ?_
                          refine AOps.nil ?_
                          refine AWp.cond_f rfl ?_
                          refine AWp.skip ?_
                          refine AWp.seq ?_
                          refine AWp.region ?_
                          refine AOps.cons rfl rfl (q_assign) ?_
                          refine AOps.nil ?_
                          refine AWp.ret ?_
                          show Fin te Try.f42 _ _
                          refine q_ret (0) [_] [_] ?_
                          rw [canS_ne (by omega), canR, if_neg (by omega), if_neg h4_0, if_neg h6_0, if_neg (by omega), if_neg h12_0, if_neg h17_0, if_neg h19_0]; rfl

end Go.Proofs.Ytaemmklgofddmaa.Fw
