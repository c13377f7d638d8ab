/- Walks of layer 8: numbers. -/
import Derived.Test.YtaemmklgofddmaaW08b
import Derived.Test.YtaemmklgofddmaaQ8
set_option linter.unusedVariables false
set_option linter.unusedSimpArgs false
namespace Go.Proofs.Ytaemmklgofddmaa.Fw
open Go.RowKit

set_option maxRecDepth 20000 in
theorem c_num (b : List UInt8) (v w : Nat) (l : List Int) (lv : Nat) (hw : 1 ≤ w ∧ w ≤ 8) (hb : b.length + 8 * l.length ≤ 1000000000000) : AC Try.prog 56 [.sl 0 v 0 b.length 1, i64 w, .fz lv l.length (cl ic l)] (hlook [(0, .row (cl bc b) 1 v)]) (RetH (.sl 0 (v + w * l.length) 0 (b ++ numL w l).length 1) [(0, .row (cl bc (b ++ numL w l)) 1 (v + w * l.length))]) := by
  refine AC.intro te_ok (fn := Try.f56) ⟨Try.func56, rfl, rfl⟩ (Nat.le_of_ble_eq_true rfl) ?_
  refine AWp.seq ?_
  refine AWp.region ?_
  refine AOps.cons rfl rfl (q_assign) ?_
  refine AOps.nil ?_
  refine AWp.seq ?_
  refine AWp.seq ?_
  refine AWp.region ?_
  skip
  refine AOps.cons rfl rfl (q_move) ?_
  refine AOps.cons rfl rfl (q_len) ?_
  refine AOps.cons rfl rfl (q_move) ?_
  refine AOps.nil ?_
  refine AWp.block ?_
  refine AWp.loopR (α := Nat × List UInt8) [0, 8, 9, 12, 13, 14, 15, 16, 17, 18, 19, 20, 21, 22, 23, 24, 25, 26, 27, 28, 29, 30] (fun x_ => [(12, i64 (x_.1)), (0, .sl 0 (v + w * (x_.1)) 0 (x_.2).length 1)]) (fun x_ => [(0, .row (cl bc (x_.2)) 1 (v + w * (x_.1)))]) (fun x_ => (x_.1) ≤ l.length ∧ (x_.2) = b ++ numL w (l.take (x_.1))) (fun x_ => l.length - (x_.1)) (0, b) ?_ (Back.mk' (HasT.cons (HasT.cons HasT.nil)) (HasH.cons HasH.nil)) ?_
  · exact ⟨Nat.zero_le _, by simp [numL]⟩
  · rintro ⟨i, acc⟩ hI2
    change i ≤ l.length ∧ acc = b ++ numL w (l.take i) at hI2
    obtain ⟨hi, hacc⟩ := hI2
    refine AWp.as (s' := AS.over _ [0, 8, 9, 12, 13, 14, 15, 16, 17, 18, 19, 20, 21, 22, 23, 24, 25, 26, 27, 28, 29, 30] [(12, i64 i), (0, .sl 0 (v + w * i) 0 acc.length 1)] [(0, .row (cl bc acc) 1 (v + w * i))]) rfl ?_
    have hal := congrArg List.length hacc
    simp only [List.length_append, numL_len, List.length_take, List.length_nil, show min i l.length = i by omega] at hal
    have hwi : w * i ≤ 8 * i := Nat.mul_le_mul_right i hw.2
    refine AWp.seq ?_
    refine AWp.region ?_
    refine AOps.dec rfl rfl (q_lss) (fun h2_0 => ?_) (fun h2_0 => ?_)
    · skip
      refine AOps.nil ?_
      refine AWp.seq ?_
      refine AWp.cond_t rfl ?_
      refine AWp.skip ?_
      refine AWp.seq ?_
      refine AWp.block ?_
      refine AWp.seq ?_
      refine AWp.region ?_
      have hn3 : 0 ≤ i := Nat.zero_le _
      refine AOps.cons rfl rfl (q_ix) ?_
      refine AOps.cons rfl rfl (q_load) ?_
      refine AOps.cons rfl rfl (q_assign) ?_
      refine AOps.nil ?_
      refine AWp.seq ?_
      refine AWp.region ?_
      refine AOps.cons rfl rfl (q_move) ?_
      refine AOps.cons rfl rfl (q_sub) ?_
      refine AOps.cons rfl rfl (q_mul) ?_
      refine AOps.cons rfl rfl (q_assign) ?_
      refine AOps.nil ?_
      refine AWp.block ?_
      refine AWp.loopR (α := Nat × List UInt8) [0, 9, 19, 20, 21, 22, 23, 24, 25, 26, 27, 28, 29] (fun x_ => [(9, i64 (8 * ((w : Int) - (x_.1)) - 8)), (0, .sl 0 (v + w * i + (x_.1)) 0 (x_.2).length 1)]) (fun x_ => [(0, .row (cl bc (x_.2)) 1 (v + w * i + (x_.1)))]) (fun x_ => (x_.1) ≤ w ∧ (x_.2) ++ numW (w - (x_.1)) (l.getD i default) = acc ++ numW w (l.getD i default)) (fun x_ => w - (x_.1)) (0, acc) ?_ (Back.mk' (HasT.cons (HasT.cons HasT.nil) (h1 := by exact i64_eq (by omega)) ) (HasH.cons HasH.nil)) ?_
      · exact ⟨Nat.zero_le _, rfl⟩
      · rintro ⟨j, acc2⟩ hI5
        change j ≤ w ∧ acc2 ++ numW (w - j) (l.getD i default) = acc ++ numW w (l.getD i default) at hI5
        obtain ⟨hj, hj2⟩ := hI5
        refine AWp.as (s' := AS.over _ [0, 9, 19, 20, 21, 22, 23, 24, 25, 26, 27, 28, 29] [(9, i64 (8 * ((w : Int) - j) - 8)), (0, .sl 0 (v + w * i + j) 0 acc2.length 1)] [(0, .row (cl bc acc2) 1 (v + w * i + j))]) rfl ?_
        refine AWp.seq ?_
        refine AWp.seq ?_
        refine AWp.region ?_
        refine AOps.cons rfl rfl (q_move) ?_
        refine AOps.dec rfl rfl (q_geq) (fun h5_1 => ?_) (fun h5_1 => ?_)
        · skip
          refine AOps.nil ?_
          refine AWp.cond_t rfl ?_
          refine AWp.skip ?_
          refine AWp.seq ?_
          refine AWp.block ?_
          refine AWp.region ?_
          obtain ⟨e, he⟩ : ∃ e, w - j = e + 1 := ⟨w - j - 1, by omega⟩
          rw [he, numW] at hj2
          have hal2 := congrArg List.length hj2
          rw [List.length_append, List.length_append, List.length_cons, numW_len, numW_len] at hal2
          refine AOps.cons rfl rfl (q_move) ?_
          refine AOps.cons rfl rfl (q_move) ?_
          refine AOps.cons rfl rfl (q_move) ?_
          refine AOps.cons rfl rfl (q_shr (8 * (w - 1 - j))) ?_
          refine AOps.cons rfl rfl (q_conv_u8) ?_
          refine AOps.cons rfl rfl (q_bs 805 bc [_] [(_, _)]) ?_
          refine AOps.cons rfl rfl (q_app) ?_
          refine AOps.cons rfl rfl (q_assign) ?_
          refine AOps.nil ?_
          refine AWp.region ?_
          skip
          refine AOps.cons rfl rfl (q_move) ?_
          refine AOps.cons rfl rfl (q_sub) ?_
          refine AOps.cons rfl rfl (q_assign) ?_
          refine AOps.nil ?_
          refine ⟨(j + 1, _), ?_, Back.mk' (HasT.cons (HasT.cons HasT.nil) (h1 := by exact i64_eq (by omega)) ) (HasH.cons HasH.nil), ?_⟩
          · try dsimp only
            exact ⟨by omega, by rw [← hj2, show w - (j + 1) = e by omega]; simp [show 8 * (w - 1 - j) = 8 * e by omega]; try rfl⟩
          · try dsimp only
            omega
        · skip
          refine AOps.nil ?_
          refine AWp.cond_f rfl ?_
          refine AWp.exit ?_
          refine AWp.region ?_
          obtain rfl : w = j := by omega
          rw [Nat.sub_self, numW, List.append_nil] at hj2
          refine AOps.cons rfl rfl (q_add) ?_
          refine AOps.cons rfl rfl (q_move) ?_
          refine AOps.nil ?_
          refine ⟨(i + 1, _), ?_, Back.mk' (HasT.cons (HasT.cons HasT.nil (h1 := by rw [show v + w * (i + 1) = v + w * i + w by rw [Nat.mul_succ]; omega]; rfl) )) (HasH.cons HasH.nil (h1 := by rw [show v + w * (i + 1) = v + w * i + w by rw [Nat.mul_succ]; omega]; rfl) ), ?_⟩
          · try dsimp only
            exact ⟨by omega, by rw [hj2, hacc, take_step' (by omega)]; simp [numL]⟩
          · try dsimp only
            first | omega | (simp; omega)
    · skip
      refine AOps.nil ?_
      refine AWp.seq ?_
      refine AWp.cond_f rfl ?_
      refine AWp.exit ?_
      refine AWp.seq ?_
      refine AWp.region ?_
      refine AOps.cons rfl rfl (q_move) ?_
      refine AOps.cons rfl rfl (q_assign) ?_
      refine AOps.nil ?_
      refine AWp.ret ?_
      show Fin te Try.f56 _ _
      obtain rfl : i = l.length := by omega
      rw [List.take_length] at hacc
      subst hacc
      refine q_retH (0) [] [_] [.sl 0 (v + w * l.length) 0 (b ++ numL w l).length 1] [(0, .row (cl bc (b ++ numL w l)) 1 (v + w * l.length))] ?_
      rfl

set_option maxRecDepth 20000 in
theorem c_num_nil (w : Nat) (l : List Int) (lv : Nat) (hw : 1 ≤ w ∧ w ≤ 8) (hb : 8 * l.length ≤ 1000000000000) : AC Try.prog 56 [.v (.slice none 0 0), i64 w, .fz lv l.length (cl ic l)] (hlook []) (RetH (.sl 8 (0) 0 (([] : List UInt8) ++ numL w l).length 1) [(8, .row (cl bc (([] : List UInt8) ++ numL w l)) 1 (0))]) := by
  refine AC.intro te_ok (fn := Try.f56) ⟨Try.func56, rfl, rfl⟩ (Nat.le_of_ble_eq_true rfl) ?_
  refine AWp.seq ?_
  refine AWp.region ?_
  refine AOps.cons rfl rfl (q_assign) ?_
  refine AOps.nil ?_
  refine AWp.seq ?_
  refine AWp.seq ?_
  refine AWp.region ?_
  refine AOps.weak (Weak.niltmp 0 8 1 bc) ?_
  refine AOps.cons rfl rfl (q_move) ?_
  refine AOps.cons rfl rfl (q_len) ?_
  refine AOps.cons rfl rfl (q_move) ?_
  refine AOps.nil ?_
  refine AWp.block ?_
  refine AWp.loopR (α := Nat × List UInt8) [0, 8, 9, 12, 13, 14, 15, 16, 17, 18, 19, 20, 21, 22, 23, 24, 25, 26, 27, 28, 29, 30] (fun x_ => [(12, i64 (x_.1)), (0, .sl 8 (0 + w * (x_.1)) 0 (x_.2).length 1)]) (fun x_ => [(8, .row (cl bc (x_.2)) 1 (0 + w * (x_.1)))]) (fun x_ => (x_.1) ≤ l.length ∧ (x_.2) = ([] : List UInt8) ++ numL w (l.take (x_.1))) (fun x_ => l.length - (x_.1)) (0, ([] : List UInt8)) ?_ (Back.mk' (HasT.cons (HasT.cons HasT.nil)) (HasH.cons HasH.nil)) ?_
  · exact ⟨Nat.zero_le _, by simp [numL]⟩
  · rintro ⟨i, acc⟩ hI2
    change i ≤ l.length ∧ acc = ([] : List UInt8) ++ numL w (l.take i) at hI2
    obtain ⟨hi, hacc⟩ := hI2
    refine AWp.as (s' := AS.over _ [0, 8, 9, 12, 13, 14, 15, 16, 17, 18, 19, 20, 21, 22, 23, 24, 25, 26, 27, 28, 29, 30] [(12, i64 i), (0, .sl 8 (0 + w * i) 0 acc.length 1)] [(8, .row (cl bc acc) 1 (0 + w * i))]) rfl ?_
    have hal := congrArg List.length hacc
    simp only [List.length_append, numL_len, List.length_take, List.length_nil, show min i l.length = i by omega] at hal
    have hwi : w * i ≤ 8 * i := Nat.mul_le_mul_right i hw.2
    refine AWp.seq ?_
    refine AWp.region ?_
    refine AOps.dec rfl rfl (q_lss) (fun h2_0 => ?_) (fun h2_0 => ?_)
    · skip
      refine AOps.nil ?_
      refine AWp.seq ?_
      refine AWp.cond_t rfl ?_
      refine AWp.skip ?_
      refine AWp.seq ?_
      refine AWp.block ?_
      refine AWp.seq ?_
      refine AWp.region ?_
      have hn3 : 0 ≤ i := Nat.zero_le _
      refine AOps.cons rfl rfl (q_ix) ?_
      refine AOps.cons rfl rfl (q_load) ?_
      refine AOps.cons rfl rfl (q_assign) ?_
      refine AOps.nil ?_
      refine AWp.seq ?_
      refine AWp.region ?_
      refine AOps.cons rfl rfl (q_move) ?_
      refine AOps.cons rfl rfl (q_sub) ?_
      refine AOps.cons rfl rfl (q_mul) ?_
      refine AOps.cons rfl rfl (q_assign) ?_
      refine AOps.nil ?_
      refine AWp.block ?_
      refine AWp.loopR (α := Nat × List UInt8) [0, 9, 19, 20, 21, 22, 23, 24, 25, 26, 27, 28, 29] (fun x_ => [(9, i64 (8 * ((w : Int) - (x_.1)) - 8)), (0, .sl 8 (0 + w * i + (x_.1)) 0 (x_.2).length 1)]) (fun x_ => [(8, .row (cl bc (x_.2)) 1 (0 + w * i + (x_.1)))]) (fun x_ => (x_.1) ≤ w ∧ (x_.2) ++ numW (w - (x_.1)) (l.getD i default) = acc ++ numW w (l.getD i default)) (fun x_ => w - (x_.1)) (0, acc) ?_ (Back.mk' (HasT.cons (HasT.cons HasT.nil) (h1 := by exact i64_eq (by omega)) ) (HasH.cons HasH.nil)) ?_
      · exact ⟨Nat.zero_le _, rfl⟩
      · rintro ⟨j, acc2⟩ hI5
        change j ≤ w ∧ acc2 ++ numW (w - j) (l.getD i default) = acc ++ numW w (l.getD i default) at hI5
        obtain ⟨hj, hj2⟩ := hI5
        refine AWp.as (s' := AS.over _ [0, 9, 19, 20, 21, 22, 23, 24, 25, 26, 27, 28, 29] [(9, i64 (8 * ((w : Int) - j) - 8)), (0, .sl 8 (0 + w * i + j) 0 acc2.length 1)] [(8, .row (cl bc acc2) 1 (0 + w * i + j))]) rfl ?_
        refine AWp.seq ?_
        refine AWp.seq ?_
        refine AWp.region ?_
        refine AOps.cons rfl rfl (q_move) ?_
        refine AOps.dec rfl rfl (q_geq) (fun h5_1 => ?_) (fun h5_1 => ?_)
        · skip
          refine AOps.nil ?_
          refine AWp.cond_t rfl ?_
          refine AWp.skip ?_
          refine AWp.seq ?_
          refine AWp.block ?_
          refine AWp.region ?_
          obtain ⟨e, he⟩ : ∃ e, w - j = e + 1 := ⟨w - j - 1, by omega⟩
          rw [he, numW] at hj2
          have hal2 := congrArg List.length hj2
          rw [List.length_append, List.length_append, List.length_cons, numW_len, numW_len] at hal2
          refine AOps.cons rfl rfl (q_move) ?_
          refine AOps.cons rfl rfl (q_move) ?_
          refine AOps.cons rfl rfl (q_move) ?_
          refine AOps.cons rfl rfl (q_shr (8 * (w - 1 - j))) ?_
          refine AOps.cons rfl rfl (q_conv_u8) ?_
          refine AOps.cons rfl rfl (q_bs 805 bc [_] [(_, _)]) ?_
          refine AOps.cons rfl rfl (q_app) ?_
          refine AOps.cons rfl rfl (q_assign) ?_
          refine AOps.nil ?_
          refine AWp.region ?_
          skip
          refine AOps.cons rfl rfl (q_move) ?_
          refine AOps.cons rfl rfl (q_sub) ?_
          refine AOps.cons rfl rfl (q_assign) ?_
          refine AOps.nil ?_
          refine ⟨(j + 1, _), ?_, Back.mk' (HasT.cons (HasT.cons HasT.nil) (h1 := by exact i64_eq (by omega)) ) (HasH.cons HasH.nil), ?_⟩
          · try dsimp only
            exact ⟨by omega, by rw [← hj2, show w - (j + 1) = e by omega]; simp [show 8 * (w - 1 - j) = 8 * e by omega]; try rfl⟩
          · try dsimp only
            omega
        · skip
          refine AOps.nil ?_
          refine AWp.cond_f rfl ?_
          refine AWp.exit ?_
          refine AWp.region ?_
          obtain rfl : w = j := by omega
          rw [Nat.sub_self, numW, List.append_nil] at hj2
          refine AOps.cons rfl rfl (q_add) ?_
          refine AOps.cons rfl rfl (q_move) ?_
          refine AOps.nil ?_
          refine ⟨(i + 1, _), ?_, Back.mk' (HasT.cons (HasT.cons HasT.nil (h1 := by rw [show 0 + w * (i + 1) = 0 + w * i + w by rw [Nat.mul_succ]; omega]; rfl) )) (HasH.cons HasH.nil (h1 := by rw [show 0 + w * (i + 1) = 0 + w * i + w by rw [Nat.mul_succ]; omega]; rfl) ), ?_⟩
          · try dsimp only
            exact ⟨by omega, by rw [hj2, hacc, take_step' (by omega)]; simp [numL]⟩
          · try dsimp only
            first | omega | (simp; omega)
    · skip
      refine AOps.nil ?_
      refine AWp.seq ?_
      refine AWp.cond_f rfl ?_
      refine AWp.exit ?_
      refine AWp.seq ?_
      refine AWp.region ?_
      refine AOps.cons rfl rfl (q_move) ?_
      refine AOps.cons rfl rfl (q_assign) ?_
      refine AOps.nil ?_
      refine AWp.ret ?_
      show Fin te Try.f56 _ _
      obtain rfl : i = l.length := by omega
      rw [List.take_length] at hacc
      subst hacc
      refine q_retH (0) [8] [_] [.sl 8 (0) 0 (([] : List UInt8) ++ numL w l).length 1] [(8, .row (cl bc (([] : List UInt8) ++ numL w l)) 1 (0))] ?_
      rfl

end Go.Proofs.Ytaemmklgofddmaa.Fw
