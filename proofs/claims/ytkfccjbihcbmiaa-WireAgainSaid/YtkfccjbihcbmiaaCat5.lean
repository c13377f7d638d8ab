/- The texts V04r, V04s, V04t, V04u, V04v, V04w, L05g, one behind the other: what the walks and plain laws need; conditions stand with each theorem. -/
import Derived.Test.YtkfccjbihcbmiaaCat4
set_option linter.unusedVariables false
set_option linter.unusedSimpArgs false
namespace Go.Proofs.Ytkfccjbihcbmiaa.Fw
open Go.RowKit
theorem lv_any {ρ : Nat → Bool} {σ : IdMap} {h : Heap} {lo hi : Nat} {a : AV} : LVal ρ σ h lo hi a .any := fun _ _ _ _ _ _ _ _ _ _ _ _ => .any
def rnE {α : Type} : Except Int α → Int
  | .error e => e
  | .ok _ => 0
def rnN : Except Int (List UInt8 × Nat) → List UInt8
  | .error _ => []
  | .ok a => a.1
def atE {α : Type} : Except Int (α × Nat) → AV
  | .error _ => .any
  | .ok a => i64 a.2
def liB (b : List UInt8) (en : Nat) (bh : Option Nat) : Nat := if bh.isSome then b.length else en
set_option maxRecDepth 20000 in
set_option maxHeartbeats 2000000 in
theorem c_rrdname (b : List UInt8) (p0 en : Nat) (hb : b.length ≤ 65535) (he : en ≤ b.length) (hp : p0 ≤ 100000) : AC Try.prog 73 [.ptr 0 0 0, i64 en] (hlook [(0, .box [.fz 0 b.length (cl bc b), i64 p0])]) (RetH (.tup [str (rnN (rdN b 20 p0 p0 en none [])), i64 (rnE (rdN b 20 p0 p0 en none []))]) [(0, .box [.fz 0 b.length (cl bc b), atE (rdN b 20 p0 p0 en none [])])]) := by
 refine AC.intro te_ok (fn := Try.f73) ⟨Try.func73, rfl, rfl⟩ (Nat.le_of_ble_eq_true rfl) ?_
 refine AWp.seq ?_
 refine AWp.region ?_
 refine AOps.cons rfl rfl (q_assign) ?_
 refine AOps.cons rfl rfl (q_assign) ?_
 refine AOps.nil ?_
 refine AWp.seq ?_
 refine AWp.region ?_
 refine AOps.cons rfl rfl (q_assign) ?_
 refine AOps.nil ?_
 refine AWp.seq ?_
 refine AWp.draws [⟨0, [0], [], some 13, _, none⟩,
     ⟨1, [13], [0], some 14, _, none⟩,
     ⟨2, [14], [0], some 15, _, none⟩,
     ⟨3, [15], [0], some 16, _, none⟩,
     ⟨4, [0], [], some 17, _, none⟩,
     ⟨5, [17], [0], some 18, _, none⟩,
     ⟨6, [18], [0], some 19, _, none⟩,
     ⟨7, [19], [0], some 20, _, none⟩,
     ⟨8, [16], [], some 7, _, none⟩,
     ⟨9, [20], [], some 8, _, none⟩,
     ⟨10, [], [], some 9, _, none⟩]
  [⟨0, [0], [], some 13, .any, none⟩,
      ⟨1, [13], [0], some 14, .any, none⟩,
      ⟨2, [14], [0], some 15, .any, none⟩,
      ⟨3, [15], [0], some 16, .any, none⟩,
      ⟨4, [0], [], some 17, .any, none⟩,
      ⟨5, [17], [0], some 18, .any, none⟩,
      ⟨6, [18], [0], some 19, .any, none⟩,
      ⟨7, [19], [0], some 20, .any, none⟩,
      ⟨8, [16], [], some 7, .any, none⟩,
      ⟨9, [20], [], some 8, .any, none⟩,
      ⟨10, [], [], some 9, .any, none⟩]
  mixed_ok rfl (by kernel_rfl) ⟨DS.ok_over fun s0 => OpAt.go rfl rfl (q_move),
      DS.ok_over fun s0 => OpAt.go rfl rfl (q_nil),
      DS.ok_over fun s0 => OpAt.go rfl rfl (q_fa),
      DS.ok_over fun s0 => OpAt.go rfl rfl (q_load),
      DS.ok_over fun s0 => OpAt.go rfl rfl (q_move),
      DS.ok_over fun s0 => OpAt.go rfl rfl (q_nil),
      DS.ok_over fun s0 => OpAt.go rfl rfl (q_fa),
      DS.ok_over fun s0 => OpAt.go rfl rfl (q_load),
      DS.ok_over fun s0 => OpAt.go rfl rfl (q_assign),
      DS.ok_over fun s0 => OpAt.go rfl rfl (q_assign),
      DS.ok_over fun s0 => OpAt.go rfl rfl (q_assign), trivial⟩ ?_
 dsimp only [final, DS.upd, AS.seto]
 refine AWp.block ?_
 refine AWp.loopR (α := Nat × Nat × Option Nat × List UInt8) [4, 5, 6, 7, 8, 9, 10, 11, 12, 21, 22, 23, 24, 25, 26, 27, 28, 29, 30, 31, 32, 33, 34, 35, 36, 37, 38, 39, 40, 41, 42, 43, 44, 45, 46, 47, 48, 49, 50, 51, 52, 53, 54, 55, 56, 57, 58, 59, 60, 61, 62, 63, 64, 65, 66, 67, 68, 69, 70, 71, 72, 73, 74, 75, 76, 77, 78, 79, 80, 81, 82, 83, 84, 85, 86, 87, 88, 89, 90, 91, 92, 93, 94, 95, 96, 97, 98, 99, 100, 101, 102, 103, 104, 105, 106, 107, 108, 109, 110, 111, 112, 113, 114, 115, 116] (fun x_ => [(7, i64 (x_.1)), (8, i64 (x_.2.1)), (9, tf (x_.2.2.1).isSome), (6, str (x_.2.2.2))]) (fun x_ => [(0, .box [.fz 0 b.length (cl bc b), i64 (((x_.2.2.1).getD p0 : Nat) : Int)])]) (fun x_ => rdN b 20 (x_.1) (x_.2.1) (liB b en (x_.2.2.1)) (x_.2.2.1) (x_.2.2.2) = rdN b 20 p0 p0 en none [] ∧ (x_.2.2.2).length < 255 ∧ (x_.1) ≤ 200000 ∧ (x_.2.1) ≤ 100000) (fun x_ => (x_.2.1) * (b.length + 1) + (liB b en (x_.2.2.1) - (x_.1))) (p0, p0, none, []) ?_ (Back.mk' (HasT.cons (HasT.cons (HasT.cons (HasT.cons HasT.nil)))) (HasH.cons HasH.nil)) ?_
 ·
  exact ⟨rfl, by show 0 < 255; decide, by show p0 ≤ _; omega, hp⟩
 ·
  rintro ⟨p, fi, bh, n⟩ hI3
  change rdN b 20 p fi (liB b en bh) bh n = rdN b 20 p0 p0 en none [] ∧ n.length < 255 ∧ p ≤ 200000 ∧ fi ≤ 100000 at hI3
  obtain ⟨hE, hN, hP, hF⟩ := hI3
  refine AWp.as (s' := AS.over _ [4, 5, 6, 7, 8, 9, 10, 11, 12, 21, 22, 23, 24, 25, 26, 27, 28, 29, 30, 31, 32, 33, 34, 35, 36, 37, 38, 39, 40, 41, 42, 43, 44, 45, 46, 47, 48, 49, 50, 51, 52, 53, 54, 55, 56, 57, 58, 59, 60, 61, 62, 63, 64, 65, 66, 67, 68, 69, 70, 71, 72, 73, 74, 75, 76, 77, 78, 79, 80, 81, 82, 83, 84, 85, 86, 87, 88, 89, 90, 91, 92, 93, 94, 95, 96, 97, 98, 99, 100, 101, 102, 103, 104, 105, 106, 107, 108, 109, 110, 111, 112, 113, 114, 115, 116] [(7, i64 p), (8, i64 fi), (9, tf bh.isSome), (6, str n)] [(0, .box [.fz 0 b.length (cl bc b), i64 ((bh.getD p0 : Nat) : Int)])]) rfl ?_
  have hk256 := kB_lt b p
  obtain ⟨li, hli0⟩ : ∃ li, li = liB b en bh := ⟨_, rfl⟩
  rw [← hli0] at hE
  refine AWp.block ?_
  refine AWp.seq ?_
  refine AWp.region ?_
  refine AOps.cons rfl rfl (q_move) ?_
  refine AOps.cons rfl rfl (q_assign) ?_
  refine AOps.nil ?_
  refine AWp.seq ?_
  refine AWp.seq ?_
  refine AWp.region ?_
  refine AOps.bool rfl rfl (q_move) (fun h4_0 => ?_) (fun h4_0 => ?_)
  ·
   refine AOps.nil ?_
   refine AWp.cond_t rfl ?_
   refine AWp.region ?_
   refine AOps.cons rfl rfl (q_move) ?_
   refine AOps.cons rfl rfl (q_nil) ?_
   refine AOps.cons rfl rfl (q_fa) ?_
   refine AOps.cons rfl rfl (q_load) ?_
   refine AOps.cons rfl rfl (q_len) ?_
   refine AOps.cons rfl rfl (q_assign) ?_
   refine AOps.nil ?_
   refine AWp.seq ?_
   refine AWp.seq ?_
   refine AWp.region ?_
   have hli : liB b en bh = b.length := by rw [liB, if_pos h4_0]
   have hL : li ≤ b.length := by omega
   have hle : b.length = li := by omega
   refine AOps.cons rfl rfl (q_move) ?_
   refine AOps.cons rfl rfl (q_move) ?_
   refine AOps.dec rfl rfl (q_geq) (fun h6_2 => ?_) (fun h6_2 => ?_)
   ·
    refine AOps.nil ?_
    refine AWp.cond_t rfl ?_
    refine AWp.seq ?_
    refine AWp.region ?_
    refine AOps.cons rfl rfl (q_assign) ?_
    refine AOps.cons rfl rfl (q_assign) ?_
    refine AOps.nil ?_
    refine AWp.ret ?_
    show Fin te Try.f73 _ _
    have hX := hE
    rw [rdN_short (by omega)] at hX
    rw [← hX]
    refine q_retH (0) [] [_, _] [_, _] [(_, _)] ?_ (hobj := by repeat' (first | exact trivial | exact lv_ok rfl | exact lv_sl rfl rfl | exact lv_rn rfl rfl .row rfl | exact lv_ptr rfl rfl | exact lv_mp rfl rfl | exact lv_nilz | exact lv_any | exact lv_row0 rfl rfl .row (fun _ => rfl) (Nat.le_of_ble_eq_true rfl) (fun _ => rfl) | exact lobj_row (fun _ => rfl) | exact lobj_rown (fun _ => rfl) | exact lobj_me (fun _ => rfl) | refine lobj_box ?_ | refine ⟨rfl, ⟨_, rfl, ?_⟩, ?_⟩ | refine ⟨?_, ?_⟩)) (h2 := by repeat' (first | exact trivial | exact lv_ok rfl | exact lv_ptr rfl rfl | exact lv_sl rfl rfl | exact lv_nilz | exact lv_row0 rfl rfl .row (fun _ => rfl) (Nat.le_of_ble_eq_true rfl) (fun _ => rfl) | refine lv_agg ?_ | exact lv_any | refine ⟨?_, ?_⟩))
    rfl
   ·
    refine AOps.nil ?_
    refine AWp.cond_f rfl ?_
    refine AWp.skip ?_
    refine AWp.seq ?_
    refine AWp.region ?_
    have g1 : ¬ li ≤ p := by omega
    refine AOps.cons rfl rfl (q_move) ?_
    refine AOps.cons rfl rfl (q_nil) ?_
    refine AOps.cons rfl rfl (q_fa) ?_
    refine AOps.cons rfl rfl (q_load) ?_
    refine AOps.cons rfl rfl (q_move) ?_
    refine AOps.cons rfl rfl (q_ix) ?_
    refine AOps.cons rfl rfl (q_load) ?_
    refine AOps.cons rfl rfl (q_conv_8i) ?_
    refine AOps.cons rfl rfl (q_assign) ?_
    refine AOps.nil ?_
    refine AWp.block ?_
    refine AWp.seq ?_
    refine AWp.region ?_
    rw [show (b.getD ((p : Nat) : Int).toNat default).toNat = kB b p from rfl]
    refine AOps.cons rfl rfl (q_move) ?_
    refine AOps.dec rfl rfl (q_eql) (fun h15_1 => ?_) (fun h15_1 => ?_)
    ·
     refine AOps.cons rfl rfl (q_assign) ?_
     refine AOps.nil ?_
     refine AWp.cond_t rfl ?_
     refine AWp.seq ?_
     refine AWp.seq ?_
     refine AWp.region ?_
     have hk0 : kB b p = 0 := by omega
     refine AOps.bool rfl rfl (q_move) (fun h16_0 => ?_) (fun h16_0 => ?_)
     ·
      refine AOps.cons rfl rfl (q_not) ?_
      refine AOps.nil ?_
      refine AWp.cond_f rfl ?_
      refine AWp.skip ?_
      refine AWp.seq ?_
      refine AWp.seq ?_
      refine AWp.region ?_
      obtain ⟨a, rfl⟩ := Option.isSome_iff_exists.1 h16_0
      refine AOps.cons rfl rfl (q_move) ?_
      refine AOps.cons rfl rfl (q_len_str) ?_
      refine AOps.cons rfl rfl (q_add) ?_
      refine AOps.dec rfl rfl (q_gtr) (fun h18_3 => ?_) (fun h18_3 => ?_)
      ·
       refine AOps.nil ?_
       refine AWp.cond_t rfl ?_
       refine AWp.seq ?_
       refine AWp.region ?_
       refine AOps.cons rfl rfl (q_assign) ?_
       refine AOps.cons rfl rfl (q_assign) ?_
       refine AOps.nil ?_
       refine AWp.ret ?_
       show Fin te Try.f73 _ _
       have hX := hE
       rw [rdN_long0 g1 hk0 (by omega)] at hX
       rw [← hX]
       refine q_retH (0) [] [_, _] [_, _] [(_, _)] ?_ (hobj := by repeat' (first | exact trivial | exact lv_ok rfl | exact lv_sl rfl rfl | exact lv_rn rfl rfl .row rfl | exact lv_ptr rfl rfl | exact lv_mp rfl rfl | exact lv_nilz | exact lv_any | exact lv_row0 rfl rfl .row (fun _ => rfl) (Nat.le_of_ble_eq_true rfl) (fun _ => rfl) | exact lobj_row (fun _ => rfl) | exact lobj_rown (fun _ => rfl) | exact lobj_me (fun _ => rfl) | refine lobj_box ?_ | refine ⟨rfl, ⟨_, rfl, ?_⟩, ?_⟩ | refine ⟨?_, ?_⟩)) (h2 := by repeat' (first | exact trivial | exact lv_ok rfl | exact lv_ptr rfl rfl | exact lv_sl rfl rfl | exact lv_nilz | exact lv_row0 rfl rfl .row (fun _ => rfl) (Nat.le_of_ble_eq_true rfl) (fun _ => rfl) | refine lv_agg ?_ | exact lv_any | refine ⟨?_, ?_⟩))
       rfl
      ·
       refine AOps.nil ?_
       refine AWp.cond_f rfl ?_
       refine AWp.skip ?_
       refine AWp.seq ?_
       refine AWp.region ?_
       refine AOps.cons rfl rfl (q_move) ?_
       refine AOps.cons rfl rfl (q_sadd) ?_
       refine AOps.cons rfl rfl (q_assign) ?_
       refine AOps.cons rfl rfl (q_assign) ?_
       refine AOps.nil ?_
       refine AWp.ret ?_
       show Fin te Try.f73 _ _
       have hX := hE
       rw [rdN_end g1 hk0 hN] at hX
       rw [← hX]
       refine q_retH (0) [] [_, _] [_, _] [(_, _)] ?_ (hobj := by repeat' (first | exact trivial | exact lv_ok rfl | exact lv_sl rfl rfl | exact lv_rn rfl rfl .row rfl | exact lv_ptr rfl rfl | exact lv_mp rfl rfl | exact lv_nilz | exact lv_any | exact lv_row0 rfl rfl .row (fun _ => rfl) (Nat.le_of_ble_eq_true rfl) (fun _ => rfl) | exact lobj_row (fun _ => rfl) | exact lobj_rown (fun _ => rfl) | exact lobj_me (fun _ => rfl) | refine lobj_box ?_ | refine ⟨rfl, ⟨_, rfl, ?_⟩, ?_⟩ | refine ⟨?_, ?_⟩)) (h2 := by repeat' (first | exact trivial | exact lv_ok rfl | exact lv_ptr rfl rfl | exact lv_sl rfl rfl | exact lv_nilz | exact lv_row0 rfl rfl .row (fun _ => rfl) (Nat.le_of_ble_eq_true rfl) (fun _ => rfl) | refine lv_agg ?_ | exact lv_any | refine ⟨?_, ?_⟩))
       rfl
     ·
      refine AOps.cons rfl rfl (q_not) ?_
      refine AOps.nil ?_
      refine AWp.cond_t rfl ?_
      refine AWp.region ?_
      obtain rfl : bh = none := by simpa using h16_0
      refine AOps.cons rfl rfl (q_move) ?_
      refine AOps.cons rfl rfl (q_move) ?_
      refine AOps.cons rfl rfl (q_add) ?_
      refine AOps.cons rfl rfl (q_nil) ?_
      refine AOps.cons rfl rfl (q_fa) ?_
      refine AOps.cons rfl rfl (q_store) ?_
      refine AOps.nil ?_
      refine AWp.seq ?_
      refine AWp.seq ?_
      refine AWp.region ?_
      refine AOps.cons rfl rfl (q_move) ?_
      refine AOps.cons rfl rfl (q_len_str) ?_
      refine AOps.cons rfl rfl (q_add) ?_
      refine AOps.dec rfl rfl (q_gtr) (fun h18_3 => ?_) (fun h18_3 => ?_)
      ·
       refine AOps.nil ?_
       refine AWp.cond_t rfl ?_
       refine AWp.seq ?_
       refine AWp.region ?_
       refine AOps.cons rfl rfl (q_assign) ?_
       refine AOps.cons rfl rfl (q_assign) ?_
       refine AOps.nil ?_
       refine AWp.ret ?_
       show Fin te Try.f73 _ _
       have hX := hE
       rw [rdN_long0 g1 hk0 (by omega)] at hX
       rw [← hX]
       refine q_retH (0) [] [_, _] [_, _] [(_, _)] ?_ (hobj := by repeat' (first | exact trivial | exact lv_ok rfl | exact lv_sl rfl rfl | exact lv_rn rfl rfl .row rfl | exact lv_ptr rfl rfl | exact lv_mp rfl rfl | exact lv_nilz | exact lv_any | exact lv_row0 rfl rfl .row (fun _ => rfl) (Nat.le_of_ble_eq_true rfl) (fun _ => rfl) | exact lobj_row (fun _ => rfl) | exact lobj_rown (fun _ => rfl) | exact lobj_me (fun _ => rfl) | refine lobj_box ?_ | refine ⟨rfl, ⟨_, rfl, ?_⟩, ?_⟩ | refine ⟨?_, ?_⟩)) (h2 := by repeat' (first | exact trivial | exact lv_ok rfl | exact lv_ptr rfl rfl | exact lv_sl rfl rfl | exact lv_nilz | exact lv_row0 rfl rfl .row (fun _ => rfl) (Nat.le_of_ble_eq_true rfl) (fun _ => rfl) | refine lv_agg ?_ | exact lv_any | refine ⟨?_, ?_⟩))
       rfl
      ·
       refine AOps.nil ?_
       refine AWp.cond_f rfl ?_
       refine AWp.skip ?_
       refine AWp.seq ?_
       refine AWp.region ?_
       refine AOps.cons rfl rfl (q_move) ?_
       refine AOps.cons rfl rfl (q_sadd) ?_
       refine AOps.cons rfl rfl (q_assign) ?_
       refine AOps.cons rfl rfl (q_assign) ?_
       refine AOps.nil ?_
       refine AWp.ret ?_
       show Fin te Try.f73 _ _
       have hX := hE
       rw [rdN_end g1 hk0 hN] at hX
       rw [← hX]
       refine q_retH (0) [] [_, _] [_, _] [(_, _)] ?_ (hobj := by repeat' (first | exact trivial | exact lv_ok rfl | exact lv_sl rfl rfl | exact lv_rn rfl rfl .row rfl | exact lv_ptr rfl rfl | exact lv_mp rfl rfl | exact lv_nilz | exact lv_any | exact lv_row0 rfl rfl .row (fun _ => rfl) (Nat.le_of_ble_eq_true rfl) (fun _ => rfl) | exact lobj_row (fun _ => rfl) | exact lobj_rown (fun _ => rfl) | exact lobj_me (fun _ => rfl) | refine lobj_box ?_ | refine ⟨rfl, ⟨_, rfl, ?_⟩, ?_⟩ | refine ⟨?_, ?_⟩)) (h2 := by repeat' (first | exact trivial | exact lv_ok rfl | exact lv_ptr rfl rfl | exact lv_sl rfl rfl | exact lv_nilz | exact lv_row0 rfl rfl .row (fun _ => rfl) (Nat.le_of_ble_eq_true rfl) (fun _ => rfl) | refine lv_agg ?_ | exact lv_any | refine ⟨?_, ?_⟩))
       rfl
    ·
     refine AOps.cons rfl rfl (q_assign) ?_
     refine AOps.nil ?_
     refine AWp.cond_f rfl ?_
     refine AWp.seq ?_
     refine AWp.region ?_
     refine AOps.cons rfl rfl (q_move) ?_
     refine AOps.dec rfl rfl (q_geq) (fun h21_1 => ?_) (fun h21_1 => ?_)
     ·
      refine AOps.cons rfl rfl (q_assign) ?_
      refine AOps.nil ?_
      refine AWp.cond_t rfl ?_
      refine AWp.seq ?_
      refine AWp.seq ?_
      refine AWp.region ?_
      have hk : 192 ≤ kB b p := by omega
      refine AOps.cons rfl rfl (q_move) ?_
      refine AOps.cons rfl rfl (q_add) ?_
      refine AOps.cons rfl rfl (q_move) ?_
      refine AOps.dec rfl rfl (q_geq) (fun h22_3 => ?_) (fun h22_3 => ?_)
      ·
       refine AOps.nil ?_
       refine AWp.cond_t rfl ?_
       refine AWp.seq ?_
       refine AWp.region ?_
       refine AOps.cons rfl rfl (q_assign) ?_
       refine AOps.cons rfl rfl (q_assign) ?_
       refine AOps.nil ?_
       refine AWp.ret ?_
       show Fin te Try.f73 _ _
       have hX := hE
       rw [rdN_pshort g1 hk (by omega)] at hX
       rw [← hX]
       refine q_retH (0) [] [_, _] [_, _] [(_, _)] ?_ (hobj := by repeat' (first | exact trivial | exact lv_ok rfl | exact lv_sl rfl rfl | exact lv_rn rfl rfl .row rfl | exact lv_ptr rfl rfl | exact lv_mp rfl rfl | exact lv_nilz | exact lv_any | exact lv_row0 rfl rfl .row (fun _ => rfl) (Nat.le_of_ble_eq_true rfl) (fun _ => rfl) | exact lobj_row (fun _ => rfl) | exact lobj_rown (fun _ => rfl) | exact lobj_me (fun _ => rfl) | refine lobj_box ?_ | refine ⟨rfl, ⟨_, rfl, ?_⟩, ?_⟩ | refine ⟨?_, ?_⟩)) (h2 := by repeat' (first | exact trivial | exact lv_ok rfl | exact lv_ptr rfl rfl | exact lv_sl rfl rfl | exact lv_nilz | exact lv_row0 rfl rfl .row (fun _ => rfl) (Nat.le_of_ble_eq_true rfl) (fun _ => rfl) | refine lv_agg ?_ | exact lv_any | refine ⟨?_, ?_⟩))
       rfl
      ·
       refine AOps.nil ?_
       refine AWp.cond_f rfl ?_
       refine AWp.skip ?_
       refine AWp.seq ?_
       refine AWp.region ?_
       have g2 : ¬ li ≤ p + 1 := by omega
       have hq1 := (b.getD ((p : Int) + 1).toNat default).toNat_lt
       refine AOps.cons rfl rfl (q_move) ?_
       refine AOps.cons rfl rfl (q_sub) ?_
       refine AOps.cons rfl rfl (q_mul) ?_
       refine AOps.cons rfl rfl (q_move) ?_
       refine AOps.cons rfl rfl (q_nil) ?_
       refine AOps.cons rfl rfl (q_fa) ?_
       refine AOps.cons rfl rfl (q_load) ?_
       refine AOps.cons rfl rfl (q_move) ?_
       refine AOps.cons rfl rfl (q_add) ?_
       refine AOps.cons rfl rfl (q_ix) ?_
       refine AOps.cons rfl rfl (q_load) ?_
       refine AOps.cons rfl rfl (q_conv_8i) ?_
       refine AOps.cons rfl rfl (q_add) ?_
       refine AOps.cons rfl rfl (q_assign) ?_
       refine AOps.nil ?_
       refine AWp.seq ?_
       refine AWp.seq ?_
       refine AWp.region ?_
       rw [show ((kB b p : Nat) : Int) - 192 = ((kB b p - 192 : Nat) : Int) by omega, show (((kB b p - 192 : Nat) : Int) * 256 + ((b.getD ((p : Int) + 1).toNat default).toNat : Int)) = (toI b p : Int) by
         have e1 : kB b (p + 1) = (b.getD ((p : Int) + 1).toNat default).toNat := rfl
         unfold toI; omega]
       refine AOps.cons rfl rfl (q_move) ?_
       refine AOps.cons rfl rfl (q_move) ?_
       refine AOps.dec rfl rfl (q_geq) (fun h25_2 => ?_) (fun h25_2 => ?_)
       ·
        refine AOps.nil ?_
        refine AWp.cond_t rfl ?_
        refine AWp.seq ?_
        refine AWp.region ?_
        refine AOps.cons rfl rfl (q_assign) ?_
        refine AOps.cons rfl rfl (q_assign) ?_
        refine AOps.nil ?_
        refine AWp.ret ?_
        show Fin te Try.f73 _ _
        have hX := hE
        rw [rdN_pbad g1 hk g2 (by omega)] at hX
        rw [← hX]
        refine q_retH (0) [] [_, _] [_, _] [(_, _)] ?_ (hobj := by repeat' (first | exact trivial | exact lv_ok rfl | exact lv_sl rfl rfl | exact lv_rn rfl rfl .row rfl | exact lv_ptr rfl rfl | exact lv_mp rfl rfl | exact lv_nilz | exact lv_any | exact lv_row0 rfl rfl .row (fun _ => rfl) (Nat.le_of_ble_eq_true rfl) (fun _ => rfl) | exact lobj_row (fun _ => rfl) | exact lobj_rown (fun _ => rfl) | exact lobj_me (fun _ => rfl) | refine lobj_box ?_ | refine ⟨rfl, ⟨_, rfl, ?_⟩, ?_⟩ | refine ⟨?_, ?_⟩)) (h2 := by repeat' (first | exact trivial | exact lv_ok rfl | exact lv_ptr rfl rfl | exact lv_sl rfl rfl | exact lv_nilz | exact lv_row0 rfl rfl .row (fun _ => rfl) (Nat.le_of_ble_eq_true rfl) (fun _ => rfl) | refine lv_agg ?_ | exact lv_any | refine ⟨?_, ?_⟩))
        rfl
       ·
        refine AOps.nil ?_
        refine AWp.cond_f rfl ?_
        refine AWp.skip ?_
        refine AWp.seq ?_
        refine AWp.seq ?_
        refine AWp.region ?_
        have g3 : toI b p < fi := by omega
        refine AOps.bool rfl rfl (q_move) (fun h27_0 => ?_) (fun h27_0 => ?_)
        ·
         refine AOps.cons rfl rfl (q_not) ?_
         refine AOps.nil ?_
         refine AWp.cond_f rfl ?_
         refine AWp.skip ?_
         refine AWp.region ?_
         obtain ⟨a, rfl⟩ := Option.isSome_iff_exists.1 h27_0
         refine AOps.cons rfl rfl (q_move) ?_
         refine AOps.cons rfl rfl (q_move) ?_
         refine AOps.cons rfl rfl (q_assign) ?_
         refine AOps.cons rfl rfl (q_assign) ?_
         refine AOps.cons rfl rfl (q_assign) ?_
         refine AOps.nil ?_
         refine ⟨(toI b p, toI b p, some a, n), ?_, Back.mk' (HasT.cons (HasT.cons (HasT.cons (HasT.cons HasT.nil)))) (HasH.cons HasH.nil), ?_⟩
         ·
          try dsimp only
          exact ⟨by rw [← hE, rdN_ptr g1 hk g2 g3]; rfl, hN, by omega, by omega⟩
         ·
          try dsimp only
          have := Nat.mul_le_mul_right (b.length + 1) (show toI b p + 1 ≤ fi by omega)
          rw [Nat.succ_mul] at this
          have h9 : liB b en (some a) = b.length := rfl
          omega
        ·
         refine AOps.cons rfl rfl (q_not) ?_
         refine AOps.nil ?_
         refine AWp.cond_t rfl ?_
         refine AWp.region ?_
         obtain rfl : bh = none := by simpa using h27_0
         refine AOps.cons rfl rfl (q_move) ?_
         refine AOps.cons rfl rfl (q_move) ?_
         refine AOps.cons rfl rfl (q_add) ?_
         refine AOps.cons rfl rfl (q_nil) ?_
         refine AOps.cons rfl rfl (q_fa) ?_
         refine AOps.cons rfl rfl (q_store) ?_
         refine AOps.nil ?_
         refine AWp.region ?_
         refine AOps.cons rfl rfl (q_move) ?_
         refine AOps.cons rfl rfl (q_move) ?_
         refine AOps.cons rfl rfl (q_assign) ?_
         refine AOps.cons rfl rfl (q_assign) ?_
         refine AOps.cons rfl rfl (q_assign) ?_
         refine AOps.nil ?_
         refine ⟨(toI b p, toI b p, some (p + 2), n), ?_, Back.mk' (HasT.cons (HasT.cons (HasT.cons (HasT.cons HasT.nil)))) (HasH.cons HasH.nil), ?_⟩
         ·
          try dsimp only
          exact ⟨by rw [← hE, rdN_ptr g1 hk g2 g3]; rfl, hN, by omega, by omega⟩
         ·
          try dsimp only
          have := Nat.mul_le_mul_right (b.length + 1) (show toI b p + 1 ≤ fi by omega)
          rw [Nat.succ_mul] at this
          have h9 : liB b en (some (p + 2)) = b.length := rfl
          omega
     ·
      refine AOps.cons rfl rfl (q_assign) ?_
      refine AOps.nil ?_
      refine AWp.cond_f rfl ?_
      refine AWp.seq ?_
      refine AWp.region ?_
      refine AOps.cons rfl rfl (q_move) ?_
      refine AOps.dec rfl rfl (q_geq) (fun h30_1 => ?_) (fun h30_1 => ?_)
      ·
       refine AOps.cons rfl rfl (q_assign) ?_
       refine AOps.nil ?_
       refine AWp.cond_t rfl ?_
       refine AWp.seq ?_
       refine AWp.region ?_
       refine AOps.cons rfl rfl (q_assign) ?_
       refine AOps.cons rfl rfl (q_assign) ?_
       refine AOps.nil ?_
       refine AWp.ret ?_
       show Fin te Try.f73 _ _
       have hX := hE
       rw [rdN_label g1 (by omega) (by omega)] at hX
       rw [← hX]
       refine q_retH (0) [] [_, _] [_, _] [(_, _)] ?_ (hobj := by repeat' (first | exact trivial | exact lv_ok rfl | exact lv_sl rfl rfl | exact lv_rn rfl rfl .row rfl | exact lv_ptr rfl rfl | exact lv_mp rfl rfl | exact lv_nilz | exact lv_any | exact lv_row0 rfl rfl .row (fun _ => rfl) (Nat.le_of_ble_eq_true rfl) (fun _ => rfl) | exact lobj_row (fun _ => rfl) | exact lobj_rown (fun _ => rfl) | exact lobj_me (fun _ => rfl) | refine lobj_box ?_ | refine ⟨rfl, ⟨_, rfl, ?_⟩, ?_⟩ | refine ⟨?_, ?_⟩)) (h2 := by repeat' (first | exact trivial | exact lv_ok rfl | exact lv_ptr rfl rfl | exact lv_sl rfl rfl | exact lv_nilz | exact lv_row0 rfl rfl .row (fun _ => rfl) (Nat.le_of_ble_eq_true rfl) (fun _ => rfl) | refine lv_agg ?_ | exact lv_any | refine ⟨?_, ?_⟩))
       rfl
      ·
       refine AOps.cons rfl rfl (q_assign) ?_
       refine AOps.nil ?_
       refine AWp.cond_f rfl ?_
       refine AWp.seq ?_
       refine AWp.seq ?_
       refine AWp.region ?_
       have hk0 : kB b p ≠ 0 := by omega
       have hk1 : ¬ 64 ≤ kB b p := by omega
       refine AOps.cons rfl rfl (q_move) ?_
       refine AOps.cons rfl rfl (q_add) ?_
       refine AOps.cons rfl rfl (q_move) ?_
       refine AOps.cons rfl rfl (q_add) ?_
       refine AOps.cons rfl rfl (q_move) ?_
       refine AOps.dec rfl rfl (q_gtr) (fun h9_5 => ?_) (fun h9_5 => ?_)
       ·
        refine AOps.nil ?_
        refine AWp.cond_t rfl ?_
        refine AWp.seq ?_
        refine AWp.region ?_
        refine AOps.cons rfl rfl (q_assign) ?_
        refine AOps.cons rfl rfl (q_assign) ?_
        refine AOps.nil ?_
        refine AWp.ret ?_
        show Fin te Try.f73 _ _
        have hX := hE
        rw [rdN_lshort g1 hk0 hk1 (by omega)] at hX
        rw [← hX]
        refine q_retH (0) [] [_, _] [_, _] [(_, _)] ?_ (hobj := by repeat' (first | exact trivial | exact lv_ok rfl | exact lv_sl rfl rfl | exact lv_rn rfl rfl .row rfl | exact lv_ptr rfl rfl | exact lv_mp rfl rfl | exact lv_nilz | exact lv_any | exact lv_row0 rfl rfl .row (fun _ => rfl) (Nat.le_of_ble_eq_true rfl) (fun _ => rfl) | exact lobj_row (fun _ => rfl) | exact lobj_rown (fun _ => rfl) | exact lobj_me (fun _ => rfl) | refine lobj_box ?_ | refine ⟨rfl, ⟨_, rfl, ?_⟩, ?_⟩ | refine ⟨?_, ?_⟩)) (h2 := by repeat' (first | exact trivial | exact lv_ok rfl | exact lv_ptr rfl rfl | exact lv_sl rfl rfl | exact lv_nilz | exact lv_row0 rfl rfl .row (fun _ => rfl) (Nat.le_of_ble_eq_true rfl) (fun _ => rfl) | refine lv_agg ?_ | exact lv_any | refine ⟨?_, ?_⟩))
        rfl
       ·
        refine AOps.nil ?_
        refine AWp.cond_f rfl ?_
        refine AWp.skip ?_
        refine AWp.seq ?_
        refine AWp.region ?_
        have g2 : ¬ li < p + 1 + kB b p := by omega
        refine AOps.cons rfl rfl (q_move) ?_
        refine AOps.cons rfl rfl (q_move) ?_
        refine AOps.cons rfl rfl (q_nil) ?_
        refine AOps.cons rfl rfl (q_fa) ?_
        refine AOps.cons rfl rfl (q_load) ?_
        refine AOps.cons rfl rfl (q_move) ?_
        refine AOps.cons rfl rfl (q_move) ?_
        refine AOps.cons rfl rfl (q_add) ?_
        refine AOps.cons rfl rfl (q_move) ?_
        refine AOps.cons rfl rfl (q_add) ?_
        refine AOps.cons rfl rfl (q_sl) ?_
        refine AOps.cons rfl rfl (by first | exact q_conv_zs | exact q_conv_ls) ?_
        refine AOps.cons rfl rfl (q_sadd) ?_
        refine AOps.cons rfl rfl (q_assign) ?_
        refine AOps.nil ?_
        refine AWp.seq ?_
        refine AWp.region ?_
        rw [show ((p : Int) + 1 + (kB b p : Int)).toNat = p + 1 + kB b p by omega, show ((p : Nat) : Int).toNat = p by omega]
        obtain ⟨N, hNN⟩ : ∃ N, N = n ++ (b.take (p + 1 + kB b p)).drop p := ⟨_, rfl⟩
        rw [← hNN]
        have hNl : N.length = n.length + (1 + kB b p) := by rw [hNN, List.length_append, List.length_drop, List.length_take]; omega
        refine AOps.cons rfl rfl (q_move) ?_
        refine AOps.cons rfl rfl (q_move) ?_
        refine AOps.cons rfl rfl (q_add) ?_
        refine AOps.cons rfl rfl (q_add) ?_
        refine AOps.cons rfl rfl (q_assign) ?_
        refine AOps.nil ?_
        refine AWp.seq ?_
        refine AWp.region ?_
        refine AOps.cons rfl rfl (q_move) ?_
        refine AOps.cons rfl rfl (q_len_str) ?_
        refine AOps.cons rfl rfl (q_add) ?_
        refine AOps.dec rfl rfl (q_gtr) (fun h13_3 => ?_) (fun h13_3 => ?_)
        ·
         refine AOps.nil ?_
         refine AWp.cond_t rfl ?_
         refine AWp.seq ?_
         refine AWp.region ?_
         refine AOps.cons rfl rfl (q_assign) ?_
         refine AOps.cons rfl rfl (q_assign) ?_
         refine AOps.nil ?_
         refine AWp.ret ?_
         show Fin te Try.f73 _ _
         have hX := hE
         rw [rdN_llong g1 hk0 hk1 g2 (by rw [← hNN]; omega)] at hX
         rw [← hX]
         refine q_retH (0) [] [_, _] [_, _] [(_, _)] ?_ (hobj := by repeat' (first | exact trivial | exact lv_ok rfl | exact lv_sl rfl rfl | exact lv_rn rfl rfl .row rfl | exact lv_ptr rfl rfl | exact lv_mp rfl rfl | exact lv_nilz | exact lv_any | exact lv_row0 rfl rfl .row (fun _ => rfl) (Nat.le_of_ble_eq_true rfl) (fun _ => rfl) | exact lobj_row (fun _ => rfl) | exact lobj_rown (fun _ => rfl) | exact lobj_me (fun _ => rfl) | refine lobj_box ?_ | refine ⟨rfl, ⟨_, rfl, ?_⟩, ?_⟩ | refine ⟨?_, ?_⟩)) (h2 := by repeat' (first | exact trivial | exact lv_ok rfl | exact lv_ptr rfl rfl | exact lv_sl rfl rfl | exact lv_nilz | exact lv_row0 rfl rfl .row (fun _ => rfl) (Nat.le_of_ble_eq_true rfl) (fun _ => rfl) | refine lv_agg ?_ | exact lv_any | refine ⟨?_, ?_⟩))
         rfl
        ·
         refine AOps.nil ?_
         refine AWp.cond_f rfl ?_
         refine AWp.skip ?_
         refine ⟨(p + 1 + kB b p, fi, bh, N), ?_, Back.mk' (HasT.cons (HasT.cons (HasT.cons (HasT.cons HasT.nil))) (h1 := by exact i64_eq (by omega)) ) (HasH.cons HasH.nil), ?_⟩
         ·
          try dsimp only
          exact ⟨by rw [← hli0, ← hE, rdN_lab g1 hk0 hk1 g2 (by rw [← hNN]; omega), ← hNN], by omega, by omega, hF⟩
         ·
          try dsimp only
          rw [← hli0]; omega
  ·
   refine AOps.nil ?_
   refine AWp.cond_f rfl ?_
   refine AWp.skip ?_
   refine AWp.seq ?_
   refine AWp.seq ?_
   refine AWp.region ?_
   have hli : liB b en bh = en := by rw [liB, if_neg (by simp [h4_0])]
   have hL : li ≤ b.length := by omega
   have hle : en = li := by omega
   refine AOps.cons rfl rfl (q_move) ?_
   refine AOps.cons rfl rfl (q_move) ?_
   refine AOps.dec rfl rfl (q_geq) (fun h6_2 => ?_) (fun h6_2 => ?_)
   ·
    refine AOps.nil ?_
    refine AWp.cond_t rfl ?_
    refine AWp.seq ?_
    refine AWp.region ?_
    refine AOps.cons rfl rfl (q_assign) ?_
    refine AOps.cons rfl rfl (q_assign) ?_
    refine AOps.nil ?_
    refine AWp.ret ?_
    show Fin te Try.f73 _ _
    have hX := hE
    rw [rdN_short (by omega)] at hX
    rw [← hX]
    refine q_retH (0) [] [_, _] [_, _] [(_, _)] ?_ (hobj := by repeat' (first | exact trivial | exact lv_ok rfl | exact lv_sl rfl rfl | exact lv_rn rfl rfl .row rfl | exact lv_ptr rfl rfl | exact lv_mp rfl rfl | exact lv_nilz | exact lv_any | exact lv_row0 rfl rfl .row (fun _ => rfl) (Nat.le_of_ble_eq_true rfl) (fun _ => rfl) | exact lobj_row (fun _ => rfl) | exact lobj_rown (fun _ => rfl) | exact lobj_me (fun _ => rfl) | refine lobj_box ?_ | refine ⟨rfl, ⟨_, rfl, ?_⟩, ?_⟩ | refine ⟨?_, ?_⟩)) (h2 := by repeat' (first | exact trivial | exact lv_ok rfl | exact lv_ptr rfl rfl | exact lv_sl rfl rfl | exact lv_nilz | exact lv_row0 rfl rfl .row (fun _ => rfl) (Nat.le_of_ble_eq_true rfl) (fun _ => rfl) | refine lv_agg ?_ | exact lv_any | refine ⟨?_, ?_⟩))
    rfl
   ·
    refine AOps.nil ?_
    refine AWp.cond_f rfl ?_
    refine AWp.skip ?_
    refine AWp.seq ?_
    refine AWp.region ?_
    have g1 : ¬ li ≤ p := by omega
    refine AOps.cons rfl rfl (q_move) ?_
    refine AOps.cons rfl rfl (q_nil) ?_
    refine AOps.cons rfl rfl (q_fa) ?_
    refine AOps.cons rfl rfl (q_load) ?_
    refine AOps.cons rfl rfl (q_move) ?_
    refine AOps.cons rfl rfl (q_ix) ?_
    refine AOps.cons rfl rfl (q_load) ?_
    refine AOps.cons rfl rfl (q_conv_8i) ?_
    refine AOps.cons rfl rfl (q_assign) ?_
    refine AOps.nil ?_
    refine AWp.block ?_
    refine AWp.seq ?_
    refine AWp.region ?_
    rw [show (b.getD ((p : Nat) : Int).toNat default).toNat = kB b p from rfl]
    refine AOps.cons rfl rfl (q_move) ?_
    refine AOps.dec rfl rfl (q_eql) (fun h15_1 => ?_) (fun h15_1 => ?_)
    ·
     refine AOps.cons rfl rfl (q_assign) ?_
     refine AOps.nil ?_
     refine AWp.cond_t rfl ?_
     refine AWp.seq ?_
     refine AWp.seq ?_
     refine AWp.region ?_
     have hk0 : kB b p = 0 := by omega
     refine AOps.bool rfl rfl (q_move) (fun h16_0 => ?_) (fun h16_0 => ?_)
     ·
      refine AOps.cons rfl rfl (q_not) ?_
      refine AOps.nil ?_
      refine AWp.cond_f rfl ?_
      refine AWp.skip ?_
      refine AWp.seq ?_
      refine AWp.seq ?_
      refine AWp.region ?_
      obtain ⟨a, rfl⟩ := Option.isSome_iff_exists.1 h16_0
      refine AOps.cons rfl rfl (q_move) ?_
      refine AOps.cons rfl rfl (q_len_str) ?_
      refine AOps.cons rfl rfl (q_add) ?_
      refine AOps.dec rfl rfl (q_gtr) (fun h18_3 => ?_) (fun h18_3 => ?_)
      ·
       refine AOps.nil ?_
       refine AWp.cond_t rfl ?_
       refine AWp.seq ?_
       refine AWp.region ?_
       refine AOps.cons rfl rfl (q_assign) ?_
       refine AOps.cons rfl rfl (q_assign) ?_
       refine AOps.nil ?_
       refine AWp.ret ?_
       show Fin te Try.f73 _ _
       have hX := hE
       rw [rdN_long0 g1 hk0 (by omega)] at hX
       rw [← hX]
       refine q_retH (0) [] [_, _] [_, _] [(_, _)] ?_ (hobj := by repeat' (first | exact trivial | exact lv_ok rfl | exact lv_sl rfl rfl | exact lv_rn rfl rfl .row rfl | exact lv_ptr rfl rfl | exact lv_mp rfl rfl | exact lv_nilz | exact lv_any | exact lv_row0 rfl rfl .row (fun _ => rfl) (Nat.le_of_ble_eq_true rfl) (fun _ => rfl) | exact lobj_row (fun _ => rfl) | exact lobj_rown (fun _ => rfl) | exact lobj_me (fun _ => rfl) | refine lobj_box ?_ | refine ⟨rfl, ⟨_, rfl, ?_⟩, ?_⟩ | refine ⟨?_, ?_⟩)) (h2 := by repeat' (first | exact trivial | exact lv_ok rfl | exact lv_ptr rfl rfl | exact lv_sl rfl rfl | exact lv_nilz | exact lv_row0 rfl rfl .row (fun _ => rfl) (Nat.le_of_ble_eq_true rfl) (fun _ => rfl) | refine lv_agg ?_ | exact lv_any | refine ⟨?_, ?_⟩))
       rfl
      ·
       refine AOps.nil ?_
       refine AWp.cond_f rfl ?_
       refine AWp.skip ?_
       refine AWp.seq ?_
       refine AWp.region ?_
       refine AOps.cons rfl rfl (q_move) ?_
       refine AOps.cons rfl rfl (q_sadd) ?_
       refine AOps.cons rfl rfl (q_assign) ?_
       refine AOps.cons rfl rfl (q_assign) ?_
       refine AOps.nil ?_
       refine AWp.ret ?_
       show Fin te Try.f73 _ _
       have hX := hE
       rw [rdN_end g1 hk0 hN] at hX
       rw [← hX]
       refine q_retH (0) [] [_, _] [_, _] [(_, _)] ?_ (hobj := by repeat' (first | exact trivial | exact lv_ok rfl | exact lv_sl rfl rfl | exact lv_rn rfl rfl .row rfl | exact lv_ptr rfl rfl | exact lv_mp rfl rfl | exact lv_nilz | exact lv_any | exact lv_row0 rfl rfl .row (fun _ => rfl) (Nat.le_of_ble_eq_true rfl) (fun _ => rfl) | exact lobj_row (fun _ => rfl) | exact lobj_rown (fun _ => rfl) | exact lobj_me (fun _ => rfl) | refine lobj_box ?_ | refine ⟨rfl, ⟨_, rfl, ?_⟩, ?_⟩ | refine ⟨?_, ?_⟩)) (h2 := by repeat' (first | exact trivial | exact lv_ok rfl | exact lv_ptr rfl rfl | exact lv_sl rfl rfl | exact lv_nilz | exact lv_row0 rfl rfl .row (fun _ => rfl) (Nat.le_of_ble_eq_true rfl) (fun _ => rfl) | refine lv_agg ?_ | exact lv_any | refine ⟨?_, ?_⟩))
       rfl
     ·
      refine AOps.cons rfl rfl (q_not) ?_
      refine AOps.nil ?_
      refine AWp.cond_t rfl ?_
      refine AWp.region ?_
      obtain rfl : bh = none := by simpa using h16_0
      refine AOps.cons rfl rfl (q_move) ?_
      refine AOps.cons rfl rfl (q_move) ?_
      refine AOps.cons rfl rfl (q_add) ?_
      refine AOps.cons rfl rfl (q_nil) ?_
      refine AOps.cons rfl rfl (q_fa) ?_
      refine AOps.cons rfl rfl (q_store) ?_
      refine AOps.nil ?_
      refine AWp.seq ?_
      refine AWp.seq ?_
      refine AWp.region ?_
      refine AOps.cons rfl rfl (q_move) ?_
      refine AOps.cons rfl rfl (q_len_str) ?_
      refine AOps.cons rfl rfl (q_add) ?_
      refine AOps.dec rfl rfl (q_gtr) (fun h18_3 => ?_) (fun h18_3 => ?_)
      ·
       refine AOps.nil ?_
       refine AWp.cond_t rfl ?_
       refine AWp.seq ?_
       refine AWp.region ?_
       refine AOps.cons rfl rfl (q_assign) ?_
       refine AOps.cons rfl rfl (q_assign) ?_
       refine AOps.nil ?_
       refine AWp.ret ?_
       show Fin te Try.f73 _ _
       have hX := hE
       rw [rdN_long0 g1 hk0 (by omega)] at hX
       rw [← hX]
       refine q_retH (0) [] [_, _] [_, _] [(_, _)] ?_ (hobj := by repeat' (first | exact trivial | exact lv_ok rfl | exact lv_sl rfl rfl | exact lv_rn rfl rfl .row rfl | exact lv_ptr rfl rfl | exact lv_mp rfl rfl | exact lv_nilz | exact lv_any | exact lv_row0 rfl rfl .row (fun _ => rfl) (Nat.le_of_ble_eq_true rfl) (fun _ => rfl) | exact lobj_row (fun _ => rfl) | exact lobj_rown (fun _ => rfl) | exact lobj_me (fun _ => rfl) | refine lobj_box ?_ | refine ⟨rfl, ⟨_, rfl, ?_⟩, ?_⟩ | refine ⟨?_, ?_⟩)) (h2 := by repeat' (first | exact trivial | exact lv_ok rfl | exact lv_ptr rfl rfl | exact lv_sl rfl rfl | exact lv_nilz | exact lv_row0 rfl rfl .row (fun _ => rfl) (Nat.le_of_ble_eq_true rfl) (fun _ => rfl) | refine lv_agg ?_ | exact lv_any | refine ⟨?_, ?_⟩))
       rfl
      ·
       refine AOps.nil ?_
       refine AWp.cond_f rfl ?_
       refine AWp.skip ?_
       refine AWp.seq ?_
       refine AWp.region ?_
       refine AOps.cons rfl rfl (q_move) ?_
       refine AOps.cons rfl rfl (q_sadd) ?_
       refine AOps.cons rfl rfl (q_assign) ?_
       refine AOps.cons rfl rfl (q_assign) ?_
       refine AOps.nil ?_
       refine AWp.ret ?_
       show Fin te Try.f73 _ _
       have hX := hE
       rw [rdN_end g1 hk0 hN] at hX
       rw [← hX]
       refine q_retH (0) [] [_, _] [_, _] [(_, _)] ?_ (hobj := by repeat' (first | exact trivial | exact lv_ok rfl | exact lv_sl rfl rfl | exact lv_rn rfl rfl .row rfl | exact lv_ptr rfl rfl | exact lv_mp rfl rfl | exact lv_nilz | exact lv_any | exact lv_row0 rfl rfl .row (fun _ => rfl) (Nat.le_of_ble_eq_true rfl) (fun _ => rfl) | exact lobj_row (fun _ => rfl) | exact lobj_rown (fun _ => rfl) | exact lobj_me (fun _ => rfl) | refine lobj_box ?_ | refine ⟨rfl, ⟨_, rfl, ?_⟩, ?_⟩ | refine ⟨?_, ?_⟩)) (h2 := by repeat' (first | exact trivial | exact lv_ok rfl | exact lv_ptr rfl rfl | exact lv_sl rfl rfl | exact lv_nilz | exact lv_row0 rfl rfl .row (fun _ => rfl) (Nat.le_of_ble_eq_true rfl) (fun _ => rfl) | refine lv_agg ?_ | exact lv_any | refine ⟨?_, ?_⟩))
       rfl
    ·
     refine AOps.cons rfl rfl (q_assign) ?_
     refine AOps.nil ?_
     refine AWp.cond_f rfl ?_
     refine AWp.seq ?_
     refine AWp.region ?_
     refine AOps.cons rfl rfl (q_move) ?_
     refine AOps.dec rfl rfl (q_geq) (fun h21_1 => ?_) (fun h21_1 => ?_)
     ·
      refine AOps.cons rfl rfl (q_assign) ?_
      refine AOps.nil ?_
      refine AWp.cond_t rfl ?_
      refine AWp.seq ?_
      refine AWp.seq ?_
      refine AWp.region ?_
      have hk : 192 ≤ kB b p := by omega
      refine AOps.cons rfl rfl (q_move) ?_
      refine AOps.cons rfl rfl (q_add) ?_
      refine AOps.cons rfl rfl (q_move) ?_
      refine AOps.dec rfl rfl (q_geq) (fun h22_3 => ?_) (fun h22_3 => ?_)
      ·
       refine AOps.nil ?_
       refine AWp.cond_t rfl ?_
       refine AWp.seq ?_
       refine AWp.region ?_
       refine AOps.cons rfl rfl (q_assign) ?_
       refine AOps.cons rfl rfl (q_assign) ?_
       refine AOps.nil ?_
       refine AWp.ret ?_
       show Fin te Try.f73 _ _
       have hX := hE
       rw [rdN_pshort g1 hk (by omega)] at hX
       rw [← hX]
       refine q_retH (0) [] [_, _] [_, _] [(_, _)] ?_ (hobj := by repeat' (first | exact trivial | exact lv_ok rfl | exact lv_sl rfl rfl | exact lv_rn rfl rfl .row rfl | exact lv_ptr rfl rfl | exact lv_mp rfl rfl | exact lv_nilz | exact lv_any | exact lv_row0 rfl rfl .row (fun _ => rfl) (Nat.le_of_ble_eq_true rfl) (fun _ => rfl) | exact lobj_row (fun _ => rfl) | exact lobj_rown (fun _ => rfl) | exact lobj_me (fun _ => rfl) | refine lobj_box ?_ | refine ⟨rfl, ⟨_, rfl, ?_⟩, ?_⟩ | refine ⟨?_, ?_⟩)) (h2 := by repeat' (first | exact trivial | exact lv_ok rfl | exact lv_ptr rfl rfl | exact lv_sl rfl rfl | exact lv_nilz | exact lv_row0 rfl rfl .row (fun _ => rfl) (Nat.le_of_ble_eq_true rfl) (fun _ => rfl) | refine lv_agg ?_ | exact lv_any | refine ⟨?_, ?_⟩))
       rfl
      ·
       refine AOps.nil ?_
       refine AWp.cond_f rfl ?_
       refine AWp.skip ?_
       refine AWp.seq ?_
       refine AWp.region ?_
       have g2 : ¬ li ≤ p + 1 := by omega
       have hq1 := (b.getD ((p : Int) + 1).toNat default).toNat_lt
       refine AOps.cons rfl rfl (q_move) ?_
       refine AOps.cons rfl rfl (q_sub) ?_
       refine AOps.cons rfl rfl (q_mul) ?_
       refine AOps.cons rfl rfl (q_move) ?_
       refine AOps.cons rfl rfl (q_nil) ?_
       refine AOps.cons rfl rfl (q_fa) ?_
       refine AOps.cons rfl rfl (q_load) ?_
       refine AOps.cons rfl rfl (q_move) ?_
       refine AOps.cons rfl rfl (q_add) ?_
       refine AOps.cons rfl rfl (q_ix) ?_
       refine AOps.cons rfl rfl (q_load) ?_
       refine AOps.cons rfl rfl (q_conv_8i) ?_
       refine AOps.cons rfl rfl (q_add) ?_
       refine AOps.cons rfl rfl (q_assign) ?_
       refine AOps.nil ?_
       refine AWp.seq ?_
       refine AWp.seq ?_
       refine AWp.region ?_
       rw [show ((kB b p : Nat) : Int) - 192 = ((kB b p - 192 : Nat) : Int) by omega, show (((kB b p - 192 : Nat) : Int) * 256 + ((b.getD ((p : Int) + 1).toNat default).toNat : Int)) = (toI b p : Int) by
         have e1 : kB b (p + 1) = (b.getD ((p : Int) + 1).toNat default).toNat := rfl
         unfold toI; omega]
       refine AOps.cons rfl rfl (q_move) ?_
       refine AOps.cons rfl rfl (q_move) ?_
       refine AOps.dec rfl rfl (q_geq) (fun h25_2 => ?_) (fun h25_2 => ?_)
       ·
        refine AOps.nil ?_
        refine AWp.cond_t rfl ?_
        refine AWp.seq ?_
        refine AWp.region ?_
        refine AOps.cons rfl rfl (q_assign) ?_
        refine AOps.cons rfl rfl (q_assign) ?_
        refine AOps.nil ?_
        refine AWp.ret ?_
        show Fin te Try.f73 _ _
        have hX := hE
        rw [rdN_pbad g1 hk g2 (by omega)] at hX
        rw [← hX]
        refine q_retH (0) [] [_, _] [_, _] [(_, _)] ?_ (hobj := by repeat' (first | exact trivial | exact lv_ok rfl | exact lv_sl rfl rfl | exact lv_rn rfl rfl .row rfl | exact lv_ptr rfl rfl | exact lv_mp rfl rfl | exact lv_nilz | exact lv_any | exact lv_row0 rfl rfl .row (fun _ => rfl) (Nat.le_of_ble_eq_true rfl) (fun _ => rfl) | exact lobj_row (fun _ => rfl) | exact lobj_rown (fun _ => rfl) | exact lobj_me (fun _ => rfl) | refine lobj_box ?_ | refine ⟨rfl, ⟨_, rfl, ?_⟩, ?_⟩ | refine ⟨?_, ?_⟩)) (h2 := by repeat' (first | exact trivial | exact lv_ok rfl | exact lv_ptr rfl rfl | exact lv_sl rfl rfl | exact lv_nilz | exact lv_row0 rfl rfl .row (fun _ => rfl) (Nat.le_of_ble_eq_true rfl) (fun _ => rfl) | refine lv_agg ?_ | exact lv_any | refine ⟨?_, ?_⟩))
        rfl
       ·
        refine AOps.nil ?_
        refine AWp.cond_f rfl ?_
        refine AWp.skip ?_
        refine AWp.seq ?_
        refine AWp.seq ?_
        refine AWp.region ?_
        have g3 : toI b p < fi := by omega
        refine AOps.bool rfl rfl (q_move) (fun h27_0 => ?_) (fun h27_0 => ?_)
        ·
         refine AOps.cons rfl rfl (q_not) ?_
         refine AOps.nil ?_
         refine AWp.cond_f rfl ?_
         refine AWp.skip ?_
         refine AWp.region ?_
         obtain ⟨a, rfl⟩ := Option.isSome_iff_exists.1 h27_0
         refine AOps.cons rfl rfl (q_move) ?_
         refine AOps.cons rfl rfl (q_move) ?_
         refine AOps.cons rfl rfl (q_assign) ?_
         refine AOps.cons rfl rfl (q_assign) ?_
         refine AOps.cons rfl rfl (q_assign) ?_
         refine AOps.nil ?_
         refine ⟨(toI b p, toI b p, some a, n), ?_, Back.mk' (HasT.cons (HasT.cons (HasT.cons (HasT.cons HasT.nil)))) (HasH.cons HasH.nil), ?_⟩
         ·
          try dsimp only
          exact ⟨by rw [← hE, rdN_ptr g1 hk g2 g3]; rfl, hN, by omega, by omega⟩
         ·
          try dsimp only
          have := Nat.mul_le_mul_right (b.length + 1) (show toI b p + 1 ≤ fi by omega)
          rw [Nat.succ_mul] at this
          have h9 : liB b en (some a) = b.length := rfl
          omega
        ·
         refine AOps.cons rfl rfl (q_not) ?_
         refine AOps.nil ?_
         refine AWp.cond_t rfl ?_
         refine AWp.region ?_
         obtain rfl : bh = none := by simpa using h27_0
         refine AOps.cons rfl rfl (q_move) ?_
         refine AOps.cons rfl rfl (q_move) ?_
         refine AOps.cons rfl rfl (q_add) ?_
         refine AOps.cons rfl rfl (q_nil) ?_
         refine AOps.cons rfl rfl (q_fa) ?_
         refine AOps.cons rfl rfl (q_store) ?_
         refine AOps.nil ?_
         refine AWp.region ?_
         refine AOps.cons rfl rfl (q_move) ?_
         refine AOps.cons rfl rfl (q_move) ?_
         refine AOps.cons rfl rfl (q_assign) ?_
         refine AOps.cons rfl rfl (q_assign) ?_
         refine AOps.cons rfl rfl (q_assign) ?_
         refine AOps.nil ?_
         refine ⟨(toI b p, toI b p, some (p + 2), n), ?_, Back.mk' (HasT.cons (HasT.cons (HasT.cons (HasT.cons HasT.nil)))) (HasH.cons HasH.nil), ?_⟩
         ·
          try dsimp only
          exact ⟨by rw [← hE, rdN_ptr g1 hk g2 g3]; rfl, hN, by omega, by omega⟩
         ·
          try dsimp only
          have := Nat.mul_le_mul_right (b.length + 1) (show toI b p + 1 ≤ fi by omega)
          rw [Nat.succ_mul] at this
          have h9 : liB b en (some (p + 2)) = b.length := rfl
          omega
     ·
      refine AOps.cons rfl rfl (q_assign) ?_
      refine AOps.nil ?_
      refine AWp.cond_f rfl ?_
      refine AWp.seq ?_
      refine AWp.region ?_
      refine AOps.cons rfl rfl (q_move) ?_
      refine AOps.dec rfl rfl (q_geq) (fun h30_1 => ?_) (fun h30_1 => ?_)
      ·
       refine AOps.cons rfl rfl (q_assign) ?_
       refine AOps.nil ?_
       refine AWp.cond_t rfl ?_
       refine AWp.seq ?_
       refine AWp.region ?_
       refine AOps.cons rfl rfl (q_assign) ?_
       refine AOps.cons rfl rfl (q_assign) ?_
       refine AOps.nil ?_
       refine AWp.ret ?_
       show Fin te Try.f73 _ _
       have hX := hE
       rw [rdN_label g1 (by omega) (by omega)] at hX
       rw [← hX]
       refine q_retH (0) [] [_, _] [_, _] [(_, _)] ?_ (hobj := by repeat' (first | exact trivial | exact lv_ok rfl | exact lv_sl rfl rfl | exact lv_rn rfl rfl .row rfl | exact lv_ptr rfl rfl | exact lv_mp rfl rfl | exact lv_nilz | exact lv_any | exact lv_row0 rfl rfl .row (fun _ => rfl) (Nat.le_of_ble_eq_true rfl) (fun _ => rfl) | exact lobj_row (fun _ => rfl) | exact lobj_rown (fun _ => rfl) | exact lobj_me (fun _ => rfl) | refine lobj_box ?_ | refine ⟨rfl, ⟨_, rfl, ?_⟩, ?_⟩ | refine ⟨?_, ?_⟩)) (h2 := by repeat' (first | exact trivial | exact lv_ok rfl | exact lv_ptr rfl rfl | exact lv_sl rfl rfl | exact lv_nilz | exact lv_row0 rfl rfl .row (fun _ => rfl) (Nat.le_of_ble_eq_true rfl) (fun _ => rfl) | refine lv_agg ?_ | exact lv_any | refine ⟨?_, ?_⟩))
       rfl
      ·
       refine AOps.cons rfl rfl (q_assign) ?_
       refine AOps.nil ?_
       refine AWp.cond_f rfl ?_
       refine AWp.seq ?_
       refine AWp.seq ?_
       refine AWp.region ?_
       have hk0 : kB b p ≠ 0 := by omega
       have hk1 : ¬ 64 ≤ kB b p := by omega
       refine AOps.cons rfl rfl (q_move) ?_
       refine AOps.cons rfl rfl (q_add) ?_
       refine AOps.cons rfl rfl (q_move) ?_
       refine AOps.cons rfl rfl (q_add) ?_
       refine AOps.cons rfl rfl (q_move) ?_
       refine AOps.dec rfl rfl (q_gtr) (fun h9_5 => ?_) (fun h9_5 => ?_)
       ·
        refine AOps.nil ?_
        refine AWp.cond_t rfl ?_
        refine AWp.seq ?_
        refine AWp.region ?_
        refine AOps.cons rfl rfl (q_assign) ?_
        refine AOps.cons rfl rfl (q_assign) ?_
        refine AOps.nil ?_
        refine AWp.ret ?_
        show Fin te Try.f73 _ _
        have hX := hE
        rw [rdN_lshort g1 hk0 hk1 (by omega)] at hX
        rw [← hX]
        refine q_retH (0) [] [_, _] [_, _] [(_, _)] ?_ (hobj := by repeat' (first | exact trivial | exact lv_ok rfl | exact lv_sl rfl rfl | exact lv_rn rfl rfl .row rfl | exact lv_ptr rfl rfl | exact lv_mp rfl rfl | exact lv_nilz | exact lv_any | exact lv_row0 rfl rfl .row (fun _ => rfl) (Nat.le_of_ble_eq_true rfl) (fun _ => rfl) | exact lobj_row (fun _ => rfl) | exact lobj_rown (fun _ => rfl) | exact lobj_me (fun _ => rfl) | refine lobj_box ?_ | refine ⟨rfl, ⟨_, rfl, ?_⟩, ?_⟩ | refine ⟨?_, ?_⟩)) (h2 := by repeat' (first | exact trivial | exact lv_ok rfl | exact lv_ptr rfl rfl | exact lv_sl rfl rfl | exact lv_nilz | exact lv_row0 rfl rfl .row (fun _ => rfl) (Nat.le_of_ble_eq_true rfl) (fun _ => rfl) | refine lv_agg ?_ | exact lv_any | refine ⟨?_, ?_⟩))
        rfl
       ·
        refine AOps.nil ?_
        refine AWp.cond_f rfl ?_
        refine AWp.skip ?_
        refine AWp.seq ?_
        refine AWp.region ?_
        have g2 : ¬ li < p + 1 + kB b p := by omega
        refine AOps.cons rfl rfl (q_move) ?_
        refine AOps.cons rfl rfl (q_move) ?_
        refine AOps.cons rfl rfl (q_nil) ?_
        refine AOps.cons rfl rfl (q_fa) ?_
        refine AOps.cons rfl rfl (q_load) ?_
        refine AOps.cons rfl rfl (q_move) ?_
        refine AOps.cons rfl rfl (q_move) ?_
        refine AOps.cons rfl rfl (q_add) ?_
        refine AOps.cons rfl rfl (q_move) ?_
        refine AOps.cons rfl rfl (q_add) ?_
        refine AOps.cons rfl rfl (q_sl) ?_
        refine AOps.cons rfl rfl (by first | exact q_conv_zs | exact q_conv_ls) ?_
        refine AOps.cons rfl rfl (q_sadd) ?_
        refine AOps.cons rfl rfl (q_assign) ?_
        refine AOps.nil ?_
        refine AWp.seq ?_
        refine AWp.region ?_
        rw [show ((p : Int) + 1 + (kB b p : Int)).toNat = p + 1 + kB b p by omega, show ((p : Nat) : Int).toNat = p by omega]
        obtain ⟨N, hNN⟩ : ∃ N, N = n ++ (b.take (p + 1 + kB b p)).drop p := ⟨_, rfl⟩
        rw [← hNN]
        have hNl : N.length = n.length + (1 + kB b p) := by rw [hNN, List.length_append, List.length_drop, List.length_take]; omega
        refine AOps.cons rfl rfl (q_move) ?_
        refine AOps.cons rfl rfl (q_move) ?_
        refine AOps.cons rfl rfl (q_add) ?_
        refine AOps.cons rfl rfl (q_add) ?_
        refine AOps.cons rfl rfl (q_assign) ?_
        refine AOps.nil ?_
        refine AWp.seq ?_
        refine AWp.region ?_
        refine AOps.cons rfl rfl (q_move) ?_
        refine AOps.cons rfl rfl (q_len_str) ?_
        refine AOps.cons rfl rfl (q_add) ?_
        refine AOps.dec rfl rfl (q_gtr) (fun h13_3 => ?_) (fun h13_3 => ?_)
        ·
         refine AOps.nil ?_
         refine AWp.cond_t rfl ?_
         refine AWp.seq ?_
         refine AWp.region ?_
         refine AOps.cons rfl rfl (q_assign) ?_
         refine AOps.cons rfl rfl (q_assign) ?_
         refine AOps.nil ?_
         refine AWp.ret ?_
         show Fin te Try.f73 _ _
         have hX := hE
         rw [rdN_llong g1 hk0 hk1 g2 (by rw [← hNN]; omega)] at hX
         rw [← hX]
         refine q_retH (0) [] [_, _] [_, _] [(_, _)] ?_ (hobj := by repeat' (first | exact trivial | exact lv_ok rfl | exact lv_sl rfl rfl | exact lv_rn rfl rfl .row rfl | exact lv_ptr rfl rfl | exact lv_mp rfl rfl | exact lv_nilz | exact lv_any | exact lv_row0 rfl rfl .row (fun _ => rfl) (Nat.le_of_ble_eq_true rfl) (fun _ => rfl) | exact lobj_row (fun _ => rfl) | exact lobj_rown (fun _ => rfl) | exact lobj_me (fun _ => rfl) | refine lobj_box ?_ | refine ⟨rfl, ⟨_, rfl, ?_⟩, ?_⟩ | refine ⟨?_, ?_⟩)) (h2 := by repeat' (first | exact trivial | exact lv_ok rfl | exact lv_ptr rfl rfl | exact lv_sl rfl rfl | exact lv_nilz | exact lv_row0 rfl rfl .row (fun _ => rfl) (Nat.le_of_ble_eq_true rfl) (fun _ => rfl) | refine lv_agg ?_ | exact lv_any | refine ⟨?_, ?_⟩))
         rfl
        ·
         refine AOps.nil ?_
         refine AWp.cond_f rfl ?_
         refine AWp.skip ?_
         refine ⟨(p + 1 + kB b p, fi, bh, N), ?_, Back.mk' (HasT.cons (HasT.cons (HasT.cons (HasT.cons HasT.nil))) (h1 := by exact i64_eq (by omega)) ) (HasH.cons HasH.nil), ?_⟩
         ·
          try dsimp only
          exact ⟨by rw [← hli0, ← hE, rdN_lab g1 hk0 hk1 g2 (by rw [← hNN]; omega), ← hNN], by omega, by omega, hF⟩
         ·
          try dsimp only
          rw [← hli0]; omega
end Go.Proofs.Ytkfccjbihcbmiaa.Fw


set_option linter.unusedVariables false
set_option linter.unusedSimpArgs false
namespace Go.Proofs.Ytkfccjbihcbmiaa.Fw
open Go.RowKit
section
variable {b : List UInt8} {p0 en : Nat}
theorem c_rrname_ok {a : List UInt8 × Nat} (hb : b.length ≤ 65535) (he : en ≤ b.length) (hp : p0 ≤ 100000) (h : rdN b 20 p0 p0 en none [] = .ok a) : AC Try.prog 73 [.ptr 0 0 0, i64 en] (hlook [(0, .box [.fz 0 b.length (cl bc b), i64 p0])]) (RetH (.tup [str a.1, i64 0]) [(0, .box [.fz 0 b.length (cl bc b), i64 a.2])]) := by
  have := c_rrdname b p0 en hb he hp
  rw [h] at this
  exact this
theorem c_rrname_er {e : Int} (hb : b.length ≤ 65535) (he : en ≤ b.length) (hp : p0 ≤ 100000) (h : rdN b 20 p0 p0 en none [] = .error e) : AC Try.prog 73 [.ptr 0 0 0, i64 en] (hlook [(0, .box [.fz 0 b.length (cl bc b), i64 p0])]) (RetH (.tup [str [], i64 e]) [(0, .box [.fz 0 b.length (cl bc b), .any])]) := by
  have := c_rrdname b p0 en hb he hp
  rw [h] at this
  exact this
end
def shE (r : Except Int (List UInt8 × Nat)) : Except Int (List UInt8 × Nat) := match r with
  | .error e => .error (if e = 20 then 30 else e)
  | .ok a => .ok a
theorem rdN_sh {b : List UInt8} : ∀ (p fi li : Nat) (bh : Option Nat) (n : List UInt8), rdN b 30 p fi li bh n = shE (rdN b 20 p fi li bh n) := by
  intro p fi li bh n
  induction p, fi, li, bh, n using rdN.induct b with
  | case1 p fi li bh n h => rw [rdN_short h, rdN_short h]; rfl
  | case2 p fi li bh n h h1 h2 => rw [rdN_end h h1 h2, rdN_end h h1 h2]; rfl
  | case3 p fi li bh n h h1 h2 => rw [rdN_long0 h h1 h2, rdN_long0 h h1 h2]; rfl
  | case4 p fi li bh n h h1 h2 h3 => rw [rdN_pshort h h2 h3, rdN_pshort h h2 h3]; rfl
  | case5 p fi li bh n h h1 h2 h3 h4 ih => rw [rdN_ptr h h2 h3 h4, rdN_ptr h h2 h3 h4]; exact ih
  | case6 p fi li bh n h h1 h2 h3 h4 => rw [rdN_pbad h h2 h3 h4, rdN_pbad h h2 h3 h4]; rfl
  | case7 p fi li bh n h h1 h2 h3 => rw [rdN_label h h3 h2, rdN_label h h3 h2]; rfl
  | case8 p fi li bh n h h1 h2 h3 h4 => rw [rdN_lshort h h1 h3 h4, rdN_lshort h h1 h3 h4]; rfl
  | case9 p fi li bh n h h1 h2 h3 h4 h5 ih => rw [rdN_lab h h1 h3 h4 h5, rdN_lab h h1 h3 h4 h5]; exact ih
  | case10 p fi li bh n h h1 h2 h3 h4 h5 => rw [rdN_llong h h1 h3 h4 h5, rdN_llong h h1 h3 h4 h5]; rfl
theorem bN_get {b : List UInt8} {p w i : Nat} (h : i < w) : ((b.take (p + w)).drop p).getD i default = b.getD (p + i) default := by
  simp only [List.getD_eq_getElem?_getD, List.getElem?_drop, List.getElem?_take]
  rw [if_pos (by omega)]
def preN (t : Int) : Nat := if t = 15 then 2 else 0
set_option maxRecDepth 20000 in
set_option maxHeartbeats 2000000 in
theorem c_rrnum_ok (b : List UInt8) (p0 w : Nat) (hb : b.length ≤ 65535) (hp : p0 ≤ 200000) (hw : w ≤ 4) (h : p0 + w ≤ b.length) : AC Try.prog 74 [.ptr 0 0 0, i64 w] (hlook [(0, .box [.fz 0 b.length (cl bc b), i64 p0])]) (RetH (.tup [i64 (bN b p0 w), tf true]) [(0, .box [.fz 0 b.length (cl bc b), i64 ((p0 + w : Nat) : Int)])]) := by
 refine AC.intro te_ok (fn := Try.f74) ⟨Try.func74, rfl, rfl⟩ (Nat.le_of_ble_eq_true rfl) ?_
 refine AWp.seq ?_
 refine AWp.region ?_
 refine AOps.cons rfl rfl (q_assign) ?_
 refine AOps.cons rfl rfl (q_assign) ?_
 refine AOps.nil ?_
 refine AWp.seq ?_
 refine AWp.seq ?_
 refine AWp.draws [⟨0, [0], [], some 7, _, none⟩,
     ⟨1, [7], [0], some 8, _, none⟩,
     ⟨2, [8], [0], some 9, _, none⟩,
     ⟨3, [9], [0], some 10, _, none⟩,
     ⟨4, [10], [], some 11, _, none⟩,
     ⟨5, [0], [], some 12, _, none⟩,
     ⟨6, [12], [0], some 13, _, none⟩,
     ⟨7, [13], [0], some 14, _, none⟩,
     ⟨8, [14], [0], some 15, _, none⟩,
     ⟨9, [11, 15], [], some 16, _, none⟩,
     ⟨10, [1], [], some 17, _, none⟩,
     ⟨11, [16, 17], [], some 18, _, none⟩]
  [⟨0, [0], [], some 7, .any, none⟩,
      ⟨1, [7], [0], some 8, .any, none⟩,
      ⟨2, [8], [0], some 9, .any, none⟩,
      ⟨3, [9], [0], some 10, .any, none⟩,
      ⟨4, [10], [], some 11, .any, none⟩,
      ⟨5, [0], [], some 12, .any, none⟩,
      ⟨6, [12], [0], some 13, .any, none⟩,
      ⟨7, [13], [0], some 14, .any, none⟩,
      ⟨8, [14], [0], some 15, .any, none⟩,
      ⟨9, [11, 15], [], some 16, .any, none⟩,
      ⟨10, [1], [], some 17, .any, none⟩,
      ⟨11, [16, 17], [], some 18, .any, none⟩]
  mixed_ok rfl (by kernel_rfl) ⟨DS.ok_over fun s0 => OpAt.go rfl rfl (q_move),
      DS.ok_over fun s0 => OpAt.go rfl rfl (q_nil),
      DS.ok_over fun s0 => OpAt.go rfl rfl (q_fa),
      DS.ok_over fun s0 => OpAt.go rfl rfl (q_load),
      DS.ok_over fun s0 => OpAt.go rfl rfl (q_len),
      DS.ok_over fun s0 => OpAt.go rfl rfl (q_move),
      DS.ok_over fun s0 => OpAt.go rfl rfl (q_nil),
      DS.ok_over fun s0 => OpAt.go rfl rfl (q_fa),
      DS.ok_over fun s0 => OpAt.go rfl rfl (q_load),
      DS.ok_over fun s0 => OpAt.go rfl rfl (q_sub),
      DS.ok_over fun s0 => OpAt.go rfl rfl (q_move),
      DS.ok_over fun s0 => OpAt.go rfl rfl ((OpOk.dec_f (q_lss) (by omega))), trivial⟩ ?_
 dsimp only [final, DS.upd, AS.seto]
 refine AWp.cond_f rfl ?_
 refine AWp.skip ?_
 refine AWp.seq ?_
 refine AWp.region ?_
 refine AOps.cons rfl rfl (q_assign) ?_
 refine AOps.nil ?_
 refine AWp.seq ?_
 refine AWp.seq ?_
 refine AWp.region ?_
 refine AOps.cons rfl rfl (q_move) ?_
 refine AOps.cons rfl rfl (q_move) ?_
 refine AOps.nil ?_
 refine AWp.block ?_
 refine AWp.loopR (α := Nat) [6, 20, 21, 22, 23, 24, 25, 26, 27, 28, 29, 30, 31, 32, 33, 34, 35, 36, 37, 38, 39, 40, 41, 42, 43] (fun i => [(20, i64 i), (6, i64 (nV (((b.take (p0 + w)).drop p0).take i)))]) (fun i => [(0, .box [.fz 0 b.length (cl bc b), i64 ((p0 + i : Nat) : Int)])]) (fun i => i ≤ w) (fun i => w - i) 0 ?_ (Back.mk' (HasT.cons (HasT.cons HasT.nil)) (HasH.cons HasH.nil)) ?_
 ·
  exact Nat.zero_le _
 ·
  rintro i hi
  have hSl : ((b.take (p0 + w)).drop p0).length = w := by rw [List.length_drop, List.length_take]; omega
  have hv : nV (((b.take (p0 + w)).drop p0).take i) < 4294967296 := nV_lt4 (by rw [List.length_take]; omega)
  refine AWp.seq ?_
  refine AWp.region ?_
  refine AOps.dec rfl rfl (q_lss) (fun h5_0 => ?_) (fun h5_0 => ?_)
  ·
   refine AOps.nil ?_
   refine AWp.seq ?_
   refine AWp.cond_t rfl ?_
   refine AWp.skip ?_
   refine AWp.seq ?_
   refine AWp.block ?_
   refine AWp.seq ?_
   have hq1 := (b.getD ((p0 + i : Nat) : Int).toNat default).toNat_lt
   have hq2 : (b[p0 + i]?.getD default).toNat < 256 := (b[p0 + i]?.getD default).toNat_lt
   refine AWp.draws [⟨0, [6], [], some 22, _, none⟩,
       ⟨1, [22], [], some 23, _, none⟩,
       ⟨2, [0], [], some 24, _, none⟩,
       ⟨3, [24], [0], some 25, _, none⟩,
       ⟨4, [25], [0], some 26, _, none⟩,
       ⟨5, [26], [0], some 27, _, none⟩,
       ⟨6, [0], [], some 28, _, none⟩,
       ⟨7, [28], [0], some 29, _, none⟩,
       ⟨8, [29], [0], some 30, _, none⟩,
       ⟨9, [30], [0], some 31, _, none⟩,
       ⟨10, [27, 31], [], some 32, _, none⟩,
       ⟨11, [32], [], some 33, _, none⟩,
       ⟨12, [33], [], some 34, _, none⟩,
       ⟨13, [23, 34], [], some 35, _, none⟩,
       ⟨14, [35], [], some 6, _, none⟩]
    [⟨0, [6], [], some 22, .any, none⟩,
        ⟨1, [22], [], some 23, .any, none⟩,
        ⟨2, [0], [], some 24, .any, none⟩,
        ⟨3, [24], [0], some 25, .any, none⟩,
        ⟨4, [25], [0], some 26, .any, none⟩,
        ⟨5, [26], [0], some 27, .any, none⟩,
        ⟨6, [0], [], some 28, .any, none⟩,
        ⟨7, [28], [0], some 29, .any, none⟩,
        ⟨8, [29], [0], some 30, .any, none⟩,
        ⟨9, [30], [0], some 31, .any, none⟩,
        ⟨10, [27, 31], [], some 32, .any, none⟩,
        ⟨11, [32], [], some 33, .any, none⟩,
        ⟨12, [33], [], some 34, .any, none⟩,
        ⟨13, [23, 34], [], some 35, .any, none⟩,
        ⟨14, [35], [], some 6, .any, none⟩]
    mixed_ok rfl (by kernel_rfl) ⟨DS.ok_over fun s0 => OpAt.go rfl rfl (q_move),
        DS.ok_over fun s0 => OpAt.go rfl rfl (q_mul),
        DS.ok_over fun s0 => OpAt.go rfl rfl (q_move),
        DS.ok_over fun s0 => OpAt.go rfl rfl (q_nil),
        DS.ok_over fun s0 => OpAt.go rfl rfl (q_fa),
        DS.ok_over fun s0 => OpAt.go rfl rfl (q_load),
        DS.ok_over fun s0 => OpAt.go rfl rfl (q_move),
        DS.ok_over fun s0 => OpAt.go rfl rfl (q_nil),
        DS.ok_over fun s0 => OpAt.go rfl rfl (q_fa),
        DS.ok_over fun s0 => OpAt.go rfl rfl (q_load),
        DS.ok_over fun s0 => OpAt.go rfl rfl (q_ix),
        DS.ok_over fun s0 => OpAt.go rfl rfl (q_load),
        DS.ok_over fun s0 => OpAt.go rfl rfl (q_conv_8i),
        DS.ok_over fun s0 => OpAt.go rfl rfl (q_add),
        DS.ok_over fun s0 => OpAt.go rfl rfl (q_assign), trivial⟩ ?_
   dsimp only [final, DS.upd, AS.seto]
   refine AWp.region ?_
   refine AOps.cons rfl rfl (q_move) ?_
   refine AOps.cons rfl rfl (q_nil) ?_
   refine AOps.cons rfl rfl (q_fa) ?_
   refine AOps.cons rfl rfl (q_load) ?_
   refine AOps.cons rfl rfl (q_add) ?_
   refine AOps.cons rfl rfl (q_nil) ?_
   refine AOps.cons rfl rfl (q_fa) ?_
   refine AOps.cons rfl rfl (q_store) ?_
   refine AOps.nil ?_
   refine AWp.region ?_
   refine AOps.cons rfl rfl (q_add) ?_
   refine AOps.cons rfl rfl (q_move) ?_
   refine AOps.nil ?_
   have hgt := bN_get (b := b) (p := p0) (w := w) (i := i) (by omega)
   refine ⟨i + 1, ?_, Back.mk' (HasT.cons (HasT.cons HasT.nil (h1 := by exact i64_eq (by rw [take_step' (by omega), nV_snoc, hgt]; push_cast; rfl)) )) (HasH.cons HasH.nil), ?_⟩
   ·
    first | assumption | omega | decide | (simp; omega) | (simp [*]; done)
   ·
    first | omega | (simp; omega)
  ·
   refine AOps.nil ?_
   refine AWp.seq ?_
   refine AWp.cond_f rfl ?_
   refine AWp.exit ?_
   refine AWp.seq ?_
   refine AWp.region ?_
   refine AOps.cons rfl rfl (q_move) ?_
   refine AOps.cons rfl rfl (q_assign) ?_
   refine AOps.cons rfl rfl (q_assign) ?_
   refine AOps.nil ?_
   refine AWp.ret ?_
   show Fin te Try.f74 _ _
   obtain rfl : i = w := by omega
   have hSi : ((b.take (p0 + i)).drop p0).take i = (b.take (p0 + i)).drop p0 := List.take_of_length_le (by omega)
   rw [hSi]
   refine q_retH (0) [] [_, _] [_, _] [(_, _)] ?_
   rfl
set_option maxRecDepth 20000 in
set_option maxHeartbeats 2000000 in
theorem c_rrnum_no (b : List UInt8) (p0 w : Nat) (hb : b.length ≤ 65535) (hp : p0 ≤ 200000) (hw : w ≤ 4) (h : ¬ p0 + w ≤ b.length) : AC Try.prog 74 [.ptr 0 0 0, i64 w] (hlook [(0, .box [.fz 0 b.length (cl bc b), i64 p0])]) (RetH (.tup [i64 0, tf false]) [(0, .box [.fz 0 b.length (cl bc b), i64 p0])]) := by
 refine AC.intro te_ok (fn := Try.f74) ⟨Try.func74, rfl, rfl⟩ (Nat.le_of_ble_eq_true rfl) ?_
 refine AWp.seq ?_
 refine AWp.region ?_
 refine AOps.cons rfl rfl (q_assign) ?_
 refine AOps.cons rfl rfl (q_assign) ?_
 refine AOps.nil ?_
 refine AWp.seq ?_
 refine AWp.seq ?_
 refine AWp.draws [⟨0, [0], [], some 7, _, none⟩,
     ⟨1, [7], [0], some 8, _, none⟩,
     ⟨2, [8], [0], some 9, _, none⟩,
     ⟨3, [9], [0], some 10, _, none⟩,
     ⟨4, [10], [], some 11, _, none⟩,
     ⟨5, [0], [], some 12, _, none⟩,
     ⟨6, [12], [0], some 13, _, none⟩,
     ⟨7, [13], [0], some 14, _, none⟩,
     ⟨8, [14], [0], some 15, _, none⟩,
     ⟨9, [11, 15], [], some 16, _, none⟩,
     ⟨10, [1], [], some 17, _, none⟩,
     ⟨11, [16, 17], [], some 18, _, none⟩]
  [⟨0, [0], [], some 7, .any, none⟩,
      ⟨1, [7], [0], some 8, .any, none⟩,
      ⟨2, [8], [0], some 9, .any, none⟩,
      ⟨3, [9], [0], some 10, .any, none⟩,
      ⟨4, [10], [], some 11, .any, none⟩,
      ⟨5, [0], [], some 12, .any, none⟩,
      ⟨6, [12], [0], some 13, .any, none⟩,
      ⟨7, [13], [0], some 14, .any, none⟩,
      ⟨8, [14], [0], some 15, .any, none⟩,
      ⟨9, [11, 15], [], some 16, .any, none⟩,
      ⟨10, [1], [], some 17, .any, none⟩,
      ⟨11, [16, 17], [], some 18, .any, none⟩]
  mixed_ok rfl (by kernel_rfl) ⟨DS.ok_over fun s0 => OpAt.go rfl rfl (q_move),
      DS.ok_over fun s0 => OpAt.go rfl rfl (q_nil),
      DS.ok_over fun s0 => OpAt.go rfl rfl (q_fa),
      DS.ok_over fun s0 => OpAt.go rfl rfl (q_load),
      DS.ok_over fun s0 => OpAt.go rfl rfl (q_len),
      DS.ok_over fun s0 => OpAt.go rfl rfl (q_move),
      DS.ok_over fun s0 => OpAt.go rfl rfl (q_nil),
      DS.ok_over fun s0 => OpAt.go rfl rfl (q_fa),
      DS.ok_over fun s0 => OpAt.go rfl rfl (q_load),
      DS.ok_over fun s0 => OpAt.go rfl rfl (q_sub),
      DS.ok_over fun s0 => OpAt.go rfl rfl (q_move),
      DS.ok_over fun s0 => OpAt.go rfl rfl ((OpOk.dec_t (q_lss) (by omega))), trivial⟩ ?_
 dsimp only [final, DS.upd, AS.seto]
 refine AWp.cond_t rfl ?_
 refine AWp.seq ?_
 refine AWp.region ?_
 refine AOps.cons rfl rfl (q_assign) ?_
 refine AOps.cons rfl rfl (q_assign) ?_
 refine AOps.nil ?_
 refine AWp.ret ?_
 show Fin te Try.f74 _ _
 refine q_retH (0) [] [_, _] [_, _] [(_, _)] ?_
 rfl
set_option maxRecDepth 20000 in
set_option maxHeartbeats 2000000 in
theorem c_rrnames (t : Int) : AC Try.prog 99 [i64 t] emp (Ret (.tup [i64 (nCnt t), i64 (preN t)])) := by
 refine AC.intro te_ok (fn := Try.f99) ⟨Try.func99, rfl, rfl⟩ (Nat.le_of_ble_eq_true rfl) ?_
 refine AWp.seq ?_
 refine AWp.region ?_
 refine AOps.cons rfl rfl (q_assign) ?_
 refine AOps.cons rfl rfl (q_assign) ?_
 refine AOps.nil ?_
 refine AWp.seq ?_
 refine AWp.seq ?_
 refine AWp.region ?_
 refine AOps.cons rfl rfl (q_move) ?_
 refine AOps.nil ?_
 refine AWp.block ?_
 refine AWp.seq ?_
 refine AWp.seq ?_
 refine AWp.region ?_
 refine AOps.dec rfl rfl (q_eql) (fun h2_0 => ?_) (fun h2_0 => ?_)
 ·
  refine AOps.cons rfl rfl (q_assign) ?_
  refine AOps.nil ?_
  refine AWp.cond_t rfl ?_
  refine AWp.skip ?_
  refine AWp.cond_t rfl ?_
  refine AWp.seq ?_
  refine AWp.region ?_
  refine AOps.cons rfl rfl (q_assign) ?_
  refine AOps.cons rfl rfl (q_assign) ?_
  refine AOps.nil ?_
  refine AWp.ret ?_
  show Fin te Try.f99 _ _
  refine q_ret (0) [_, _] [_, _] ?_
  rw [nCnt, preN]; simp [*]; try rfl
 ·
  refine AOps.cons rfl rfl (q_assign) ?_
  refine AOps.nil ?_
  refine AWp.cond_f rfl ?_
  refine AWp.seq ?_
  refine AWp.region ?_
  refine AOps.dec rfl rfl (q_eql) (fun h3_0 => ?_) (fun h3_0 => ?_)
  ·
   refine AOps.cons rfl rfl (q_assign) ?_
   refine AOps.nil ?_
   refine AWp.cond_t rfl ?_
   refine AWp.skip ?_
   refine AWp.cond_t rfl ?_
   refine AWp.seq ?_
   refine AWp.region ?_
   refine AOps.cons rfl rfl (q_assign) ?_
   refine AOps.cons rfl rfl (q_assign) ?_
   refine AOps.nil ?_
   refine AWp.ret ?_
   show Fin te Try.f99 _ _
   refine q_ret (0) [_, _] [_, _] ?_
   rw [nCnt, preN]; simp [*]; try rfl
  ·
   refine AOps.cons rfl rfl (q_assign) ?_
   refine AOps.nil ?_
   refine AWp.cond_f rfl ?_
   refine AWp.region ?_
   refine AOps.dec rfl rfl (q_eql) (fun h4_0 => ?_) (fun h4_0 => ?_)
   ·
    refine AOps.cons rfl rfl (q_assign) ?_
    refine AOps.nil ?_
    refine AWp.cond_t rfl ?_
    refine AWp.seq ?_
    refine AWp.region ?_
    refine AOps.cons rfl rfl (q_assign) ?_
    refine AOps.cons rfl rfl (q_assign) ?_
    refine AOps.nil ?_
    refine AWp.ret ?_
    show Fin te Try.f99 _ _
    refine q_ret (0) [_, _] [_, _] ?_
    rw [nCnt, preN]; simp [*]; try rfl
   ·
    refine AOps.cons rfl rfl (q_assign) ?_
    refine AOps.nil ?_
    refine AWp.cond_f rfl ?_
    refine AWp.seq ?_
    refine AWp.region ?_
    refine AOps.dec rfl rfl (q_eql) (fun h6_0 => ?_) (fun h6_0 => ?_)
    ·
     refine AOps.cons rfl rfl (q_assign) ?_
     refine AOps.nil ?_
     refine AWp.cond_t rfl ?_
     refine AWp.seq ?_
     refine AWp.region ?_
     refine AOps.cons rfl rfl (q_assign) ?_
     refine AOps.cons rfl rfl (q_assign) ?_
     refine AOps.nil ?_
     refine AWp.ret ?_
     show Fin te Try.f99 _ _
     refine q_ret (0) [_, _] [_, _] ?_
     rw [nCnt, preN]; simp [*]; try rfl
    ·
     refine AOps.cons rfl rfl (q_assign) ?_
     refine AOps.nil ?_
     refine AWp.cond_f rfl ?_
     refine AWp.seq ?_
     refine AWp.region ?_
     refine AOps.dec rfl rfl (q_eql) (fun h8_0 => ?_) (fun h8_0 => ?_)
     ·
      refine AOps.cons rfl rfl (q_assign) ?_
      refine AOps.nil ?_
      refine AWp.cond_t rfl ?_
      refine AWp.seq ?_
      refine AWp.region ?_
      refine AOps.cons rfl rfl (q_assign) ?_
      refine AOps.cons rfl rfl (q_assign) ?_
      refine AOps.nil ?_
      refine AWp.ret ?_
      show Fin te Try.f99 _ _
      refine q_ret (0) [_, _] [_, _] ?_
      rw [nCnt, preN]; simp [*]; try rfl
     ·
      refine AOps.cons rfl rfl (q_assign) ?_
      refine AOps.nil ?_
      refine AWp.cond_f rfl ?_
      refine AWp.skip ?_
      refine AWp.seq ?_
      refine AWp.region ?_
      refine AOps.cons rfl rfl (q_assign) ?_
      refine AOps.cons rfl rfl (q_assign) ?_
      refine AOps.nil ?_
      refine AWp.ret ?_
      show Fin te Try.f99 _ _
      refine q_ret (0) [_, _] [_, _] ?_
      rw [nCnt, preN]; simp [*]; try rfl
end Go.Proofs.Ytkfccjbihcbmiaa.Fw


set_option linter.unusedVariables false
set_option linter.unusedSimpArgs false
namespace Go.Proofs.Ytkfccjbihcbmiaa.Fw
open Go.RowKit
theorem rdN_ne0 {b : List UInt8} : ∀ (p fi li : Nat) (bh : Option Nat) (n : List UInt8) {e : Int}, rdN b 20 p fi li bh n = .error e → e ≠ 0 := by
  intro p fi li bh n
  induction p, fi, li, bh, n using rdN.induct b with
  | case1 p fi li bh n h => intro e k; rw [rdN_short h] at k; cases k; decide
  | case2 p fi li bh n h h1 h2 => intro e k; rw [rdN_end h h1 h2] at k; cases k
  | case3 p fi li bh n h h1 h2 => intro e k; rw [rdN_long0 h h1 h2] at k; cases k; decide
  | case4 p fi li bh n h h1 h2 h3 => intro e k; rw [rdN_pshort h h2 h3] at k; cases k; decide
  | case5 p fi li bh n h h1 h2 h3 h4 ih => intro e k; rw [rdN_ptr h h2 h3 h4] at k; exact ih k
  | case6 p fi li bh n h h1 h2 h3 h4 => intro e k; rw [rdN_pbad h h2 h3 h4] at k; cases k; decide
  | case7 p fi li bh n h h1 h2 h3 => intro e k; rw [rdN_label h h3 h2] at k; cases k; decide
  | case8 p fi li bh n h h1 h2 h3 h4 => intro e k; rw [rdN_lshort h h1 h3 h4] at k; cases k; decide
  | case9 p fi li bh n h h1 h2 h3 h4 h5 ih => intro e k; rw [rdN_lab h h1 h3 h4 h5] at k; exact ih k
  | case10 p fi li bh n h h1 h2 h3 h4 h5 => intro e k; rw [rdN_llong h h1 h3 h4 h5] at k; cases k; decide
def resD : Except Int (List UInt8) → List UInt8
  | .error _ => []
  | .ok d => d
def atD (en : Nat) : Except Int (List UInt8) → AV
  | .error _ => .any
  | .ok _ => i64 en
theorem pre_acc (b : List UInt8) (t : Int) (p0 : Nat) : ([] ++ (b.take (p0 + preN t)).drop p0 : List UInt8) = (if t = 15 then (b.take (p0 + 2)).drop p0 else []) ∧ p0 + preN t = (if t = 15 then p0 + 2 else p0) := by
  unfold preN
  split
  · exact ⟨rfl, rfl⟩
  · refine ⟨?_, rfl⟩
    rw [List.nil_append, Nat.add_zero, List.drop_take, Nat.sub_self, List.take_zero]
set_option maxRecDepth 20000 in
set_option maxHeartbeats 2000000 in
theorem c_rrdata (b : List UInt8) (t : Int) (p0 en : Nat) (hb : b.length ≤ 65535) (he : en ≤ b.length) (hp : p0 ≤ en) : AC Try.prog 94 [.ptr 0 0 0, i64 t, i64 en] (hlook [(0, .box [.fz 0 b.length (cl bc b), i64 p0])]) (RetH (.tup [.fz 0 (resD (rdD b t p0 en)).length (cl bc (resD (rdD b t p0 en))), i64 (rnE (rdD b t p0 en))]) [(0, .box [.fz 0 b.length (cl bc b), atD en (rdD b t p0 en)])]) := by
 have hc2 := nCnt_le t
 have hpn : preN t = if t = 15 then 2 else 0 := rfl
 obtain ⟨hA0, hP1⟩ := pre_acc b t p0
 refine AC.intro te_ok (fn := Try.f94) ⟨Try.func94, rfl, rfl⟩ (Nat.le_of_ble_eq_true rfl) ?_
 refine AWp.seq ?_
 refine AWp.region ?_
 refine AOps.cons rfl rfl (q_nilz (0) bc) ?_
 refine AOps.cons rfl rfl (q_assign) ?_
 refine AOps.nil ?_
 refine AWp.seq ?_
 refine AWp.region ?_
 refine AOps.cons rfl rfl (q_move) ?_
 refine AOps.cons rfl rfl (q_call (0) (hc := (c_rrnames t))) ?_
 refine AOps.cons rfl rfl (q_move) ?_
 refine AOps.cons rfl rfl (q_extract) ?_
 refine AOps.cons rfl rfl (q_extract) ?_
 refine AOps.cons rfl rfl (q_assign) ?_
 refine AOps.cons rfl rfl (q_assign) ?_
 refine AOps.nil ?_
 refine AWp.seq ?_
 refine AWp.seq ?_
 refine AWp.region ?_
 refine AOps.cons rfl rfl (q_move) ?_
 refine AOps.cons rfl rfl (q_move) ?_
 refine AOps.cons rfl rfl (q_nil) ?_
 refine AOps.cons rfl rfl (q_fa) ?_
 refine AOps.cons rfl rfl (q_load) ?_
 refine AOps.cons rfl rfl (q_sub) ?_
 refine AOps.cons rfl rfl (q_move) ?_
 refine AOps.dec rfl rfl (q_lss) (fun h2_7 => ?_) (fun h2_7 => ?_)
 ·
  refine AOps.nil ?_
  refine AWp.cond_t rfl ?_
  refine AWp.seq ?_
  refine AWp.region ?_
  refine AOps.cons rfl rfl (q_nilz (0) bc) ?_
  refine AOps.cons rfl rfl (q_assign) ?_
  refine AOps.nil ?_
  refine AWp.ret ?_
  show Fin te Try.f94 _ _
  have h15 : t = 15 := by
    by_cases h15 : t = 15
    · exact h15
    · rw [if_neg h15] at hpn; omega
  rw [if_pos h15] at hpn
  have hX : rdD b t p0 en = .error 30 := by rw [rdD, if_pos ⟨h15, by omega⟩]
  rw [hX]
  refine q_retH (0) [] [_, _] [_, _] [(_, _)] ?_ (hobj := by repeat' (first | exact trivial | exact lv_ok rfl | exact lv_sl rfl rfl | exact lv_rn rfl rfl .row rfl | exact lv_ptr rfl rfl | exact lv_mp rfl rfl | exact lv_nilz | exact lv_any | exact lv_row0 rfl rfl .row (fun _ => rfl) (Nat.le_of_ble_eq_true rfl) (fun _ => rfl) | exact lobj_row (fun _ => rfl) | exact lobj_rown (fun _ => rfl) | exact lobj_me (fun _ => rfl) | refine lobj_box ?_ | refine ⟨rfl, ⟨_, rfl, ?_⟩, ?_⟩ | refine ⟨?_, ?_⟩)) (h2 := by repeat' (first | exact trivial | exact lv_ok rfl | exact lv_ptr rfl rfl | exact lv_sl rfl rfl | exact lv_nilz | exact lv_row0 rfl rfl .row (fun _ => rfl) (Nat.le_of_ble_eq_true rfl) (fun _ => rfl) | refine lv_agg ?_ | exact lv_any | refine ⟨?_, ?_⟩))
  rfl
 ·
  refine AOps.nil ?_
  refine AWp.cond_f rfl ?_
  refine AWp.skip ?_
  refine AWp.seq ?_
  have hg : ¬ (t = 15 ∧ en < p0 + 2) := by
    rintro ⟨h15, h2⟩
    rw [if_pos h15] at hpn; omega
  have hpl : p0 + preN t ≤ en := by omega
  refine AWp.draws [⟨0, [], [500], some 26, _, some (500, _)⟩,
      ⟨1, [0], [], some 27, _, none⟩,
      ⟨2, [27], [0], some 28, _, none⟩,
      ⟨3, [28], [0], some 29, _, none⟩,
      ⟨4, [29], [0], some 30, _, none⟩,
      ⟨5, [0], [], some 31, _, none⟩,
      ⟨6, [31], [0], some 32, _, none⟩,
      ⟨7, [32], [0], some 33, _, none⟩,
      ⟨8, [33], [0], some 34, _, none⟩,
      ⟨9, [0], [], some 35, _, none⟩,
      ⟨10, [35], [0], some 36, _, none⟩,
      ⟨11, [36], [0], some 37, _, none⟩,
      ⟨12, [37], [0], some 38, _, none⟩,
      ⟨13, [9], [], some 39, _, none⟩,
      ⟨14, [38, 39], [], some 40, _, none⟩,
      ⟨15, [30, 34, 40], [], some 41, _, none⟩,
      ⟨16, [26, 41], [500], some 42, _, some (500, _)⟩,
      ⟨17, [42], [], some 10, _, none⟩]
   [⟨0, [], [500], some 26, .any, some (500, .box [])⟩,
       ⟨1, [0], [], some 27, .any, none⟩,
       ⟨2, [27], [0], some 28, .any, none⟩,
       ⟨3, [28], [0], some 29, .any, none⟩,
       ⟨4, [29], [0], some 30, .any, none⟩,
       ⟨5, [0], [], some 31, .any, none⟩,
       ⟨6, [31], [0], some 32, .any, none⟩,
       ⟨7, [32], [0], some 33, .any, none⟩,
       ⟨8, [33], [0], some 34, .any, none⟩,
       ⟨9, [0], [], some 35, .any, none⟩,
       ⟨10, [35], [0], some 36, .any, none⟩,
       ⟨11, [36], [0], some 37, .any, none⟩,
       ⟨12, [37], [0], some 38, .any, none⟩,
       ⟨13, [9], [], some 39, .any, none⟩,
       ⟨14, [38, 39], [], some 40, .any, none⟩,
       ⟨15, [30, 34, 40], [], some 41, .any, none⟩,
       ⟨16, [26, 41], [500], some 42, .any, some (500, .box [])⟩,
       ⟨17, [42], [], some 10, .any, none⟩]
   mixed_ok rfl (by kernel_rfl) ⟨DS.ok_over fun s0 => OpAt.go rfl rfl (q_bs 500 bc [] []),
       DS.ok_over fun s0 => OpAt.go rfl rfl (q_move),
       DS.ok_over fun s0 => OpAt.go rfl rfl (q_nil),
       DS.ok_over fun s0 => OpAt.go rfl rfl (q_fa),
       DS.ok_over fun s0 => OpAt.go rfl rfl (q_load),
       DS.ok_over fun s0 => OpAt.go rfl rfl (q_move),
       DS.ok_over fun s0 => OpAt.go rfl rfl (q_nil),
       DS.ok_over fun s0 => OpAt.go rfl rfl (q_fa),
       DS.ok_over fun s0 => OpAt.go rfl rfl (q_load),
       DS.ok_over fun s0 => OpAt.go rfl rfl (q_move),
       DS.ok_over fun s0 => OpAt.go rfl rfl (q_nil),
       DS.ok_over fun s0 => OpAt.go rfl rfl (q_fa),
       DS.ok_over fun s0 => OpAt.go rfl rfl (q_load),
       DS.ok_over fun s0 => OpAt.go rfl rfl (q_move),
       DS.ok_over fun s0 => OpAt.go rfl rfl (q_add),
       DS.ok_over fun s0 => OpAt.go rfl rfl (q_sl),
       DS.ok_over fun s0 => OpAt.go rfl rfl (q_app),
       DS.ok_over fun s0 => OpAt.go rfl rfl (q_assign), trivial⟩ ?_
  dsimp only [final, DS.upd, AS.seto]
  rw [show ((p0 : Int) + (preN t : Int)).toNat = p0 + preN t by omega, show ((p0 : Nat) : Int).toNat = p0 by omega]
  refine AWp.seq ?_
  refine AWp.region ?_
  refine AOps.cons rfl rfl (q_move) ?_
  refine AOps.cons rfl rfl (q_nil) ?_
  refine AOps.cons rfl rfl (q_fa) ?_
  refine AOps.cons rfl rfl (q_load) ?_
  refine AOps.cons rfl rfl (q_move) ?_
  refine AOps.cons rfl rfl (q_add) ?_
  refine AOps.cons rfl rfl (q_nil) ?_
  refine AOps.cons rfl rfl (q_fa) ?_
  refine AOps.cons rfl rfl (q_store) ?_
  refine AOps.nil ?_
  refine AWp.seq ?_
  refine AWp.seq ?_
  refine AWp.region ?_
  rw [hA0]
  obtain ⟨A0, hA1⟩ : ∃ A0, A0 = (if t = 15 then (b.take (p0 + 2)).drop p0 else []) := ⟨_, rfl⟩
  rw [← hA1]
  have hAl : A0.length ≤ 2 := by rw [hA1]; split
                                 · rw [List.length_drop, List.length_take]; omega
                                 · simp
  refine AOps.cons rfl rfl (q_move) ?_
  refine AOps.cons rfl rfl (q_move) ?_
  refine AOps.nil ?_
  refine AWp.block ?_
  refine AWp.loopR (α := Nat × List UInt8 × Nat × Nat) [6, 7, 10, 11, 12, 52, 53, 54, 55, 56, 57, 58, 59, 60, 61, 62, 63, 64, 65, 66, 67, 68] (fun x_ => [(52, i64 (x_.1)), (10, .sl 500 (x_.2.2.2) 0 (x_.2.1).length 1)]) (fun x_ => [(0, .box [.fz 0 b.length (cl bc b), i64 (x_.2.2.1)]), (500, .row (cl bc (x_.2.1)) 1 (x_.2.2.2))]) (fun x_ => (x_.1) ≤ nCnt t ∧ rdNs b en (nCnt t - (x_.1)) (x_.2.1) (x_.2.2.1) = rdNs b en (nCnt t) (if t = 15 then (b.take (p0 + 2)).drop p0 else []) (if t = 15 then p0 + 2 else p0) ∧ (x_.2.1).length ≤ 2 + 255 * (x_.1) ∧ (x_.2.2.1) ≤ en) (fun x_ => nCnt t - (x_.1)) (0, A0, p0 + preN t, 1) ?_ (Back.mk' (HasT.cons (HasT.cons HasT.nil)) (HasH.cons (HasH.cons HasH.nil))) ?_
  ·
   exact ⟨Nat.zero_le _, by show rdNs b en (nCnt t - 0) A0 (p0 + preN t) = _; rw [hA1, hP1]; rfl, hAl, hpl⟩
  ·
   rintro ⟨i, ac, p, v⟩ hI7
   change i ≤ nCnt t ∧ rdNs b en (nCnt t - i) ac p = rdNs b en (nCnt t) (if t = 15 then (b.take (p0 + 2)).drop p0 else []) (if t = 15 then p0 + 2 else p0) ∧ ac.length ≤ 2 + 255 * i ∧ p ≤ en at hI7
   obtain ⟨hi, hE, hal, hpe⟩ := hI7
   refine AWp.as (s' := AS.over _ [6, 7, 10, 11, 12, 52, 53, 54, 55, 56, 57, 58, 59, 60, 61, 62, 63, 64, 65, 66, 67, 68] [(52, i64 i), (10, .sl 500 v 0 ac.length 1)] [(0, .box [.fz 0 b.length (cl bc b), i64 p]), (500, .row (cl bc ac) 1 v)]) rfl ?_
   refine AWp.seq ?_
   refine AWp.region ?_
   refine AOps.dec rfl rfl (q_lss) (fun h7_0 => ?_) (fun h7_0 => ?_)
   ·
    refine AOps.nil ?_
    refine AWp.seq ?_
    refine AWp.cond_t rfl ?_
    refine AWp.skip ?_
    refine AWp.seq ?_
    refine AWp.block ?_
    refine AWp.seq ?_
    refine AWp.region ?_
    rcases ha : rdN b 20 p p en none [] with e | a
    ·
     refine AOps.cons rfl rfl (q_move) ?_
     refine AOps.cons rfl rfl (q_move) ?_
     refine AOps.cons rfl rfl (q_callB (0) [(0, 0)] [] [(_, _)] (hc := (c_rrname_er hb he (by omega) ha))) ?_
     refine AOps.cons rfl rfl (q_move) ?_
     refine AOps.cons rfl rfl (q_extract) ?_
     refine AOps.cons rfl rfl (q_extract) ?_
     refine AOps.cons rfl rfl (q_assign) ?_
     refine AOps.cons rfl rfl (q_assign) ?_
     refine AOps.nil ?_
     refine AWp.seq ?_
     refine AWp.seq ?_
     refine AWp.region ?_
     refine AOps.cons rfl rfl (q_move) ?_
     refine AOps.dec rfl rfl (q_eql) (fun h9_1 => ?_) (fun h9_1 => ?_)
     ·
      refine AOps.nil ?_
      refine AWp.cond_t rfl ?_
      refine AWp.seq ?_
      refine AWp.region ?_
      refine AOps.cons rfl rfl (q_nilz (0) bc) ?_
      refine AOps.cons rfl rfl (q_assign) ?_
      refine AOps.nil ?_
      refine AWp.ret ?_
      show Fin te Try.f94 _ _
      have h30 : rdN b 30 p p en none [] = .error (if e = 20 then 30 else e) := by rw [rdN_sh, ha]; rfl
      have hX : rdD b t p0 en = .error (if e = 20 then 30 else e) := by rw [rdD_go hg, ← hE, show nCnt t - i = (nCnt t - (i + 1)) + 1 by omega, rdNs_err h30]; rfl
      rw [hX, if_pos h9_1]
      refine q_retH (0) [] [_, _] [_, _] [(_, _)] ?_ (hobj := by repeat' (first | exact trivial | exact lv_ok rfl | exact lv_sl rfl rfl | exact lv_rn rfl rfl .row rfl | exact lv_ptr rfl rfl | exact lv_mp rfl rfl | exact lv_nilz | exact lv_any | exact lv_row0 rfl rfl .row (fun _ => rfl) (Nat.le_of_ble_eq_true rfl) (fun _ => rfl) | exact lobj_row (fun _ => rfl) | exact lobj_rown (fun _ => rfl) | exact lobj_me (fun _ => rfl) | refine lobj_box ?_ | refine ⟨rfl, ⟨_, rfl, ?_⟩, ?_⟩ | refine ⟨?_, ?_⟩)) (h2 := by repeat' (first | exact trivial | exact lv_ok rfl | exact lv_ptr rfl rfl | exact lv_sl rfl rfl | exact lv_nilz | exact lv_row0 rfl rfl .row (fun _ => rfl) (Nat.le_of_ble_eq_true rfl) (fun _ => rfl) | refine lv_agg ?_ | exact lv_any | refine ⟨?_, ?_⟩))
      rfl
     ·
      refine AOps.nil ?_
      refine AWp.cond_f rfl ?_
      refine AWp.skip ?_
      refine AWp.seq ?_
      refine AWp.seq ?_
      refine AWp.region ?_
      refine AOps.cons rfl rfl (q_move) ?_
      refine AOps.dec rfl rfl (q_neq) (fun h11_1 => ?_) (fun h11_1 => ?_)
      ·
       refine AOps.nil ?_
       refine AWp.cond_t rfl ?_
       refine AWp.seq ?_
       refine AWp.region ?_
       refine AOps.cons rfl rfl (q_move) ?_
       refine AOps.cons rfl rfl (q_nilz (0) bc) ?_
       refine AOps.cons rfl rfl (q_assign) ?_
       refine AOps.nil ?_
       refine AWp.ret ?_
       show Fin te Try.f94 _ _
       have h30 : rdN b 30 p p en none [] = .error (if e = 20 then 30 else e) := by rw [rdN_sh, ha]; rfl
       have hX : rdD b t p0 en = .error (if e = 20 then 30 else e) := by rw [rdD_go hg, ← hE, show nCnt t - i = (nCnt t - (i + 1)) + 1 by omega, rdNs_err h30]; rfl
       rw [hX, if_neg h9_1]
       refine q_retH (0) [] [_, _] [_, _] [(_, _)] ?_ (hobj := by repeat' (first | exact trivial | exact lv_ok rfl | exact lv_sl rfl rfl | exact lv_rn rfl rfl .row rfl | exact lv_ptr rfl rfl | exact lv_mp rfl rfl | exact lv_nilz | exact lv_any | exact lv_row0 rfl rfl .row (fun _ => rfl) (Nat.le_of_ble_eq_true rfl) (fun _ => rfl) | exact lobj_row (fun _ => rfl) | exact lobj_rown (fun _ => rfl) | exact lobj_me (fun _ => rfl) | refine lobj_box ?_ | refine ⟨rfl, ⟨_, rfl, ?_⟩, ?_⟩ | refine ⟨?_, ?_⟩)) (h2 := by repeat' (first | exact trivial | exact lv_ok rfl | exact lv_ptr rfl rfl | exact lv_sl rfl rfl | exact lv_nilz | exact lv_row0 rfl rfl .row (fun _ => rfl) (Nat.le_of_ble_eq_true rfl) (fun _ => rfl) | refine lv_agg ?_ | exact lv_any | refine ⟨?_, ?_⟩))
       rfl
      ·
       exfalso; exact h11_1 (rdN_ne0 _ _ _ _ _ ha)
    ·
     refine AOps.cons rfl rfl (q_move) ?_
     refine AOps.cons rfl rfl (q_move) ?_
     refine AOps.cons rfl rfl (q_callB (0) [(0, 0)] [] [(_, _)] (hc := (c_rrname_ok hb he (by omega) ha))) ?_
     refine AOps.cons rfl rfl (q_move) ?_
     refine AOps.cons rfl rfl (q_extract) ?_
     refine AOps.cons rfl rfl (q_extract) ?_
     refine AOps.cons rfl rfl (q_assign) ?_
     refine AOps.cons rfl rfl (q_assign) ?_
     refine AOps.nil ?_
     refine AWp.seq ?_
     refine AWp.seq ?_
     refine AWp.region ?_
     refine AOps.cons rfl rfl (q_move) ?_
     refine AOps.dec rfl rfl (q_eql) (fun h9_1 => ?_) (fun h9_1 => ?_)
     ·
      exfalso; simp at h9_1
     ·
      refine AOps.nil ?_
      refine AWp.cond_f rfl ?_
      refine AWp.skip ?_
      refine AWp.seq ?_
      refine AWp.seq ?_
      refine AWp.region ?_
      refine AOps.cons rfl rfl (q_move) ?_
      refine AOps.dec rfl rfl (q_neq) (fun h11_1 => ?_) (fun h11_1 => ?_)
      ·
       exfalso; simp at h11_1
      ·
       refine AOps.nil ?_
       refine AWp.cond_f rfl ?_
       refine AWp.skip ?_
       refine AWp.region ?_
       obtain ⟨n1, n2, n3⟩ := rdN_ok0 ha
       have h30 : rdN b 30 p p en none [] = .ok a := by rw [rdN_sh, ha]; rfl
       refine AOps.cons rfl rfl (q_move) ?_
       refine AOps.cons rfl rfl (q_move) ?_
       refine AOps.cons rfl rfl (q_app) ?_
       refine AOps.cons rfl rfl (q_assign) ?_
       refine AOps.nil ?_
       refine AWp.region ?_
       refine AOps.cons rfl rfl (q_add) ?_
       refine AOps.cons rfl rfl (q_move) ?_
       refine AOps.nil ?_
       refine ⟨(i + 1, ac ++ a.1, a.2, v + 1), ?_, Back.mk' (HasT.cons (HasT.cons HasT.nil)) (HasH.cons (HasH.cons HasH.nil)), ?_⟩
       ·
        try dsimp only
        refine ⟨by omega, ?_, by rw [List.length_append]; omega, n3⟩
        rw [← hE, show nCnt t - i = (nCnt t - (i + 1)) + 1 by omega, rdNs_ok h30]
       ·
        try dsimp only
        first | omega | (simp; omega)
   ·
    refine AOps.nil ?_
    refine AWp.seq ?_
    refine AWp.cond_f rfl ?_
    refine AWp.exit ?_
    refine AWp.seq ?_
    obtain rfl : i = nCnt t := by omega
    rw [Nat.sub_self] at hE
    have hE2 := hE.symm
    rw [rdNs] at hE2
    refine AWp.draws [⟨0, [10], [], some 69, _, none⟩,
        ⟨1, [0], [], some 70, _, none⟩,
        ⟨2, [70], [0], some 71, _, none⟩,
        ⟨3, [71], [0], some 72, _, none⟩,
        ⟨4, [72], [0], some 73, _, none⟩,
        ⟨5, [0], [], some 74, _, none⟩,
        ⟨6, [74], [0], some 75, _, none⟩,
        ⟨7, [75], [0], some 76, _, none⟩,
        ⟨8, [76], [0], some 77, _, none⟩,
        ⟨9, [2], [], some 78, _, none⟩,
        ⟨10, [73, 77, 78], [], some 79, _, none⟩,
        ⟨11, [69, 79], [500], some 80, _, some (500, _)⟩,
        ⟨12, [80], [], some 10, _, none⟩]
     [⟨0, [10], [], some 69, .any, none⟩,
         ⟨1, [0], [], some 70, .any, none⟩,
         ⟨2, [70], [0], some 71, .any, none⟩,
         ⟨3, [71], [0], some 72, .any, none⟩,
         ⟨4, [72], [0], some 73, .any, none⟩,
         ⟨5, [0], [], some 74, .any, none⟩,
         ⟨6, [74], [0], some 75, .any, none⟩,
         ⟨7, [75], [0], some 76, .any, none⟩,
         ⟨8, [76], [0], some 77, .any, none⟩,
         ⟨9, [2], [], some 78, .any, none⟩,
         ⟨10, [73, 77, 78], [], some 79, .any, none⟩,
         ⟨11, [69, 79], [500], some 80, .any, some (500, .box [])⟩,
         ⟨12, [80], [], some 10, .any, none⟩]
     mixed_ok rfl (by kernel_rfl) ⟨DS.ok_over fun s0 => OpAt.go rfl rfl (q_move),
         DS.ok_over fun s0 => OpAt.go rfl rfl (q_move),
         DS.ok_over fun s0 => OpAt.go rfl rfl (q_nil),
         DS.ok_over fun s0 => OpAt.go rfl rfl (q_fa),
         DS.ok_over fun s0 => OpAt.go rfl rfl (q_load),
         DS.ok_over fun s0 => OpAt.go rfl rfl (q_move),
         DS.ok_over fun s0 => OpAt.go rfl rfl (q_nil),
         DS.ok_over fun s0 => OpAt.go rfl rfl (q_fa),
         DS.ok_over fun s0 => OpAt.go rfl rfl (q_load),
         DS.ok_over fun s0 => OpAt.go rfl rfl (q_move),
         DS.ok_over fun s0 => OpAt.go rfl rfl (q_sl),
         DS.ok_over fun s0 => OpAt.go rfl rfl (q_app),
         DS.ok_over fun s0 => OpAt.go rfl rfl (q_assign), trivial⟩ ?_
    dsimp only [final, DS.upd, AS.seto]
    rw [show ((en : Nat) : Int).toNat = en by omega, show ((p : Nat) : Int).toNat = p by omega]
    refine AWp.seq ?_
    refine AWp.region ?_
    refine AOps.cons rfl rfl (q_move) ?_
    refine AOps.cons rfl rfl (q_move) ?_
    refine AOps.cons rfl rfl (q_nil) ?_
    refine AOps.cons rfl rfl (q_fa) ?_
    refine AOps.cons rfl rfl (q_store) ?_
    refine AOps.nil ?_
    refine AWp.seq ?_
    refine AWp.seq ?_
    refine AWp.region ?_
    refine AOps.cons rfl rfl (q_move) ?_
    refine AOps.cons rfl rfl (q_move) ?_
    refine AOps.bool rfl rfl (q_call (0) (hc := (c_ciceroneref03_Can t (ac ++ (b.take en).drop p) 1 (by rw [List.length_append, List.length_drop, List.length_take]; omega)))) (fun h17_2 => ?_) (fun h17_2 => ?_)
    ·
     refine AOps.cons rfl rfl (q_not) ?_
     refine AOps.nil ?_
     refine AWp.cond_f rfl ?_
     refine AWp.skip ?_
     refine AWp.seq ?_
     refine AWp.region ?_
     refine AOps.cons rfl rfl (q_move) ?_
     refine AOps.cons rfl rfl (q_assign) ?_
     refine AOps.cons rfl rfl (q_assign) ?_
     refine AOps.nil ?_
     refine AWp.ret ?_
     show Fin te Try.f94 _ _
     have hX : rdD b t p0 en = .ok (ac ++ (b.take en).drop p) := by rw [rdD_go hg, hE2, rdO, if_pos h17_2]
     rw [hX]
     refine q_retH (0) [] [_, _] [_, _] [(_, _)] ?_ (hobj := by repeat' (first | exact trivial | exact lv_ok rfl | exact lv_sl rfl rfl | exact lv_rn rfl rfl .row rfl | exact lv_ptr rfl rfl | exact lv_mp rfl rfl | exact lv_nilz | exact lv_any | exact lv_row0 rfl rfl .row (fun _ => rfl) (Nat.le_of_ble_eq_true rfl) (fun _ => rfl) | exact lobj_row (fun _ => rfl) | exact lobj_rown (fun _ => rfl) | exact lobj_me (fun _ => rfl) | refine lobj_box ?_ | refine ⟨rfl, ⟨_, rfl, ?_⟩, ?_⟩ | refine ⟨?_, ?_⟩)) (h2 := by repeat' (first | exact trivial | exact lv_ok rfl | exact lv_ptr rfl rfl | exact lv_sl rfl rfl | exact lv_nilz | exact lv_row0 rfl rfl .row (fun _ => rfl) (Nat.le_of_ble_eq_true rfl) (fun _ => rfl) | refine lv_agg ?_ | exact lv_any | refine ⟨?_, ?_⟩))
     rfl
    ·
     refine AOps.cons rfl rfl (q_not) ?_
     refine AOps.nil ?_
     refine AWp.cond_t rfl ?_
     refine AWp.seq ?_
     refine AWp.region ?_
     refine AOps.cons rfl rfl (q_nilz (0) bc) ?_
     refine AOps.cons rfl rfl (q_assign) ?_
     refine AOps.nil ?_
     refine AWp.ret ?_
     show Fin te Try.f94 _ _
     have hX : rdD b t p0 en = .error 30 := by rw [rdD_go hg, hE2, rdO, if_neg (by simp [h17_2])]
     rw [hX]
     refine q_retH (0) [] [_, _] [_, _] [(_, _)] ?_ (hobj := by repeat' (first | exact trivial | exact lv_ok rfl | exact lv_sl rfl rfl | exact lv_rn rfl rfl .row rfl | exact lv_ptr rfl rfl | exact lv_mp rfl rfl | exact lv_nilz | exact lv_any | exact lv_row0 rfl rfl .row (fun _ => rfl) (Nat.le_of_ble_eq_true rfl) (fun _ => rfl) | exact lobj_row (fun _ => rfl) | exact lobj_rown (fun _ => rfl) | exact lobj_me (fun _ => rfl) | refine lobj_box ?_ | refine ⟨rfl, ⟨_, rfl, ?_⟩, ?_⟩ | refine ⟨?_, ?_⟩)) (h2 := by repeat' (first | exact trivial | exact lv_ok rfl | exact lv_ptr rfl rfl | exact lv_sl rfl rfl | exact lv_nilz | exact lv_row0 rfl rfl .row (fun _ => rfl) (Nat.le_of_ble_eq_true rfl) (fun _ => rfl) | refine lv_agg ?_ | exact lv_any | refine ⟨?_, ?_⟩))
     rfl
end Go.Proofs.Ytkfccjbihcbmiaa.Fw


set_option linter.unusedVariables false
set_option linter.unusedSimpArgs false
namespace Go.Proofs.Ytkfccjbihcbmiaa.Fw
open Go.RowKit
section
variable {b : List UInt8} {t : Int} {p0 en : Nat}
theorem c_rrdata_ok {d : List UInt8} (hb : b.length ≤ 65535) (he : en ≤ b.length) (hp : p0 ≤ en) (h : rdD b t p0 en = .ok d) : AC Try.prog 94 [.ptr 0 0 0, i64 t, i64 en] (hlook [(0, .box [.fz 0 b.length (cl bc b), i64 p0])]) (RetH (.tup [.fz 0 d.length (cl bc d), i64 0]) [(0, .box [.fz 0 b.length (cl bc b), i64 en])]) := by
  have := c_rrdata b t p0 en hb he hp
  rw [h] at this
  exact this
theorem c_rrdata_er {e : Int} (hb : b.length ≤ 65535) (he : en ≤ b.length) (hp : p0 ≤ en) (h : rdD b t p0 en = .error e) : AC Try.prog 94 [.ptr 0 0 0, i64 t, i64 en] (hlook [(0, .box [.fz 0 b.length (cl bc b), i64 p0])]) (RetH (.tup [.fz 0 ([] : List UInt8).length (cl bc []), i64 e]) [(0, .box [.fz 0 b.length (cl bc b), .any])]) := by
  have := c_rrdata b t p0 en hb he hp
  rw [h] at this
  exact this
end
theorem rdNs_ne0 {b : List UInt8} {en : Nat} : ∀ (k : Nat) (acc : List UInt8) (p : Nat) {e : Int}, rdNs b en k acc p = .error e → e ≠ 0
  | 0, acc, p, e, h => by cases h
  | k + 1, acc, p, e, h => by
    cases h1 : rdN b 30 p p en none [] with
    | error x =>
      rw [rdNs_err h1] at h
      cases h
      rw [rdN_sh] at h1
      cases h2 : rdN b 20 p p en none [] with
      | error y =>
        rw [h2] at h1
        have h3 : (if y = 20 then 30 else y) = e := by simpa [shE] using h1
        rw [← h3]; split
        · decide
        · exact rdN_ne0 _ _ _ _ _ h2
      | ok a => rw [h2] at h1; cases h1
    | ok a => rw [rdNs_ok h1] at h; exact rdNs_ne0 k _ _ h
theorem rdD_ne0 {b : List UInt8} {t : Int} {p en : Nat} {e : Int} (h : rdD b t p en = .error e) : e ≠ 0 := by
  unfold rdD at h
  split at h
  · cases h; decide
  · cases h1 : rdNs b en (nCnt t) (if t = 15 then (b.take (p + 2)).drop p else []) (if t = 15 then p + 2 else p) with
    | error x => rw [h1] at h; cases h; exact rdNs_ne0 _ _ _ h1
    | ok a =>
      rw [h1, rdO] at h
      split at h
      · cases h
      · cases h; decide
theorem rdR_ne0 {b : List UInt8} {p : Nat} {e : Int} (h : rdR b p = .error e) : e ≠ 0 := by
  unfold rdR at h
  cases h1 : rdN b 20 p p b.length none [] with
  | error x => rw [h1] at h; cases h; exact rdN_ne0 _ _ _ _ _ h1
  | ok a =>
    rw [h1, rdR1] at h
    split at h
    · cases h; decide
    · cases h2 : rdD b (bN b a.2 2) (a.2 + 10) (a.2 + 10 + bN b (a.2 + 8) 2) with
      | error x => rw [h2] at h; cases h; exact rdD_ne0 h2
      | ok d => rw [h2] at h; cases h
def zR : Rr := ⟨[], 0, 0, 0, []⟩
def recV1 (b : List UInt8) (n : List UInt8) (q : Nat) : Except Int (List UInt8) → Rr
  | .error _ => ⟨n, bN b q 2, bN b (q + 2) 2, bN b (q + 4) 4, []⟩
  | .ok d => ⟨n, bN b q 2, bN b (q + 2) 2, bN b (q + 4) 4, d⟩
def recV0 (b : List UInt8) : Except Int (List UInt8 × Nat) → Rr
  | .error _ => zR
  | .ok a => if b.length < a.2 + 10 ∨ b.length < a.2 + 10 + bN b (a.2 + 8) 2 then zR else recV1 b a.1 a.2 (rdD b (bN b a.2 2) (a.2 + 10) (a.2 + 10 + bN b (a.2 + 8) 2))
def recV (b : List UInt8) (p : Nat) : Rr := recV0 b (rdN b 20 p p b.length none [])
theorem recV_er {b : List UInt8} {p : Nat} {e : Int} (h : rdN b 20 p p b.length none [] = .error e) : recV b p = zR := by rw [recV, h]; rfl
theorem recV_sh {b : List UInt8} {p : Nat} {a : List UInt8 × Nat} (h : rdN b 20 p p b.length none [] = .ok a) (h1 : b.length < a.2 + 10 ∨ b.length < a.2 + 10 + bN b (a.2 + 8) 2) : recV b p = zR := by rw [recV, h, recV0, if_pos h1]
theorem recV_go {b : List UInt8} {p : Nat} {a : List UInt8 × Nat} (h : rdN b 20 p p b.length none [] = .ok a) (h1 : ¬ b.length < a.2 + 10) (h2 : ¬ b.length < a.2 + 10 + bN b (a.2 + 8) 2) : recV b p = recV1 b a.1 a.2 (rdD b (bN b a.2 2) (a.2 + 10) (a.2 + 10 + bN b (a.2 + 8) 2)) := by rw [recV, h, recV0, if_neg (by omega)]
set_option maxRecDepth 20000 in
set_option maxHeartbeats 2000000 in
theorem c_rrrec (b : List UInt8) (p0 : Nat) (hb : b.length ≤ 65535) (hp : p0 ≤ 100000) : AC Try.prog 75 [.ptr 0 0 0] (hlook [(0, .box [.fz 0 b.length (cl bc b), i64 p0])]) (RetH (.tup [.agg (rrc (recV b p0)), i64 (rnE (rdR b p0))]) [(0, .box [.fz 0 b.length (cl bc b), atE (rdR b p0)])]) := by
 refine AC.intro te_ok (fn := Try.f75) ⟨Try.func75, rfl, rfl⟩ (Nat.le_of_ble_eq_true rfl) ?_
 refine AWp.seq ?_
 refine AWp.region ?_
 refine AOps.cons rfl rfl (q_alloc 100) ?_
 refine AOps.cons rfl rfl (q_assign) ?_
 refine AOps.nil ?_
 refine AWp.seq ?_
 refine AWp.region ?_
 rcases ha : rdN b 20 p0 p0 b.length none [] with e | a
 ·
  refine AOps.cons rfl rfl (q_move) ?_
  refine AOps.cons rfl rfl (q_move) ?_
  refine AOps.cons rfl rfl (q_nil) ?_
  refine AOps.cons rfl rfl (q_fa) ?_
  refine AOps.cons rfl rfl (q_load) ?_
  refine AOps.cons rfl rfl (q_len) ?_
  refine AOps.cons rfl rfl (q_callB (0) [(0, 0)] [] [(_, _)] (hc := (c_rrname_er hb (Nat.le_refl _) hp ha))) ?_
  refine AOps.cons rfl rfl (q_move) ?_
  refine AOps.cons rfl rfl (q_extract) ?_
  refine AOps.cons rfl rfl (q_extract) ?_
  refine AOps.cons rfl rfl (q_assign) ?_
  refine AOps.cons rfl rfl (q_assign) ?_
  refine AOps.nil ?_
  refine AWp.seq ?_
  refine AWp.seq ?_
  refine AWp.region ?_
  refine AOps.cons rfl rfl (q_move) ?_
  refine AOps.dec rfl rfl (q_neq) (fun h2_1 => ?_) (fun h2_1 => ?_)
  ·
   refine AOps.nil ?_
   refine AWp.cond_t rfl ?_
   refine AWp.seq ?_
   refine AWp.region ?_
   refine AOps.cons rfl rfl (q_build []) ?_
   refine AOps.cons rfl rfl (q_move) ?_
   refine AOps.cons rfl rfl (q_store) ?_
   refine AOps.cons rfl rfl (q_assign) ?_
   refine AOps.nil ?_
   refine AWp.ret ?_
   show Fin te Try.f75 _ _
   have hX : rdR b p0 = .error e := by rw [rdR, ha]; rfl
   rw [hX, recV_er ha]
   refine q_retH (0) [] [_, _] [.agg (rrc zR), _] [(_, _)] ?_ (hobj := by repeat' (first | exact trivial | exact lv_ok rfl | exact lv_sl rfl rfl | exact lv_rn rfl rfl .row rfl | exact lv_ptr rfl rfl | exact lv_mp rfl rfl | exact lv_nilz | exact lv_any | exact lv_row0 rfl rfl .row (fun _ => rfl) (Nat.le_of_ble_eq_true rfl) (fun _ => rfl) | exact lobj_row (fun _ => rfl) | exact lobj_rown (fun _ => rfl) | exact lobj_me (fun _ => rfl) | refine lobj_box ?_ | refine ⟨rfl, ⟨_, rfl, ?_⟩, ?_⟩ | refine ⟨?_, ?_⟩)) (h2 := by repeat' (first | exact trivial | exact lv_ok rfl | exact lv_ptr rfl rfl | exact lv_sl rfl rfl | exact lv_nilz | exact lv_row0 rfl rfl .row (fun _ => rfl) (Nat.le_of_ble_eq_true rfl) (fun _ => rfl) | refine lv_agg ?_ | exact lv_any | refine ⟨?_, ?_⟩))
   rfl
  ·
   exfalso; exact h2_1 (rdN_ne0 _ _ _ _ _ ha)
 ·
  refine AOps.cons rfl rfl (q_move) ?_
  refine AOps.cons rfl rfl (q_move) ?_
  refine AOps.cons rfl rfl (q_nil) ?_
  refine AOps.cons rfl rfl (q_fa) ?_
  refine AOps.cons rfl rfl (q_load) ?_
  refine AOps.cons rfl rfl (q_len) ?_
  refine AOps.cons rfl rfl (q_callB (0) [(0, 0)] [] [(_, _)] (hc := (c_rrname_ok hb (Nat.le_refl _) hp ha))) ?_
  refine AOps.cons rfl rfl (q_move) ?_
  refine AOps.cons rfl rfl (q_extract) ?_
  refine AOps.cons rfl rfl (q_extract) ?_
  refine AOps.cons rfl rfl (q_assign) ?_
  refine AOps.cons rfl rfl (q_assign) ?_
  refine AOps.nil ?_
  refine AWp.seq ?_
  refine AWp.seq ?_
  refine AWp.region ?_
  refine AOps.cons rfl rfl (q_move) ?_
  refine AOps.dec rfl rfl (q_neq) (fun h2_1 => ?_) (fun h2_1 => ?_)
  ·
   exfalso; simp at h2_1
  ·
   refine AOps.nil ?_
   refine AWp.cond_f rfl ?_
   refine AWp.skip ?_
   refine AWp.seq ?_
   refine AWp.region ?_
   refine AOps.cons rfl rfl (q_move) ?_
   refine AOps.cons rfl rfl (q_build [(_, _)]) ?_
   refine AOps.cons rfl rfl (q_alloc 502) ?_
   refine AOps.cons rfl rfl (q_store) ?_
   refine AOps.nil ?_
   refine AWp.seq ?_
   refine AWp.region ?_
   refine AOps.cons rfl rfl (q_assign) ?_
   refine AOps.nil ?_
   refine AWp.seq ?_
   refine AWp.region ?_
   refine AOps.cons rfl rfl (q_buildA tc [false, false, false, false] []) ?_
   refine AOps.cons rfl rfl (q_alloc 701) ?_
   refine AOps.cons rfl rfl (q_store) ?_
   refine AOps.nil ?_
   refine AWp.seq ?_
   refine AWp.region ?_
   obtain ⟨n1, n2, n3⟩ := rdN_ok0 ha
   have hsz := bN_lt2 (b := b) (i := a.2 + 8)
   rcases (by omega : b.length < a.2 + 2 ∨ (a.2 + 2 ≤ b.length ∧ b.length < a.2 + 4) ∨ (a.2 + 4 ≤ b.length ∧ b.length < a.2 + 6) ∨ (a.2 + 6 ≤ b.length ∧ b.length < a.2 + 8) ∨ (a.2 + 8 ≤ b.length ∧ b.length < a.2 + 10) ∨ a.2 + 10 ≤ b.length) with g1 | g1 | g1 | g1 | g1 | g1
   ·
    refine AOps.cons rfl rfl (q_move) ?_
    refine AOps.cons rfl rfl (q_callB (0) [(0, 0)] [] [(_, _)] (hc := (c_rrnum_no b (a.2) 2 hb (by omega) (by omega) (by omega)))) ?_
    refine AOps.cons rfl rfl (q_move) ?_
    refine AOps.cons rfl rfl (q_extract) ?_
    refine AOps.cons rfl rfl (q_extract) ?_
    refine AOps.cons rfl rfl (q_fa) ?_
    refine AOps.cons rfl rfl (q_store) ?_
    refine AOps.cons rfl rfl (q_ixa) ?_
    refine AOps.cons rfl rfl (q_store) ?_
    refine AOps.nil ?_
    refine AWp.seq ?_
    refine AWp.region ?_
    refine AOps.cons rfl rfl (q_move) ?_
    refine AOps.cons rfl rfl (q_callB (0) [(0, 0)] [] [(_, _)] (hc := (c_rrnum_no b (a.2) 2 hb (by omega) (by omega) (by omega)))) ?_
    refine AOps.cons rfl rfl (q_move) ?_
    refine AOps.cons rfl rfl (q_extract) ?_
    refine AOps.cons rfl rfl (q_extract) ?_
    refine AOps.cons rfl rfl (q_fa) ?_
    refine AOps.cons rfl rfl (q_store) ?_
    refine AOps.cons rfl rfl (q_ixa) ?_
    refine AOps.cons rfl rfl (q_store) ?_
    refine AOps.nil ?_
    refine AWp.seq ?_
    refine AWp.region ?_
    refine AOps.cons rfl rfl (q_move) ?_
    refine AOps.cons rfl rfl (q_callB (0) [(0, 0)] [] [(_, _)] (hc := (c_rrnum_no b (a.2) 4 hb (by omega) (by omega) (by omega)))) ?_
    refine AOps.cons rfl rfl (q_move) ?_
    refine AOps.cons rfl rfl (q_extract) ?_
    refine AOps.cons rfl rfl (q_extract) ?_
    refine AOps.cons rfl rfl (q_fa) ?_
    refine AOps.cons rfl rfl (q_store) ?_
    refine AOps.cons rfl rfl (q_ixa) ?_
    refine AOps.cons rfl rfl (q_store) ?_
    refine AOps.nil ?_
    refine AWp.seq ?_
    refine AWp.region ?_
    refine AOps.cons rfl rfl (q_move) ?_
    refine AOps.cons rfl rfl (q_callB (0) [(0, 0)] [] [(_, _)] (hc := (c_rrnum_no b (a.2) 2 hb (by omega) (by omega) (by omega)))) ?_
    refine AOps.cons rfl rfl (q_move) ?_
    refine AOps.cons rfl rfl (q_extract) ?_
    refine AOps.cons rfl rfl (q_extract) ?_
    refine AOps.cons rfl rfl (q_assign) ?_
    refine AOps.cons rfl rfl (q_ixa) ?_
    refine AOps.cons rfl rfl (q_store) ?_
    refine AOps.nil ?_
    refine AWp.seq ?_
    refine AWp.seq ?_
    refine AWp.draws [⟨0, [8], [701], some 53, _, none⟩,
        ⟨1, [], [], some 54, _, none⟩,
        ⟨2, [53, 54], [], some 55, _, none⟩,
        ⟨3, [55], [], some 56, _, none⟩,
        ⟨4, [56], [], some 57, .v undef, none⟩,
        ⟨5, [56], [], some 58, .v undef, none⟩,
        ⟨6, [56], [], some 59, .v undef, none⟩,
        ⟨7, [56], [], some 60, .v undef, none⟩,
        ⟨8, [56], [], some 61, .v undef, none⟩,
        ⟨9, [56], [], some 62, .v undef, none⟩,
        ⟨10, [56], [], some 63, .v undef, none⟩,
        ⟨11, [56], [], some 64, .v undef, none⟩,
        ⟨12, [56], [], some 65, .v undef, none⟩,
        ⟨13, [56], [], some 66, .v undef, none⟩,
        ⟨14, [56], [], some 67, .v undef, none⟩,
        ⟨15, [56], [], some 68, .v undef, none⟩,
        ⟨16, [56, 68], [], some 69, _, none⟩]
     [⟨0, [8], [701], some 53, .any, none⟩,
         ⟨1, [], [], some 54, .any, none⟩,
         ⟨2, [53, 54], [], some 55, .any, none⟩,
         ⟨3, [55], [], some 56, .any, none⟩,
         ⟨4, [56], [], some 57, .any, none⟩,
         ⟨5, [56], [], some 58, .any, none⟩,
         ⟨6, [56], [], some 59, .any, none⟩,
         ⟨7, [56], [], some 60, .any, none⟩,
         ⟨8, [56], [], some 61, .any, none⟩,
         ⟨9, [56], [], some 62, .any, none⟩,
         ⟨10, [56], [], some 63, .any, none⟩,
         ⟨11, [56], [], some 64, .any, none⟩,
         ⟨12, [56], [], some 65, .any, none⟩,
         ⟨13, [56], [], some 66, .any, none⟩,
         ⟨14, [56], [], some 67, .any, none⟩,
         ⟨15, [56], [], some 68, .any, none⟩,
         ⟨16, [56, 68], [], some 69, .any, none⟩]
     mixed_ok rfl (by kernel_rfl) ⟨DS.ok_over fun s0 => OpAt.go rfl rfl (q_load),
         DS.ok_over fun s0 => OpAt.go rfl rfl (q_buildA tc [true, true, true, true] [(_, _), (_, _), (_, _), (_, _)]),
         DS.ok_over fun s0 => OpAt.go rfl rfl ((OpOk.bool_is (c := true) (q_eqp) (rfl))),
         DS.ok_over fun s0 => OpAt.go rfl rfl (q_move),
         DS.ok_over fun s0 => OpAt.gskip rfl rfl rfl rfl rfl rfl rfl rfl,
         DS.ok_over fun s0 => OpAt.gskip rfl rfl rfl rfl rfl rfl rfl rfl,
         DS.ok_over fun s0 => OpAt.gskip rfl rfl rfl rfl rfl rfl rfl rfl,
         DS.ok_over fun s0 => OpAt.gskip rfl rfl rfl rfl rfl rfl rfl rfl,
         DS.ok_over fun s0 => OpAt.gskip rfl rfl rfl rfl rfl rfl rfl rfl,
         DS.ok_over fun s0 => OpAt.gskip rfl rfl rfl rfl rfl rfl rfl rfl,
         DS.ok_over fun s0 => OpAt.gskip rfl rfl rfl rfl rfl rfl rfl rfl,
         DS.ok_over fun s0 => OpAt.gskip rfl rfl rfl rfl rfl rfl rfl rfl,
         DS.ok_over fun s0 => OpAt.gskip rfl rfl rfl rfl rfl rfl rfl rfl,
         DS.ok_over fun s0 => OpAt.gskip rfl rfl rfl rfl rfl rfl rfl rfl,
         DS.ok_over fun s0 => OpAt.gskip rfl rfl rfl rfl rfl rfl rfl rfl,
         DS.ok_over fun s0 => OpAt.gskip rfl rfl rfl rfl rfl rfl rfl rfl,
         DS.ok_over fun s0 => OpAt.go rfl rfl (q_pick), trivial⟩ ?_
    dsimp only [final, DS.upd, AS.seto]
    refine AWp.cond_t rfl ?_
    refine AWp.seq ?_
    refine AWp.region ?_
    refine AOps.cons rfl rfl (q_build []) ?_
    refine AOps.cons rfl rfl (q_store) ?_
    refine AOps.cons rfl rfl (q_assign) ?_
    refine AOps.nil ?_
    refine AWp.ret ?_
    show Fin te Try.f75 _ _
    have hX : rdR b p0 = .error 20 := rdR_bad ha (by omega)
    rw [hX, recV_sh ha (by omega)]
    refine q_retH (0) [] [_, _] [.agg (rrc zR), _] [(_, _)] ?_ (hobj := by repeat' (first | exact trivial | exact lv_ok rfl | exact lv_sl rfl rfl | exact lv_rn rfl rfl .row rfl | exact lv_ptr rfl rfl | exact lv_mp rfl rfl | exact lv_nilz | exact lv_any | exact lv_row0 rfl rfl .row (fun _ => rfl) (Nat.le_of_ble_eq_true rfl) (fun _ => rfl) | exact lobj_row (fun _ => rfl) | exact lobj_rown (fun _ => rfl) | exact lobj_me (fun _ => rfl) | refine lobj_box ?_ | refine ⟨rfl, ⟨_, rfl, ?_⟩, ?_⟩ | refine ⟨?_, ?_⟩)) (h2 := by repeat' (first | exact trivial | exact lv_ok rfl | exact lv_ptr rfl rfl | exact lv_sl rfl rfl | exact lv_nilz | exact lv_row0 rfl rfl .row (fun _ => rfl) (Nat.le_of_ble_eq_true rfl) (fun _ => rfl) | refine lv_agg ?_ | exact lv_any | refine ⟨?_, ?_⟩))
    rfl
   ·
    refine AOps.cons rfl rfl (q_move) ?_
    refine AOps.cons rfl rfl (q_callB (0) [(0, 0)] [] [(_, _)] (hc := (c_rrnum_ok b (a.2) 2 hb (by omega) (by omega) (by omega)))) ?_
    refine AOps.cons rfl rfl (q_move) ?_
    refine AOps.cons rfl rfl (q_extract) ?_
    refine AOps.cons rfl rfl (q_extract) ?_
    refine AOps.cons rfl rfl (q_fa) ?_
    refine AOps.cons rfl rfl (q_store) ?_
    refine AOps.cons rfl rfl (q_ixa) ?_
    refine AOps.cons rfl rfl (q_store) ?_
    refine AOps.nil ?_
    refine AWp.seq ?_
    refine AWp.region ?_
    refine AOps.cons rfl rfl (q_move) ?_
    refine AOps.cons rfl rfl (q_callB (0) [(0, 0)] [] [(_, _)] (hc := (c_rrnum_no b (a.2 + 2) 2 hb (by omega) (by omega) (by omega)))) ?_
    refine AOps.cons rfl rfl (q_move) ?_
    refine AOps.cons rfl rfl (q_extract) ?_
    refine AOps.cons rfl rfl (q_extract) ?_
    refine AOps.cons rfl rfl (q_fa) ?_
    refine AOps.cons rfl rfl (q_store) ?_
    refine AOps.cons rfl rfl (q_ixa) ?_
    refine AOps.cons rfl rfl (q_store) ?_
    refine AOps.nil ?_
    refine AWp.seq ?_
    refine AWp.region ?_
    refine AOps.cons rfl rfl (q_move) ?_
    refine AOps.cons rfl rfl (q_callB (0) [(0, 0)] [] [(_, _)] (hc := (c_rrnum_no b (a.2 + 2) 4 hb (by omega) (by omega) (by omega)))) ?_
    refine AOps.cons rfl rfl (q_move) ?_
    refine AOps.cons rfl rfl (q_extract) ?_
    refine AOps.cons rfl rfl (q_extract) ?_
    refine AOps.cons rfl rfl (q_fa) ?_
    refine AOps.cons rfl rfl (q_store) ?_
    refine AOps.cons rfl rfl (q_ixa) ?_
    refine AOps.cons rfl rfl (q_store) ?_
    refine AOps.nil ?_
    refine AWp.seq ?_
    refine AWp.region ?_
    refine AOps.cons rfl rfl (q_move) ?_
    refine AOps.cons rfl rfl (q_callB (0) [(0, 0)] [] [(_, _)] (hc := (c_rrnum_no b (a.2 + 2) 2 hb (by omega) (by omega) (by omega)))) ?_
    refine AOps.cons rfl rfl (q_move) ?_
    refine AOps.cons rfl rfl (q_extract) ?_
    refine AOps.cons rfl rfl (q_extract) ?_
    refine AOps.cons rfl rfl (q_assign) ?_
    refine AOps.cons rfl rfl (q_ixa) ?_
    refine AOps.cons rfl rfl (q_store) ?_
    refine AOps.nil ?_
    refine AWp.seq ?_
    refine AWp.seq ?_
    refine AWp.draws [⟨0, [8], [701], some 53, _, none⟩,
        ⟨1, [], [], some 54, _, none⟩,
        ⟨2, [53, 54], [], some 55, _, none⟩,
        ⟨3, [55], [], some 56, _, none⟩,
        ⟨4, [56], [], some 57, .v undef, none⟩,
        ⟨5, [56], [], some 58, .v undef, none⟩,
        ⟨6, [56], [], some 59, .v undef, none⟩,
        ⟨7, [56], [], some 60, .v undef, none⟩,
        ⟨8, [56], [], some 61, .v undef, none⟩,
        ⟨9, [56], [], some 62, .v undef, none⟩,
        ⟨10, [56], [], some 63, .v undef, none⟩,
        ⟨11, [56], [], some 64, .v undef, none⟩,
        ⟨12, [56], [], some 65, .v undef, none⟩,
        ⟨13, [56], [], some 66, .v undef, none⟩,
        ⟨14, [56], [], some 67, .v undef, none⟩,
        ⟨15, [56], [], some 68, .v undef, none⟩,
        ⟨16, [56, 68], [], some 69, _, none⟩]
     [⟨0, [8], [701], some 53, .any, none⟩,
         ⟨1, [], [], some 54, .any, none⟩,
         ⟨2, [53, 54], [], some 55, .any, none⟩,
         ⟨3, [55], [], some 56, .any, none⟩,
         ⟨4, [56], [], some 57, .any, none⟩,
         ⟨5, [56], [], some 58, .any, none⟩,
         ⟨6, [56], [], some 59, .any, none⟩,
         ⟨7, [56], [], some 60, .any, none⟩,
         ⟨8, [56], [], some 61, .any, none⟩,
         ⟨9, [56], [], some 62, .any, none⟩,
         ⟨10, [56], [], some 63, .any, none⟩,
         ⟨11, [56], [], some 64, .any, none⟩,
         ⟨12, [56], [], some 65, .any, none⟩,
         ⟨13, [56], [], some 66, .any, none⟩,
         ⟨14, [56], [], some 67, .any, none⟩,
         ⟨15, [56], [], some 68, .any, none⟩,
         ⟨16, [56, 68], [], some 69, .any, none⟩]
     mixed_ok rfl (by kernel_rfl) ⟨DS.ok_over fun s0 => OpAt.go rfl rfl (q_load),
         DS.ok_over fun s0 => OpAt.go rfl rfl (q_buildA tc [true, true, true, true] [(_, _), (_, _), (_, _), (_, _)]),
         DS.ok_over fun s0 => OpAt.go rfl rfl ((OpOk.bool_is (c := true) (q_eqp) (rfl))),
         DS.ok_over fun s0 => OpAt.go rfl rfl (q_move),
         DS.ok_over fun s0 => OpAt.gskip rfl rfl rfl rfl rfl rfl rfl rfl,
         DS.ok_over fun s0 => OpAt.gskip rfl rfl rfl rfl rfl rfl rfl rfl,
         DS.ok_over fun s0 => OpAt.gskip rfl rfl rfl rfl rfl rfl rfl rfl,
         DS.ok_over fun s0 => OpAt.gskip rfl rfl rfl rfl rfl rfl rfl rfl,
         DS.ok_over fun s0 => OpAt.gskip rfl rfl rfl rfl rfl rfl rfl rfl,
         DS.ok_over fun s0 => OpAt.gskip rfl rfl rfl rfl rfl rfl rfl rfl,
         DS.ok_over fun s0 => OpAt.gskip rfl rfl rfl rfl rfl rfl rfl rfl,
         DS.ok_over fun s0 => OpAt.gskip rfl rfl rfl rfl rfl rfl rfl rfl,
         DS.ok_over fun s0 => OpAt.gskip rfl rfl rfl rfl rfl rfl rfl rfl,
         DS.ok_over fun s0 => OpAt.gskip rfl rfl rfl rfl rfl rfl rfl rfl,
         DS.ok_over fun s0 => OpAt.gskip rfl rfl rfl rfl rfl rfl rfl rfl,
         DS.ok_over fun s0 => OpAt.gskip rfl rfl rfl rfl rfl rfl rfl rfl,
         DS.ok_over fun s0 => OpAt.go rfl rfl (q_pick), trivial⟩ ?_
    dsimp only [final, DS.upd, AS.seto]
    refine AWp.cond_t rfl ?_
    refine AWp.seq ?_
    refine AWp.region ?_
    refine AOps.cons rfl rfl (q_build []) ?_
    refine AOps.cons rfl rfl (q_store) ?_
    refine AOps.cons rfl rfl (q_assign) ?_
    refine AOps.nil ?_
    refine AWp.ret ?_
    show Fin te Try.f75 _ _
    have hX : rdR b p0 = .error 20 := rdR_bad ha (by omega)
    rw [hX, recV_sh ha (by omega)]
    refine q_retH (0) [] [_, _] [.agg (rrc zR), _] [(_, _)] ?_ (hobj := by repeat' (first | exact trivial | exact lv_ok rfl | exact lv_sl rfl rfl | exact lv_rn rfl rfl .row rfl | exact lv_ptr rfl rfl | exact lv_mp rfl rfl | exact lv_nilz | exact lv_any | exact lv_row0 rfl rfl .row (fun _ => rfl) (Nat.le_of_ble_eq_true rfl) (fun _ => rfl) | exact lobj_row (fun _ => rfl) | exact lobj_rown (fun _ => rfl) | exact lobj_me (fun _ => rfl) | refine lobj_box ?_ | refine ⟨rfl, ⟨_, rfl, ?_⟩, ?_⟩ | refine ⟨?_, ?_⟩)) (h2 := by repeat' (first | exact trivial | exact lv_ok rfl | exact lv_ptr rfl rfl | exact lv_sl rfl rfl | exact lv_nilz | exact lv_row0 rfl rfl .row (fun _ => rfl) (Nat.le_of_ble_eq_true rfl) (fun _ => rfl) | refine lv_agg ?_ | exact lv_any | refine ⟨?_, ?_⟩))
    rfl
   ·
    refine AOps.cons rfl rfl (q_move) ?_
    refine AOps.cons rfl rfl (q_callB (0) [(0, 0)] [] [(_, _)] (hc := (c_rrnum_ok b (a.2) 2 hb (by omega) (by omega) (by omega)))) ?_
    refine AOps.cons rfl rfl (q_move) ?_
    refine AOps.cons rfl rfl (q_extract) ?_
    refine AOps.cons rfl rfl (q_extract) ?_
    refine AOps.cons rfl rfl (q_fa) ?_
    refine AOps.cons rfl rfl (q_store) ?_
    refine AOps.cons rfl rfl (q_ixa) ?_
    refine AOps.cons rfl rfl (q_store) ?_
    refine AOps.nil ?_
    refine AWp.seq ?_
    refine AWp.region ?_
    refine AOps.cons rfl rfl (q_move) ?_
    refine AOps.cons rfl rfl (q_callB (0) [(0, 0)] [] [(_, _)] (hc := (c_rrnum_ok b (a.2 + 2) 2 hb (by omega) (by omega) (by omega)))) ?_
    refine AOps.cons rfl rfl (q_move) ?_
    refine AOps.cons rfl rfl (q_extract) ?_
    refine AOps.cons rfl rfl (q_extract) ?_
    refine AOps.cons rfl rfl (q_fa) ?_
    refine AOps.cons rfl rfl (q_store) ?_
    refine AOps.cons rfl rfl (q_ixa) ?_
    refine AOps.cons rfl rfl (q_store) ?_
    refine AOps.nil ?_
    refine AWp.seq ?_
    refine AWp.region ?_
    refine AOps.cons rfl rfl (q_move) ?_
    refine AOps.cons rfl rfl (q_callB (0) [(0, 0)] [] [(_, _)] (hc := (c_rrnum_no b (a.2 + 4) 4 hb (by omega) (by omega) (by omega)))) ?_
    refine AOps.cons rfl rfl (q_move) ?_
    refine AOps.cons rfl rfl (q_extract) ?_
    refine AOps.cons rfl rfl (q_extract) ?_
    refine AOps.cons rfl rfl (q_fa) ?_
    refine AOps.cons rfl rfl (q_store) ?_
    refine AOps.cons rfl rfl (q_ixa) ?_
    refine AOps.cons rfl rfl (q_store) ?_
    refine AOps.nil ?_
    refine AWp.seq ?_
    refine AWp.region ?_
    refine AOps.cons rfl rfl (q_move) ?_
    refine AOps.cons rfl rfl (q_callB (0) [(0, 0)] [] [(_, _)] (hc := (c_rrnum_no b (a.2 + 4) 2 hb (by omega) (by omega) (by omega)))) ?_
    refine AOps.cons rfl rfl (q_move) ?_
    refine AOps.cons rfl rfl (q_extract) ?_
    refine AOps.cons rfl rfl (q_extract) ?_
    refine AOps.cons rfl rfl (q_assign) ?_
    refine AOps.cons rfl rfl (q_ixa) ?_
    refine AOps.cons rfl rfl (q_store) ?_
    refine AOps.nil ?_
    refine AWp.seq ?_
    refine AWp.seq ?_
    refine AWp.draws [⟨0, [8], [701], some 53, _, none⟩,
        ⟨1, [], [], some 54, _, none⟩,
        ⟨2, [53, 54], [], some 55, _, none⟩,
        ⟨3, [55], [], some 56, _, none⟩,
        ⟨4, [56], [], some 57, .v undef, none⟩,
        ⟨5, [56], [], some 58, .v undef, none⟩,
        ⟨6, [56], [], some 59, .v undef, none⟩,
        ⟨7, [56], [], some 60, .v undef, none⟩,
        ⟨8, [56], [], some 61, .v undef, none⟩,
        ⟨9, [56], [], some 62, .v undef, none⟩,
        ⟨10, [56], [], some 63, .v undef, none⟩,
        ⟨11, [56], [], some 64, .v undef, none⟩,
        ⟨12, [56], [], some 65, .v undef, none⟩,
        ⟨13, [56], [], some 66, .v undef, none⟩,
        ⟨14, [56], [], some 67, .v undef, none⟩,
        ⟨15, [56], [], some 68, .v undef, none⟩,
        ⟨16, [56, 68], [], some 69, _, none⟩]
     [⟨0, [8], [701], some 53, .any, none⟩,
         ⟨1, [], [], some 54, .any, none⟩,
         ⟨2, [53, 54], [], some 55, .any, none⟩,
         ⟨3, [55], [], some 56, .any, none⟩,
         ⟨4, [56], [], some 57, .any, none⟩,
         ⟨5, [56], [], some 58, .any, none⟩,
         ⟨6, [56], [], some 59, .any, none⟩,
         ⟨7, [56], [], some 60, .any, none⟩,
         ⟨8, [56], [], some 61, .any, none⟩,
         ⟨9, [56], [], some 62, .any, none⟩,
         ⟨10, [56], [], some 63, .any, none⟩,
         ⟨11, [56], [], some 64, .any, none⟩,
         ⟨12, [56], [], some 65, .any, none⟩,
         ⟨13, [56], [], some 66, .any, none⟩,
         ⟨14, [56], [], some 67, .any, none⟩,
         ⟨15, [56], [], some 68, .any, none⟩,
         ⟨16, [56, 68], [], some 69, .any, none⟩]
     mixed_ok rfl (by kernel_rfl) ⟨DS.ok_over fun s0 => OpAt.go rfl rfl (q_load),
         DS.ok_over fun s0 => OpAt.go rfl rfl (q_buildA tc [true, true, true, true] [(_, _), (_, _), (_, _), (_, _)]),
         DS.ok_over fun s0 => OpAt.go rfl rfl ((OpOk.bool_is (c := true) (q_eqp) (rfl))),
         DS.ok_over fun s0 => OpAt.go rfl rfl (q_move),
         DS.ok_over fun s0 => OpAt.gskip rfl rfl rfl rfl rfl rfl rfl rfl,
         DS.ok_over fun s0 => OpAt.gskip rfl rfl rfl rfl rfl rfl rfl rfl,
         DS.ok_over fun s0 => OpAt.gskip rfl rfl rfl rfl rfl rfl rfl rfl,
         DS.ok_over fun s0 => OpAt.gskip rfl rfl rfl rfl rfl rfl rfl rfl,
         DS.ok_over fun s0 => OpAt.gskip rfl rfl rfl rfl rfl rfl rfl rfl,
         DS.ok_over fun s0 => OpAt.gskip rfl rfl rfl rfl rfl rfl rfl rfl,
         DS.ok_over fun s0 => OpAt.gskip rfl rfl rfl rfl rfl rfl rfl rfl,
         DS.ok_over fun s0 => OpAt.gskip rfl rfl rfl rfl rfl rfl rfl rfl,
         DS.ok_over fun s0 => OpAt.gskip rfl rfl rfl rfl rfl rfl rfl rfl,
         DS.ok_over fun s0 => OpAt.gskip rfl rfl rfl rfl rfl rfl rfl rfl,
         DS.ok_over fun s0 => OpAt.gskip rfl rfl rfl rfl rfl rfl rfl rfl,
         DS.ok_over fun s0 => OpAt.gskip rfl rfl rfl rfl rfl rfl rfl rfl,
         DS.ok_over fun s0 => OpAt.go rfl rfl (q_pick), trivial⟩ ?_
    dsimp only [final, DS.upd, AS.seto]
    refine AWp.cond_t rfl ?_
    refine AWp.seq ?_
    refine AWp.region ?_
    refine AOps.cons rfl rfl (q_build []) ?_
    refine AOps.cons rfl rfl (q_store) ?_
    refine AOps.cons rfl rfl (q_assign) ?_
    refine AOps.nil ?_
    refine AWp.ret ?_
    show Fin te Try.f75 _ _
    have hX : rdR b p0 = .error 20 := rdR_bad ha (by omega)
    rw [hX, recV_sh ha (by omega)]
    refine q_retH (0) [] [_, _] [.agg (rrc zR), _] [(_, _)] ?_ (hobj := by repeat' (first | exact trivial | exact lv_ok rfl | exact lv_sl rfl rfl | exact lv_rn rfl rfl .row rfl | exact lv_ptr rfl rfl | exact lv_mp rfl rfl | exact lv_nilz | exact lv_any | exact lv_row0 rfl rfl .row (fun _ => rfl) (Nat.le_of_ble_eq_true rfl) (fun _ => rfl) | exact lobj_row (fun _ => rfl) | exact lobj_rown (fun _ => rfl) | exact lobj_me (fun _ => rfl) | refine lobj_box ?_ | refine ⟨rfl, ⟨_, rfl, ?_⟩, ?_⟩ | refine ⟨?_, ?_⟩)) (h2 := by repeat' (first | exact trivial | exact lv_ok rfl | exact lv_ptr rfl rfl | exact lv_sl rfl rfl | exact lv_nilz | exact lv_row0 rfl rfl .row (fun _ => rfl) (Nat.le_of_ble_eq_true rfl) (fun _ => rfl) | refine lv_agg ?_ | exact lv_any | refine ⟨?_, ?_⟩))
    rfl
   ·
    refine AOps.cons rfl rfl (q_move) ?_
    refine AOps.cons rfl rfl (q_callB (0) [(0, 0)] [] [(_, _)] (hc := (c_rrnum_ok b (a.2) 2 hb (by omega) (by omega) (by omega)))) ?_
    refine AOps.cons rfl rfl (q_move) ?_
    refine AOps.cons rfl rfl (q_extract) ?_
    refine AOps.cons rfl rfl (q_extract) ?_
    refine AOps.cons rfl rfl (q_fa) ?_
    refine AOps.cons rfl rfl (q_store) ?_
    refine AOps.cons rfl rfl (q_ixa) ?_
    refine AOps.cons rfl rfl (q_store) ?_
    refine AOps.nil ?_
    refine AWp.seq ?_
    refine AWp.region ?_
    refine AOps.cons rfl rfl (q_move) ?_
    refine AOps.cons rfl rfl (q_callB (0) [(0, 0)] [] [(_, _)] (hc := (c_rrnum_ok b (a.2 + 2) 2 hb (by omega) (by omega) (by omega)))) ?_
    refine AOps.cons rfl rfl (q_move) ?_
    refine AOps.cons rfl rfl (q_extract) ?_
    refine AOps.cons rfl rfl (q_extract) ?_
    refine AOps.cons rfl rfl (q_fa) ?_
    refine AOps.cons rfl rfl (q_store) ?_
    refine AOps.cons rfl rfl (q_ixa) ?_
    refine AOps.cons rfl rfl (q_store) ?_
    refine AOps.nil ?_
    refine AWp.seq ?_
    refine AWp.region ?_
    refine AOps.cons rfl rfl (q_move) ?_
    refine AOps.cons rfl rfl (q_callB (0) [(0, 0)] [] [(_, _)] (hc := (c_rrnum_no b (a.2 + 4) 4 hb (by omega) (by omega) (by omega)))) ?_
    refine AOps.cons rfl rfl (q_move) ?_
    refine AOps.cons rfl rfl (q_extract) ?_
    refine AOps.cons rfl rfl (q_extract) ?_
    refine AOps.cons rfl rfl (q_fa) ?_
    refine AOps.cons rfl rfl (q_store) ?_
    refine AOps.cons rfl rfl (q_ixa) ?_
    refine AOps.cons rfl rfl (q_store) ?_
    refine AOps.nil ?_
    refine AWp.seq ?_
    refine AWp.region ?_
    refine AOps.cons rfl rfl (q_move) ?_
    refine AOps.cons rfl rfl (q_callB (0) [(0, 0)] [] [(_, _)] (hc := (c_rrnum_ok b (a.2 + 4) 2 hb (by omega) (by omega) (by omega)))) ?_
    refine AOps.cons rfl rfl (q_move) ?_
    refine AOps.cons rfl rfl (q_extract) ?_
    refine AOps.cons rfl rfl (q_extract) ?_
    refine AOps.cons rfl rfl (q_assign) ?_
    refine AOps.cons rfl rfl (q_ixa) ?_
    refine AOps.cons rfl rfl (q_store) ?_
    refine AOps.nil ?_
    refine AWp.seq ?_
    refine AWp.seq ?_
    refine AWp.draws [⟨0, [8], [701], some 53, _, none⟩,
        ⟨1, [], [], some 54, _, none⟩,
        ⟨2, [53, 54], [], some 55, _, none⟩,
        ⟨3, [55], [], some 56, _, none⟩,
        ⟨4, [56], [], some 57, .v undef, none⟩,
        ⟨5, [56], [], some 58, .v undef, none⟩,
        ⟨6, [56], [], some 59, .v undef, none⟩,
        ⟨7, [56], [], some 60, .v undef, none⟩,
        ⟨8, [56], [], some 61, .v undef, none⟩,
        ⟨9, [56], [], some 62, .v undef, none⟩,
        ⟨10, [56], [], some 63, .v undef, none⟩,
        ⟨11, [56], [], some 64, .v undef, none⟩,
        ⟨12, [56], [], some 65, .v undef, none⟩,
        ⟨13, [56], [], some 66, .v undef, none⟩,
        ⟨14, [56], [], some 67, .v undef, none⟩,
        ⟨15, [56], [], some 68, .v undef, none⟩,
        ⟨16, [56, 68], [], some 69, _, none⟩]
     [⟨0, [8], [701], some 53, .any, none⟩,
         ⟨1, [], [], some 54, .any, none⟩,
         ⟨2, [53, 54], [], some 55, .any, none⟩,
         ⟨3, [55], [], some 56, .any, none⟩,
         ⟨4, [56], [], some 57, .any, none⟩,
         ⟨5, [56], [], some 58, .any, none⟩,
         ⟨6, [56], [], some 59, .any, none⟩,
         ⟨7, [56], [], some 60, .any, none⟩,
         ⟨8, [56], [], some 61, .any, none⟩,
         ⟨9, [56], [], some 62, .any, none⟩,
         ⟨10, [56], [], some 63, .any, none⟩,
         ⟨11, [56], [], some 64, .any, none⟩,
         ⟨12, [56], [], some 65, .any, none⟩,
         ⟨13, [56], [], some 66, .any, none⟩,
         ⟨14, [56], [], some 67, .any, none⟩,
         ⟨15, [56], [], some 68, .any, none⟩,
         ⟨16, [56, 68], [], some 69, .any, none⟩]
     mixed_ok rfl (by kernel_rfl) ⟨DS.ok_over fun s0 => OpAt.go rfl rfl (q_load),
         DS.ok_over fun s0 => OpAt.go rfl rfl (q_buildA tc [true, true, true, true] [(_, _), (_, _), (_, _), (_, _)]),
         DS.ok_over fun s0 => OpAt.go rfl rfl ((OpOk.bool_is (c := true) (q_eqp) (rfl))),
         DS.ok_over fun s0 => OpAt.go rfl rfl (q_move),
         DS.ok_over fun s0 => OpAt.gskip rfl rfl rfl rfl rfl rfl rfl rfl,
         DS.ok_over fun s0 => OpAt.gskip rfl rfl rfl rfl rfl rfl rfl rfl,
         DS.ok_over fun s0 => OpAt.gskip rfl rfl rfl rfl rfl rfl rfl rfl,
         DS.ok_over fun s0 => OpAt.gskip rfl rfl rfl rfl rfl rfl rfl rfl,
         DS.ok_over fun s0 => OpAt.gskip rfl rfl rfl rfl rfl rfl rfl rfl,
         DS.ok_over fun s0 => OpAt.gskip rfl rfl rfl rfl rfl rfl rfl rfl,
         DS.ok_over fun s0 => OpAt.gskip rfl rfl rfl rfl rfl rfl rfl rfl,
         DS.ok_over fun s0 => OpAt.gskip rfl rfl rfl rfl rfl rfl rfl rfl,
         DS.ok_over fun s0 => OpAt.gskip rfl rfl rfl rfl rfl rfl rfl rfl,
         DS.ok_over fun s0 => OpAt.gskip rfl rfl rfl rfl rfl rfl rfl rfl,
         DS.ok_over fun s0 => OpAt.gskip rfl rfl rfl rfl rfl rfl rfl rfl,
         DS.ok_over fun s0 => OpAt.gskip rfl rfl rfl rfl rfl rfl rfl rfl,
         DS.ok_over fun s0 => OpAt.go rfl rfl (q_pick), trivial⟩ ?_
    dsimp only [final, DS.upd, AS.seto]
    refine AWp.cond_t rfl ?_
    refine AWp.seq ?_
    refine AWp.region ?_
    refine AOps.cons rfl rfl (q_build []) ?_
    refine AOps.cons rfl rfl (q_store) ?_
    refine AOps.cons rfl rfl (q_assign) ?_
    refine AOps.nil ?_
    refine AWp.ret ?_
    show Fin te Try.f75 _ _
    have hX : rdR b p0 = .error 20 := rdR_bad ha (by omega)
    rw [hX, recV_sh ha (by omega)]
    refine q_retH (0) [] [_, _] [.agg (rrc zR), _] [(_, _)] ?_ (hobj := by repeat' (first | exact trivial | exact lv_ok rfl | exact lv_sl rfl rfl | exact lv_rn rfl rfl .row rfl | exact lv_ptr rfl rfl | exact lv_mp rfl rfl | exact lv_nilz | exact lv_any | exact lv_row0 rfl rfl .row (fun _ => rfl) (Nat.le_of_ble_eq_true rfl) (fun _ => rfl) | exact lobj_row (fun _ => rfl) | exact lobj_rown (fun _ => rfl) | exact lobj_me (fun _ => rfl) | refine lobj_box ?_ | refine ⟨rfl, ⟨_, rfl, ?_⟩, ?_⟩ | refine ⟨?_, ?_⟩)) (h2 := by repeat' (first | exact trivial | exact lv_ok rfl | exact lv_ptr rfl rfl | exact lv_sl rfl rfl | exact lv_nilz | exact lv_row0 rfl rfl .row (fun _ => rfl) (Nat.le_of_ble_eq_true rfl) (fun _ => rfl) | refine lv_agg ?_ | exact lv_any | refine ⟨?_, ?_⟩))
    rfl
   ·
    refine AOps.cons rfl rfl (q_move) ?_
    refine AOps.cons rfl rfl (q_callB (0) [(0, 0)] [] [(_, _)] (hc := (c_rrnum_ok b (a.2) 2 hb (by omega) (by omega) (by omega)))) ?_
    refine AOps.cons rfl rfl (q_move) ?_
    refine AOps.cons rfl rfl (q_extract) ?_
    refine AOps.cons rfl rfl (q_extract) ?_
    refine AOps.cons rfl rfl (q_fa) ?_
    refine AOps.cons rfl rfl (q_store) ?_
    refine AOps.cons rfl rfl (q_ixa) ?_
    refine AOps.cons rfl rfl (q_store) ?_
    refine AOps.nil ?_
    refine AWp.seq ?_
    refine AWp.region ?_
    refine AOps.cons rfl rfl (q_move) ?_
    refine AOps.cons rfl rfl (q_callB (0) [(0, 0)] [] [(_, _)] (hc := (c_rrnum_ok b (a.2 + 2) 2 hb (by omega) (by omega) (by omega)))) ?_
    refine AOps.cons rfl rfl (q_move) ?_
    refine AOps.cons rfl rfl (q_extract) ?_
    refine AOps.cons rfl rfl (q_extract) ?_
    refine AOps.cons rfl rfl (q_fa) ?_
    refine AOps.cons rfl rfl (q_store) ?_
    refine AOps.cons rfl rfl (q_ixa) ?_
    refine AOps.cons rfl rfl (q_store) ?_
    refine AOps.nil ?_
    refine AWp.seq ?_
    refine AWp.region ?_
    refine AOps.cons rfl rfl (q_move) ?_
    refine AOps.cons rfl rfl (q_callB (0) [(0, 0)] [] [(_, _)] (hc := (c_rrnum_ok b (a.2 + 4) 4 hb (by omega) (by omega) (by omega)))) ?_
    refine AOps.cons rfl rfl (q_move) ?_
    refine AOps.cons rfl rfl (q_extract) ?_
    refine AOps.cons rfl rfl (q_extract) ?_
    refine AOps.cons rfl rfl (q_fa) ?_
    refine AOps.cons rfl rfl (q_store) ?_
    refine AOps.cons rfl rfl (q_ixa) ?_
    refine AOps.cons rfl rfl (q_store) ?_
    refine AOps.nil ?_
    refine AWp.seq ?_
    refine AWp.region ?_
    refine AOps.cons rfl rfl (q_move) ?_
    refine AOps.cons rfl rfl (q_callB (0) [(0, 0)] [] [(_, _)] (hc := (c_rrnum_no b (a.2 + 8) 2 hb (by omega) (by omega) (by omega)))) ?_
    refine AOps.cons rfl rfl (q_move) ?_
    refine AOps.cons rfl rfl (q_extract) ?_
    refine AOps.cons rfl rfl (q_extract) ?_
    refine AOps.cons rfl rfl (q_assign) ?_
    refine AOps.cons rfl rfl (q_ixa) ?_
    refine AOps.cons rfl rfl (q_store) ?_
    refine AOps.nil ?_
    refine AWp.seq ?_
    refine AWp.seq ?_
    refine AWp.draws [⟨0, [8], [701], some 53, _, none⟩,
        ⟨1, [], [], some 54, _, none⟩,
        ⟨2, [53, 54], [], some 55, _, none⟩,
        ⟨3, [55], [], some 56, _, none⟩,
        ⟨4, [56], [], some 57, .v undef, none⟩,
        ⟨5, [56], [], some 58, .v undef, none⟩,
        ⟨6, [56], [], some 59, .v undef, none⟩,
        ⟨7, [56], [], some 60, .v undef, none⟩,
        ⟨8, [56], [], some 61, .v undef, none⟩,
        ⟨9, [56], [], some 62, .v undef, none⟩,
        ⟨10, [56], [], some 63, .v undef, none⟩,
        ⟨11, [56], [], some 64, .v undef, none⟩,
        ⟨12, [56], [], some 65, .v undef, none⟩,
        ⟨13, [56], [], some 66, .v undef, none⟩,
        ⟨14, [56], [], some 67, .v undef, none⟩,
        ⟨15, [56], [], some 68, .v undef, none⟩,
        ⟨16, [56, 68], [], some 69, _, none⟩]
     [⟨0, [8], [701], some 53, .any, none⟩,
         ⟨1, [], [], some 54, .any, none⟩,
         ⟨2, [53, 54], [], some 55, .any, none⟩,
         ⟨3, [55], [], some 56, .any, none⟩,
         ⟨4, [56], [], some 57, .any, none⟩,
         ⟨5, [56], [], some 58, .any, none⟩,
         ⟨6, [56], [], some 59, .any, none⟩,
         ⟨7, [56], [], some 60, .any, none⟩,
         ⟨8, [56], [], some 61, .any, none⟩,
         ⟨9, [56], [], some 62, .any, none⟩,
         ⟨10, [56], [], some 63, .any, none⟩,
         ⟨11, [56], [], some 64, .any, none⟩,
         ⟨12, [56], [], some 65, .any, none⟩,
         ⟨13, [56], [], some 66, .any, none⟩,
         ⟨14, [56], [], some 67, .any, none⟩,
         ⟨15, [56], [], some 68, .any, none⟩,
         ⟨16, [56, 68], [], some 69, .any, none⟩]
     mixed_ok rfl (by kernel_rfl) ⟨DS.ok_over fun s0 => OpAt.go rfl rfl (q_load),
         DS.ok_over fun s0 => OpAt.go rfl rfl (q_buildA tc [true, true, true, true] [(_, _), (_, _), (_, _), (_, _)]),
         DS.ok_over fun s0 => OpAt.go rfl rfl ((OpOk.bool_is (c := true) (q_eqp) (rfl))),
         DS.ok_over fun s0 => OpAt.go rfl rfl (q_move),
         DS.ok_over fun s0 => OpAt.gskip rfl rfl rfl rfl rfl rfl rfl rfl,
         DS.ok_over fun s0 => OpAt.gskip rfl rfl rfl rfl rfl rfl rfl rfl,
         DS.ok_over fun s0 => OpAt.gskip rfl rfl rfl rfl rfl rfl rfl rfl,
         DS.ok_over fun s0 => OpAt.gskip rfl rfl rfl rfl rfl rfl rfl rfl,
         DS.ok_over fun s0 => OpAt.gskip rfl rfl rfl rfl rfl rfl rfl rfl,
         DS.ok_over fun s0 => OpAt.gskip rfl rfl rfl rfl rfl rfl rfl rfl,
         DS.ok_over fun s0 => OpAt.gskip rfl rfl rfl rfl rfl rfl rfl rfl,
         DS.ok_over fun s0 => OpAt.gskip rfl rfl rfl rfl rfl rfl rfl rfl,
         DS.ok_over fun s0 => OpAt.gskip rfl rfl rfl rfl rfl rfl rfl rfl,
         DS.ok_over fun s0 => OpAt.gskip rfl rfl rfl rfl rfl rfl rfl rfl,
         DS.ok_over fun s0 => OpAt.gskip rfl rfl rfl rfl rfl rfl rfl rfl,
         DS.ok_over fun s0 => OpAt.gskip rfl rfl rfl rfl rfl rfl rfl rfl,
         DS.ok_over fun s0 => OpAt.go rfl rfl (q_pick), trivial⟩ ?_
    dsimp only [final, DS.upd, AS.seto]
    refine AWp.cond_t rfl ?_
    refine AWp.seq ?_
    refine AWp.region ?_
    refine AOps.cons rfl rfl (q_build []) ?_
    refine AOps.cons rfl rfl (q_store) ?_
    refine AOps.cons rfl rfl (q_assign) ?_
    refine AOps.nil ?_
    refine AWp.ret ?_
    show Fin te Try.f75 _ _
    have hX : rdR b p0 = .error 20 := rdR_bad ha (by omega)
    rw [hX, recV_sh ha (by omega)]
    refine q_retH (0) [] [_, _] [.agg (rrc zR), _] [(_, _)] ?_ (hobj := by repeat' (first | exact trivial | exact lv_ok rfl | exact lv_sl rfl rfl | exact lv_rn rfl rfl .row rfl | exact lv_ptr rfl rfl | exact lv_mp rfl rfl | exact lv_nilz | exact lv_any | exact lv_row0 rfl rfl .row (fun _ => rfl) (Nat.le_of_ble_eq_true rfl) (fun _ => rfl) | exact lobj_row (fun _ => rfl) | exact lobj_rown (fun _ => rfl) | exact lobj_me (fun _ => rfl) | refine lobj_box ?_ | refine ⟨rfl, ⟨_, rfl, ?_⟩, ?_⟩ | refine ⟨?_, ?_⟩)) (h2 := by repeat' (first | exact trivial | exact lv_ok rfl | exact lv_ptr rfl rfl | exact lv_sl rfl rfl | exact lv_nilz | exact lv_row0 rfl rfl .row (fun _ => rfl) (Nat.le_of_ble_eq_true rfl) (fun _ => rfl) | refine lv_agg ?_ | exact lv_any | refine ⟨?_, ?_⟩))
    rfl
   ·
    refine AOps.cons rfl rfl (q_move) ?_
    refine AOps.cons rfl rfl (q_callB (0) [(0, 0)] [] [(_, _)] (hc := (c_rrnum_ok b (a.2) 2 hb (by omega) (by omega) (by omega)))) ?_
    refine AOps.cons rfl rfl (q_move) ?_
    refine AOps.cons rfl rfl (q_extract) ?_
    refine AOps.cons rfl rfl (q_extract) ?_
    refine AOps.cons rfl rfl (q_fa) ?_
    refine AOps.cons rfl rfl (q_store) ?_
    refine AOps.cons rfl rfl (q_ixa) ?_
    refine AOps.cons rfl rfl (q_store) ?_
    refine AOps.nil ?_
    refine AWp.seq ?_
    refine AWp.region ?_
    refine AOps.cons rfl rfl (q_move) ?_
    refine AOps.cons rfl rfl (q_callB (0) [(0, 0)] [] [(_, _)] (hc := (c_rrnum_ok b (a.2 + 2) 2 hb (by omega) (by omega) (by omega)))) ?_
    refine AOps.cons rfl rfl (q_move) ?_
    refine AOps.cons rfl rfl (q_extract) ?_
    refine AOps.cons rfl rfl (q_extract) ?_
    refine AOps.cons rfl rfl (q_fa) ?_
    refine AOps.cons rfl rfl (q_store) ?_
    refine AOps.cons rfl rfl (q_ixa) ?_
    refine AOps.cons rfl rfl (q_store) ?_
    refine AOps.nil ?_
    refine AWp.seq ?_
    refine AWp.region ?_
    refine AOps.cons rfl rfl (q_move) ?_
    refine AOps.cons rfl rfl (q_callB (0) [(0, 0)] [] [(_, _)] (hc := (c_rrnum_ok b (a.2 + 4) 4 hb (by omega) (by omega) (by omega)))) ?_
    refine AOps.cons rfl rfl (q_move) ?_
    refine AOps.cons rfl rfl (q_extract) ?_
    refine AOps.cons rfl rfl (q_extract) ?_
    refine AOps.cons rfl rfl (q_fa) ?_
    refine AOps.cons rfl rfl (q_store) ?_
    refine AOps.cons rfl rfl (q_ixa) ?_
    refine AOps.cons rfl rfl (q_store) ?_
    refine AOps.nil ?_
    refine AWp.seq ?_
    refine AWp.region ?_
    refine AOps.cons rfl rfl (q_move) ?_
    refine AOps.cons rfl rfl (q_callB (0) [(0, 0)] [] [(_, _)] (hc := (c_rrnum_ok b (a.2 + 8) 2 hb (by omega) (by omega) (by omega)))) ?_
    refine AOps.cons rfl rfl (q_move) ?_
    refine AOps.cons rfl rfl (q_extract) ?_
    refine AOps.cons rfl rfl (q_extract) ?_
    refine AOps.cons rfl rfl (q_assign) ?_
    refine AOps.cons rfl rfl (q_ixa) ?_
    refine AOps.cons rfl rfl (q_store) ?_
    refine AOps.nil ?_
    refine AWp.seq ?_
    refine AWp.seq ?_
    by_cases g2 : b.length < a.2 + 10 + bN b (a.2 + 8) 2
    ·
     refine AWp.draws [⟨0, [8], [701], some 53, _, none⟩,
         ⟨1, [], [], some 54, _, none⟩,
         ⟨2, [53, 54], [], some 55, _, none⟩,
         ⟨3, [55], [], some 56, _, none⟩,
         ⟨4, [0, 56], [], some 57, _, none⟩,
         ⟨5, [56, 57], [0], some 58, _, none⟩,
         ⟨6, [56, 58], [0], some 59, _, none⟩,
         ⟨7, [56, 59], [0], some 60, _, none⟩,
         ⟨8, [56, 60], [], some 61, _, none⟩,
         ⟨9, [0, 56], [], some 62, _, none⟩,
         ⟨10, [56, 62], [0], some 63, _, none⟩,
         ⟨11, [56, 63], [0], some 64, _, none⟩,
         ⟨12, [56, 64], [0], some 65, _, none⟩,
         ⟨13, [56, 61, 65], [], some 66, _, none⟩,
         ⟨14, [7, 56], [], some 67, _, none⟩,
         ⟨15, [56, 66, 67], [], some 68, _, none⟩,
         ⟨16, [56, 68], [], some 69, _, none⟩]
      [⟨0, [8], [701], some 53, .any, none⟩,
          ⟨1, [], [], some 54, .any, none⟩,
          ⟨2, [53, 54], [], some 55, .any, none⟩,
          ⟨3, [55], [], some 56, .any, none⟩,
          ⟨4, [0, 56], [], some 57, .any, none⟩,
          ⟨5, [56, 57], [0], some 58, .any, none⟩,
          ⟨6, [56, 58], [0], some 59, .any, none⟩,
          ⟨7, [56, 59], [0], some 60, .any, none⟩,
          ⟨8, [56, 60], [], some 61, .any, none⟩,
          ⟨9, [0, 56], [], some 62, .any, none⟩,
          ⟨10, [56, 62], [0], some 63, .any, none⟩,
          ⟨11, [56, 63], [0], some 64, .any, none⟩,
          ⟨12, [56, 64], [0], some 65, .any, none⟩,
          ⟨13, [56, 61, 65], [], some 66, .any, none⟩,
          ⟨14, [7, 56], [], some 67, .any, none⟩,
          ⟨15, [56, 66, 67], [], some 68, .any, none⟩,
          ⟨16, [56, 68], [], some 69, .any, none⟩]
      mixed_ok rfl (by kernel_rfl) ⟨DS.ok_over fun s0 => OpAt.go rfl rfl (q_load),
          DS.ok_over fun s0 => OpAt.go rfl rfl (q_buildA tc [true, true, true, true] [(_, _), (_, _), (_, _), (_, _)]),
          DS.ok_over fun s0 => OpAt.go rfl rfl ((OpOk.bool_is (c := false) (q_eqp) (rfl))),
          DS.ok_over fun s0 => OpAt.go rfl rfl (q_move),
          DS.ok_over fun s0 => OpAt.ggo rfl rfl rfl rfl rfl (q_move),
          DS.ok_over fun s0 => OpAt.ggo rfl rfl rfl rfl rfl (q_nil),
          DS.ok_over fun s0 => OpAt.ggo rfl rfl rfl rfl rfl (q_fa),
          DS.ok_over fun s0 => OpAt.ggo rfl rfl rfl rfl rfl (q_load),
          DS.ok_over fun s0 => OpAt.ggo rfl rfl rfl rfl rfl (q_len),
          DS.ok_over fun s0 => OpAt.ggo rfl rfl rfl rfl rfl (q_move),
          DS.ok_over fun s0 => OpAt.ggo rfl rfl rfl rfl rfl (q_nil),
          DS.ok_over fun s0 => OpAt.ggo rfl rfl rfl rfl rfl (q_fa),
          DS.ok_over fun s0 => OpAt.ggo rfl rfl rfl rfl rfl (q_load),
          DS.ok_over fun s0 => OpAt.ggo rfl rfl rfl rfl rfl (q_sub),
          DS.ok_over fun s0 => OpAt.ggo rfl rfl rfl rfl rfl (q_move),
          DS.ok_over fun s0 => OpAt.ggo rfl rfl rfl rfl rfl ((OpOk.dec_t (q_lss) (by omega))),
          DS.ok_over fun s0 => OpAt.go rfl rfl (q_pick), trivial⟩ ?_
     dsimp only [final, DS.upd, AS.seto]
     refine AWp.cond_t rfl ?_
     refine AWp.seq ?_
     refine AWp.region ?_
     refine AOps.cons rfl rfl (q_build []) ?_
     refine AOps.cons rfl rfl (q_store) ?_
     refine AOps.cons rfl rfl (q_assign) ?_
     refine AOps.nil ?_
     refine AWp.ret ?_
     show Fin te Try.f75 _ _
     have hX : rdR b p0 = .error 20 := rdR_bad ha (by omega)
     rw [hX, recV_sh ha (by omega)]
     refine q_retH (0) [] [_, _] [.agg (rrc zR), _] [(_, _)] ?_ (hobj := by repeat' (first | exact trivial | exact lv_ok rfl | exact lv_sl rfl rfl | exact lv_rn rfl rfl .row rfl | exact lv_ptr rfl rfl | exact lv_mp rfl rfl | exact lv_nilz | exact lv_any | exact lv_row0 rfl rfl .row (fun _ => rfl) (Nat.le_of_ble_eq_true rfl) (fun _ => rfl) | exact lobj_row (fun _ => rfl) | exact lobj_rown (fun _ => rfl) | exact lobj_me (fun _ => rfl) | refine lobj_box ?_ | refine ⟨rfl, ⟨_, rfl, ?_⟩, ?_⟩ | refine ⟨?_, ?_⟩)) (h2 := by repeat' (first | exact trivial | exact lv_ok rfl | exact lv_ptr rfl rfl | exact lv_sl rfl rfl | exact lv_nilz | exact lv_row0 rfl rfl .row (fun _ => rfl) (Nat.le_of_ble_eq_true rfl) (fun _ => rfl) | refine lv_agg ?_ | exact lv_any | refine ⟨?_, ?_⟩))
     rfl
    ·
     refine AWp.draws [⟨0, [8], [701], some 53, _, none⟩,
         ⟨1, [], [], some 54, _, none⟩,
         ⟨2, [53, 54], [], some 55, _, none⟩,
         ⟨3, [55], [], some 56, _, none⟩,
         ⟨4, [0, 56], [], some 57, _, none⟩,
         ⟨5, [56, 57], [0], some 58, _, none⟩,
         ⟨6, [56, 58], [0], some 59, _, none⟩,
         ⟨7, [56, 59], [0], some 60, _, none⟩,
         ⟨8, [56, 60], [], some 61, _, none⟩,
         ⟨9, [0, 56], [], some 62, _, none⟩,
         ⟨10, [56, 62], [0], some 63, _, none⟩,
         ⟨11, [56, 63], [0], some 64, _, none⟩,
         ⟨12, [56, 64], [0], some 65, _, none⟩,
         ⟨13, [56, 61, 65], [], some 66, _, none⟩,
         ⟨14, [7, 56], [], some 67, _, none⟩,
         ⟨15, [56, 66, 67], [], some 68, _, none⟩,
         ⟨16, [56, 68], [], some 69, _, none⟩]
      [⟨0, [8], [701], some 53, .any, none⟩,
          ⟨1, [], [], some 54, .any, none⟩,
          ⟨2, [53, 54], [], some 55, .any, none⟩,
          ⟨3, [55], [], some 56, .any, none⟩,
          ⟨4, [0, 56], [], some 57, .any, none⟩,
          ⟨5, [56, 57], [0], some 58, .any, none⟩,
          ⟨6, [56, 58], [0], some 59, .any, none⟩,
          ⟨7, [56, 59], [0], some 60, .any, none⟩,
          ⟨8, [56, 60], [], some 61, .any, none⟩,
          ⟨9, [0, 56], [], some 62, .any, none⟩,
          ⟨10, [56, 62], [0], some 63, .any, none⟩,
          ⟨11, [56, 63], [0], some 64, .any, none⟩,
          ⟨12, [56, 64], [0], some 65, .any, none⟩,
          ⟨13, [56, 61, 65], [], some 66, .any, none⟩,
          ⟨14, [7, 56], [], some 67, .any, none⟩,
          ⟨15, [56, 66, 67], [], some 68, .any, none⟩,
          ⟨16, [56, 68], [], some 69, .any, none⟩]
      mixed_ok rfl (by kernel_rfl) ⟨DS.ok_over fun s0 => OpAt.go rfl rfl (q_load),
          DS.ok_over fun s0 => OpAt.go rfl rfl (q_buildA tc [true, true, true, true] [(_, _), (_, _), (_, _), (_, _)]),
          DS.ok_over fun s0 => OpAt.go rfl rfl ((OpOk.bool_is (c := false) (q_eqp) (rfl))),
          DS.ok_over fun s0 => OpAt.go rfl rfl (q_move),
          DS.ok_over fun s0 => OpAt.ggo rfl rfl rfl rfl rfl (q_move),
          DS.ok_over fun s0 => OpAt.ggo rfl rfl rfl rfl rfl (q_nil),
          DS.ok_over fun s0 => OpAt.ggo rfl rfl rfl rfl rfl (q_fa),
          DS.ok_over fun s0 => OpAt.ggo rfl rfl rfl rfl rfl (q_load),
          DS.ok_over fun s0 => OpAt.ggo rfl rfl rfl rfl rfl (q_len),
          DS.ok_over fun s0 => OpAt.ggo rfl rfl rfl rfl rfl (q_move),
          DS.ok_over fun s0 => OpAt.ggo rfl rfl rfl rfl rfl (q_nil),
          DS.ok_over fun s0 => OpAt.ggo rfl rfl rfl rfl rfl (q_fa),
          DS.ok_over fun s0 => OpAt.ggo rfl rfl rfl rfl rfl (q_load),
          DS.ok_over fun s0 => OpAt.ggo rfl rfl rfl rfl rfl (q_sub),
          DS.ok_over fun s0 => OpAt.ggo rfl rfl rfl rfl rfl (q_move),
          DS.ok_over fun s0 => OpAt.ggo rfl rfl rfl rfl rfl ((OpOk.dec_f (q_lss) (by omega))),
          DS.ok_over fun s0 => OpAt.go rfl rfl (q_pick), trivial⟩ ?_
     dsimp only [final, DS.upd, AS.seto]
     refine AWp.cond_f rfl ?_
     refine AWp.skip ?_
     refine AWp.seq ?_
     rcases hd : rdD b (bN b a.2 2) (a.2 + 10) (a.2 + 10 + bN b (a.2 + 8) 2) with e | d
     ·
      refine AWp.draws [⟨0, [0], [], some 72, _, none⟩,
          ⟨1, [6], [502], some 73, _, none⟩,
          ⟨2, [73], [502], some 74, _, none⟩,
          ⟨3, [0], [], some 75, _, none⟩,
          ⟨4, [75], [0], some 76, _, none⟩,
          ⟨5, [76], [0], some 77, _, none⟩,
          ⟨6, [77], [0], some 78, _, none⟩,
          ⟨7, [7], [], some 79, _, none⟩,
          ⟨8, [78, 79], [], some 80, _, none⟩,
          ⟨9, [72, 74, 80], [0], some 81, _, some (0, _)⟩,
          ⟨10, [81], [], some 71, _, none⟩,
          ⟨11, [71], [], some 82, _, none⟩,
          ⟨12, [71], [], some 83, _, none⟩,
          ⟨13, [6], [502], some 84, _, none⟩,
          ⟨14, [82, 84], [502], none, _, some (502, _)⟩,
          ⟨15, [83], [], some 5, _, none⟩]
       [⟨0, [0], [], some 72, .any, none⟩,
           ⟨1, [6], [502], some 73, .any, none⟩,
           ⟨2, [73], [502], some 74, .any, none⟩,
           ⟨3, [0], [], some 75, .any, none⟩,
           ⟨4, [75], [0], some 76, .any, none⟩,
           ⟨5, [76], [0], some 77, .any, none⟩,
           ⟨6, [77], [0], some 78, .any, none⟩,
           ⟨7, [7], [], some 79, .any, none⟩,
           ⟨8, [78, 79], [], some 80, .any, none⟩,
           ⟨9, [72, 74, 80], [0], some 81, .any, some (0, .box [])⟩,
           ⟨10, [81], [], some 71, .any, none⟩,
           ⟨11, [71], [], some 82, .any, none⟩,
           ⟨12, [71], [], some 83, .any, none⟩,
           ⟨13, [6], [502], some 84, .any, none⟩,
           ⟨14, [82, 84], [502], none, .any, some (502, .box [])⟩,
           ⟨15, [83], [], some 5, .any, none⟩]
       mixed_ok rfl (by kernel_rfl) ⟨DS.ok_over fun s0 => OpAt.go rfl rfl (q_move),
           DS.ok_over fun s0 => OpAt.go rfl rfl (q_fa),
           DS.ok_over fun s0 => OpAt.go rfl rfl (q_load),
           DS.ok_over fun s0 => OpAt.go rfl rfl (q_move),
           DS.ok_over fun s0 => OpAt.go rfl rfl (q_nil),
           DS.ok_over fun s0 => OpAt.go rfl rfl (q_fa),
           DS.ok_over fun s0 => OpAt.go rfl rfl (q_load),
           DS.ok_over fun s0 => OpAt.go rfl rfl (q_move),
           DS.ok_over fun s0 => OpAt.go rfl rfl (q_add),
           DS.ok_over fun s0 => OpAt.go rfl rfl (q_callB (0) [(0, 0)] [] [(_, _)] (hc := (c_rrdata_er hb (by omega) (by omega) hd))),
           DS.ok_over fun s0 => OpAt.go rfl rfl (q_move),
           DS.ok_over fun s0 => OpAt.go rfl rfl (q_extract),
           DS.ok_over fun s0 => OpAt.go rfl rfl (q_extract),
           DS.ok_over fun s0 => OpAt.go rfl rfl (q_fa),
           DS.ok_over fun s0 => OpAt.go rfl rfl (q_store),
           DS.ok_over fun s0 => OpAt.go rfl rfl (q_assign), trivial⟩ ?_
      dsimp only [final, DS.upd, AS.seto]
      refine AWp.seq ?_
      refine AWp.region ?_
      refine AOps.cons rfl rfl (q_load) ?_
      refine AOps.cons rfl rfl (q_move) ?_
      refine AOps.cons rfl rfl (q_store) ?_
      refine AOps.cons rfl rfl (q_assign) ?_
      refine AOps.nil ?_
      refine AWp.ret ?_
      show Fin te Try.f75 _ _
      have hX : rdR b p0 = .error e := by rw [rdR_go ha (by omega) (by omega), hd]; rfl
      rw [hX, recV_go ha (by omega) (by omega), hd]
      refine q_retH (0) [] [_, _] [_, _] [(_, _)] ?_ (hobj := by repeat' (first | exact trivial | exact lv_ok rfl | exact lv_sl rfl rfl | exact lv_rn rfl rfl .row rfl | exact lv_ptr rfl rfl | exact lv_mp rfl rfl | exact lv_nilz | exact lv_any | exact lv_row0 rfl rfl .row (fun _ => rfl) (Nat.le_of_ble_eq_true rfl) (fun _ => rfl) | exact lobj_row (fun _ => rfl) | exact lobj_rown (fun _ => rfl) | exact lobj_me (fun _ => rfl) | refine lobj_box ?_ | refine ⟨rfl, ⟨_, rfl, ?_⟩, ?_⟩ | refine ⟨?_, ?_⟩)) (h2 := by repeat' (first | exact trivial | exact lv_ok rfl | exact lv_ptr rfl rfl | exact lv_sl rfl rfl | exact lv_nilz | exact lv_row0 rfl rfl .row (fun _ => rfl) (Nat.le_of_ble_eq_true rfl) (fun _ => rfl) | refine lv_agg ?_ | exact lv_any | refine ⟨?_, ?_⟩))
      rfl
     ·
      refine AWp.draws [⟨0, [0], [], some 72, _, none⟩,
          ⟨1, [6], [502], some 73, _, none⟩,
          ⟨2, [73], [502], some 74, _, none⟩,
          ⟨3, [0], [], some 75, _, none⟩,
          ⟨4, [75], [0], some 76, _, none⟩,
          ⟨5, [76], [0], some 77, _, none⟩,
          ⟨6, [77], [0], some 78, _, none⟩,
          ⟨7, [7], [], some 79, _, none⟩,
          ⟨8, [78, 79], [], some 80, _, none⟩,
          ⟨9, [72, 74, 80], [0], some 81, _, some (0, _)⟩,
          ⟨10, [81], [], some 71, _, none⟩,
          ⟨11, [71], [], some 82, _, none⟩,
          ⟨12, [71], [], some 83, _, none⟩,
          ⟨13, [6], [502], some 84, _, none⟩,
          ⟨14, [82, 84], [502], none, _, some (502, _)⟩,
          ⟨15, [83], [], some 5, _, none⟩]
       [⟨0, [0], [], some 72, .any, none⟩,
           ⟨1, [6], [502], some 73, .any, none⟩,
           ⟨2, [73], [502], some 74, .any, none⟩,
           ⟨3, [0], [], some 75, .any, none⟩,
           ⟨4, [75], [0], some 76, .any, none⟩,
           ⟨5, [76], [0], some 77, .any, none⟩,
           ⟨6, [77], [0], some 78, .any, none⟩,
           ⟨7, [7], [], some 79, .any, none⟩,
           ⟨8, [78, 79], [], some 80, .any, none⟩,
           ⟨9, [72, 74, 80], [0], some 81, .any, some (0, .box [])⟩,
           ⟨10, [81], [], some 71, .any, none⟩,
           ⟨11, [71], [], some 82, .any, none⟩,
           ⟨12, [71], [], some 83, .any, none⟩,
           ⟨13, [6], [502], some 84, .any, none⟩,
           ⟨14, [82, 84], [502], none, .any, some (502, .box [])⟩,
           ⟨15, [83], [], some 5, .any, none⟩]
       mixed_ok rfl (by kernel_rfl) ⟨DS.ok_over fun s0 => OpAt.go rfl rfl (q_move),
           DS.ok_over fun s0 => OpAt.go rfl rfl (q_fa),
           DS.ok_over fun s0 => OpAt.go rfl rfl (q_load),
           DS.ok_over fun s0 => OpAt.go rfl rfl (q_move),
           DS.ok_over fun s0 => OpAt.go rfl rfl (q_nil),
           DS.ok_over fun s0 => OpAt.go rfl rfl (q_fa),
           DS.ok_over fun s0 => OpAt.go rfl rfl (q_load),
           DS.ok_over fun s0 => OpAt.go rfl rfl (q_move),
           DS.ok_over fun s0 => OpAt.go rfl rfl (q_add),
           DS.ok_over fun s0 => OpAt.go rfl rfl (q_callB (0) [(0, 0)] [] [(_, _)] (hc := (c_rrdata_ok hb (by omega) (by omega) hd))),
           DS.ok_over fun s0 => OpAt.go rfl rfl (q_move),
           DS.ok_over fun s0 => OpAt.go rfl rfl (q_extract),
           DS.ok_over fun s0 => OpAt.go rfl rfl (q_extract),
           DS.ok_over fun s0 => OpAt.go rfl rfl (q_fa),
           DS.ok_over fun s0 => OpAt.go rfl rfl (q_store),
           DS.ok_over fun s0 => OpAt.go rfl rfl (q_assign), trivial⟩ ?_
      dsimp only [final, DS.upd, AS.seto]
      refine AWp.seq ?_
      refine AWp.region ?_
      refine AOps.cons rfl rfl (q_load) ?_
      refine AOps.cons rfl rfl (q_move) ?_
      refine AOps.cons rfl rfl (q_store) ?_
      refine AOps.cons rfl rfl (q_assign) ?_
      refine AOps.nil ?_
      refine AWp.ret ?_
      show Fin te Try.f75 _ _
      have hX : rdR b p0 = .ok (⟨a.1, bN b a.2 2, bN b (a.2 + 2) 2, bN b (a.2 + 4) 4, d⟩, a.2 + 10 + bN b (a.2 + 8) 2) := by rw [rdR_go ha (by omega) (by omega), hd]; rfl
      rw [hX, recV_go ha (by omega) (by omega), hd]
      refine q_retH (0) [] [_, _] [_, _] [(_, _)] ?_ (hobj := by repeat' (first | exact trivial | exact lv_ok rfl | exact lv_sl rfl rfl | exact lv_rn rfl rfl .row rfl | exact lv_ptr rfl rfl | exact lv_mp rfl rfl | exact lv_nilz | exact lv_any | exact lv_row0 rfl rfl .row (fun _ => rfl) (Nat.le_of_ble_eq_true rfl) (fun _ => rfl) | exact lobj_row (fun _ => rfl) | exact lobj_rown (fun _ => rfl) | exact lobj_me (fun _ => rfl) | refine lobj_box ?_ | refine ⟨rfl, ⟨_, rfl, ?_⟩, ?_⟩ | refine ⟨?_, ?_⟩)) (h2 := by repeat' (first | exact trivial | exact lv_ok rfl | exact lv_ptr rfl rfl | exact lv_sl rfl rfl | exact lv_nilz | exact lv_row0 rfl rfl .row (fun _ => rfl) (Nat.le_of_ble_eq_true rfl) (fun _ => rfl) | refine lv_agg ?_ | exact lv_any | refine ⟨?_, ?_⟩))
      rfl
end Go.Proofs.Ytkfccjbihcbmiaa.Fw


set_option linter.unusedVariables false
set_option linter.unusedSimpArgs false
namespace Go.Proofs.Ytkfccjbihcbmiaa.Fw
open Go.RowKit
section
variable {b : List UInt8} {p0 k : Nat}
theorem c_rrrec_ok {x : Rr × Nat} (hb : b.length ≤ 65535) (hp : p0 ≤ 100000) (h : rdR b p0 = .ok x) : AC Try.prog 75 [.ptr 0 0 0] (hlook [(0, .box [.fz 0 b.length (cl bc b), i64 p0])]) (RetH (.tup [.agg (rrc (recV b p0)), i64 0]) [(0, .box [.fz 0 b.length (cl bc b), i64 x.2])]) := by
  have := c_rrrec b p0 hb hp
  rw [h] at this
  exact this
theorem c_rrrec_er {e : Int} (hb : b.length ≤ 65535) (hp : p0 ≤ 100000) (h : rdR b p0 = .error e) : AC Try.prog 75 [.ptr 0 0 0] (hlook [(0, .box [.fz 0 b.length (cl bc b), i64 p0])]) (RetH (.tup [.agg (rrc (recV b p0)), i64 e]) [(0, .box [.fz 0 b.length (cl bc b), .any])]) := by
  have := c_rrrec b p0 hb hp
  rw [h] at this
  exact this
end
theorem rdRs_ne0 {b : List UInt8} : ∀ (k : Nat) (acc : List Rr) (p : Nat) {e : Int}, rdRs b k acc p = .error e → e ≠ 0
  | 0, acc, p, e, h => by cases h
  | k + 1, acc, p, e, h => by
    cases h1 : rdR b p with
    | error x => rw [rdRs_err h1] at h; cases h; exact rdR_ne0 h1
    | ok a => rw [rdRs_ok h1] at h; exact rdRs_ne0 k _ _ h
theorem rdRs_le {b : List UInt8} : ∀ (k : Nat) (acc : List Rr) (p : Nat) {q : List Rr × Nat}, rdRs b k acc p = .ok q → p ≤ b.length → q.2 ≤ b.length
  | 0, acc, p, q, h, hp => by cases h; exact hp
  | k + 1, acc, p, q, h, hp => by
    cases h1 : rdR b p with
    | error x => rw [rdRs_err h1] at h; cases h
    | ok a => rw [rdRs_ok h1] at h; exact rdRs_le k _ _ h (rdR_ok h1).2
theorem rdQs_ne0 {b : List UInt8} : ∀ (k : Nat) (acc : List Qu) (p : Nat) {e : Int}, rdQs b k acc p = .error e → e ≠ 0
  | 0, acc, p, e, h => by cases h
  | k + 1, acc, p, e, h => by
    cases h1 : rdN b 20 p p b.length none [] with
    | error x => rw [rdQs_err h1] at h; cases h; exact rdN_ne0 _ _ _ _ _ h1
    | ok a =>
      by_cases h2 : b.length < a.2 + 4
      · rw [rdQs_bad h1 h2] at h; cases h; decide
      · rw [rdQs_ok h1 h2] at h; exact rdQs_ne0 k _ _ h
theorem rdQs_le {b : List UInt8} : ∀ (k : Nat) (acc : List Qu) (p : Nat) {q : List Qu × Nat}, rdQs b k acc p = .ok q → p ≤ b.length → q.2 ≤ b.length
  | 0, acc, p, q, h, hp => by cases h; exact hp
  | k + 1, acc, p, q, h, hp => by
    cases h1 : rdN b 20 p p b.length none [] with
    | error x => rw [rdQs_err h1] at h; cases h
    | ok a =>
      by_cases h2 : b.length < a.2 + 4
      · rw [rdQs_bad h1 h2] at h; cases h
      · rw [rdQs_ok h1 h2] at h; exact rdQs_le k _ _ h (by omega)
theorem recV_ok {b : List UInt8} {p : Nat} {x : Rr × Nat} (h : rdR b p = .ok x) : recV b p = x.1 := by
  unfold rdR at h
  unfold recV
  cases h1 : rdN b 20 p p b.length none [] with
  | error e => rw [h1] at h; cases h
  | ok a =>
    rw [h1, rdR1] at h
    rw [recV0]
    split at h
    · cases h
    · rename_i h2
      rw [if_neg h2]
      cases h3 : rdD b (bN b a.2 2) (a.2 + 10) (a.2 + 10 + bN b (a.2 + 8) 2) with
      | error e => rw [h3] at h; cases h
      | ok d => rw [h3] at h; cases h; rfl
def resL {α : Type} : Except Int (List α × Nat) → List α
  | .error _ => []
  | .ok a => a.1
set_option maxRecDepth 20000 in
set_option maxHeartbeats 2000000 in
theorem c_rrrs (b : List UInt8) (p0 k : Nat) (hb : b.length ≤ 65535) (hp : p0 ≤ b.length) (hk : k ≤ 65535) : AC Try.prog 42 [.ptr 0 0 0, i64 k] (hlook [(0, .box [.fz 0 b.length (cl bc b), i64 p0])]) (RetH (.tup [.fz 0 (resL (rdRs b k [] p0)).length (cl rrc (resL (rdRs b k [] p0))), i64 (rnE (rdRs b k [] p0))]) [(0, .box [.fz 0 b.length (cl bc b), atE (rdRs b k [] p0)])]) := by
 refine AC.intro te_ok (fn := Try.f42) ⟨Try.func42, rfl, rfl⟩ (Nat.le_of_ble_eq_true rfl) ?_
 refine AWp.seq ?_
 refine AWp.region ?_
 refine AOps.cons rfl rfl (q_nilz (0) rrc) ?_
 refine AOps.cons rfl rfl (q_assign) ?_
 refine AOps.nil ?_
 refine AWp.seq ?_
 refine AWp.region ?_
 refine AOps.cons rfl rfl (q_nilrow 200 5 rrc) ?_
 refine AOps.nil ?_
 refine AWp.seq ?_
 refine AWp.seq ?_
 refine AWp.region ?_
 refine AOps.cons rfl rfl (q_move) ?_
 refine AOps.cons rfl rfl (q_move) ?_
 refine AOps.nil ?_
 refine AWp.block ?_
 refine AWp.loopR (α := Nat × List Rr × Nat × Nat) [4, 5, 6, 7, 8, 10, 11, 12, 13, 14, 15, 16, 17, 18, 19, 20, 21, 22, 23, 24] (fun x_ => [(10, i64 (x_.1)), (6, .sl 200 (x_.2.2.2) 0 (x_.2.1).length 5)]) (fun x_ => [(0, .box [.fz 0 b.length (cl bc b), i64 (x_.2.2.1)]), (200, .row (cl rrc (x_.2.1)) 5 (x_.2.2.2))]) (fun x_ => (x_.1) ≤ k ∧ rdRs b (k - (x_.1)) (x_.2.1) (x_.2.2.1) = rdRs b k [] p0 ∧ (x_.2.1).length = (x_.1) ∧ (x_.2.2.1) ≤ b.length) (fun x_ => k - (x_.1)) (0, [], p0, 0) ?_ (Back.mk' (HasT.cons (HasT.cons HasT.nil)) (HasH.cons (HasH.cons HasH.nil))) ?_
 ·
  exact ⟨Nat.zero_le _, rfl, rfl, hp⟩
 ·
  rintro ⟨i, l, p, v⟩ hI3
  change i ≤ k ∧ rdRs b (k - i) l p = rdRs b k [] p0 ∧ l.length = i ∧ p ≤ b.length at hI3
  obtain ⟨hi, hE, hll, hpe⟩ := hI3
  refine AWp.as (s' := AS.over _ [4, 5, 6, 7, 8, 10, 11, 12, 13, 14, 15, 16, 17, 18, 19, 20, 21, 22, 23, 24] [(10, i64 i), (6, .sl 200 v 0 l.length 5)] [(0, .box [.fz 0 b.length (cl bc b), i64 p]), (200, .row (cl rrc l) 5 v)]) rfl ?_
  refine AWp.seq ?_
  refine AWp.region ?_
  refine AOps.dec rfl rfl (q_lss) (fun h3_0 => ?_) (fun h3_0 => ?_)
  ·
   refine AOps.nil ?_
   refine AWp.seq ?_
   refine AWp.cond_t rfl ?_
   refine AWp.skip ?_
   refine AWp.seq ?_
   refine AWp.block ?_
   refine AWp.seq ?_
   refine AWp.region ?_
   rcases ha : rdR b p with e | a
   ·
    refine AOps.cons rfl rfl (q_move) ?_
    refine AOps.cons rfl rfl (q_callB (0) [(0, 0)] [] [(_, _)] (hc := (c_rrrec_er hb (by omega) ha))) ?_
    refine AOps.cons rfl rfl (q_move) ?_
    refine AOps.cons rfl rfl (q_extract) ?_
    refine AOps.cons rfl rfl (q_extract) ?_
    refine AOps.cons rfl rfl (q_alloc 505) ?_
    refine AOps.cons rfl rfl (q_store) ?_
    refine AOps.cons rfl rfl (q_assign) ?_
    refine AOps.nil ?_
    refine AWp.seq ?_
    refine AWp.seq ?_
    refine AWp.region ?_
    refine AOps.cons rfl rfl (q_move) ?_
    refine AOps.dec rfl rfl (q_neq) (fun h5_1 => ?_) (fun h5_1 => ?_)
    ·
     refine AOps.nil ?_
     refine AWp.cond_t rfl ?_
     refine AWp.seq ?_
     refine AWp.region ?_
     refine AOps.cons rfl rfl (q_move) ?_
     refine AOps.cons rfl rfl (q_nilz (0) rrc) ?_
     refine AOps.cons rfl rfl (q_assign) ?_
     refine AOps.nil ?_
     refine AWp.ret ?_
     show Fin te Try.f42 _ _
     have hX : rdRs b k [] p0 = .error e := by rw [← hE, show k - i = (k - (i + 1)) + 1 by omega, rdRs_err ha]
     rw [hX]
     refine q_retH (0) [] [_, _] [_, _] [(_, _)] ?_ (hobj := by repeat' (first | exact trivial | exact lv_ok rfl | exact lv_sl rfl rfl | exact lv_rn rfl rfl .row rfl | exact lv_ptr rfl rfl | exact lv_mp rfl rfl | exact lv_nilz | exact lv_any | exact lv_row0 rfl rfl .row (fun _ => rfl) (Nat.le_of_ble_eq_true rfl) (fun _ => rfl) | exact lobj_row (fun _ => rfl) | exact lobj_rown (fun _ => rfl) | exact lobj_me (fun _ => rfl) | refine lobj_box ?_ | refine ⟨rfl, ⟨_, rfl, ?_⟩, ?_⟩ | refine ⟨?_, ?_⟩)) (h2 := by repeat' (first | exact trivial | exact lv_ok rfl | exact lv_ptr rfl rfl | exact lv_sl rfl rfl | exact lv_nilz | exact lv_row0 rfl rfl .row (fun _ => rfl) (Nat.le_of_ble_eq_true rfl) (fun _ => rfl) | refine lv_agg ?_ | exact lv_any | refine ⟨?_, ?_⟩))
     rfl
    ·
     exfalso; exact h5_1 (rdR_ne0 ha)
   ·
    refine AOps.cons rfl rfl (q_move) ?_
    refine AOps.cons rfl rfl (q_callB (0) [(0, 0)] [] [(_, _)] (hc := (c_rrrec_ok hb (by omega) ha))) ?_
    refine AOps.cons rfl rfl (q_move) ?_
    refine AOps.cons rfl rfl (q_extract) ?_
    refine AOps.cons rfl rfl (q_extract) ?_
    refine AOps.cons rfl rfl (q_alloc 505) ?_
    refine AOps.cons rfl rfl (q_store) ?_
    refine AOps.cons rfl rfl (q_assign) ?_
    refine AOps.nil ?_
    refine AWp.seq ?_
    refine AWp.seq ?_
    refine AWp.region ?_
    refine AOps.cons rfl rfl (q_move) ?_
    refine AOps.dec rfl rfl (q_neq) (fun h5_1 => ?_) (fun h5_1 => ?_)
    ·
     exfalso; simp at h5_1
    ·
     refine AOps.nil ?_
     refine AWp.cond_f rfl ?_
     refine AWp.skip ?_
     refine AWp.region ?_
     rw [recV_ok ha]
     refine AOps.cons rfl rfl (q_move) ?_
     refine AOps.cons rfl rfl (q_load) ?_
     refine AOps.cons rfl rfl (q_bs 802 rrc [a.1] [(_, _)]) ?_
     refine AOps.cons rfl rfl (q_app) ?_
     refine AOps.cons rfl rfl (q_assign) ?_
     refine AOps.nil ?_
     refine AWp.region ?_
     refine AOps.cons rfl rfl (q_add) ?_
     refine AOps.cons rfl rfl (q_move) ?_
     refine AOps.nil ?_
     refine ⟨(i + 1, l ++ [a.1], a.2, v + 1), ?_, Back.mk' (HasT.cons (HasT.cons HasT.nil)) (HasH.cons (HasH.cons HasH.nil)), ?_⟩
     ·
      try dsimp only
      refine ⟨by omega, ?_, by rw [List.length_append, hll]; rfl, (rdR_ok ha).2⟩
      rw [← hE, show k - i = (k - (i + 1)) + 1 by omega, rdRs_ok ha]
     ·
      try dsimp only
      first | omega | (simp; omega)
  ·
   refine AOps.nil ?_
   refine AWp.seq ?_
   refine AWp.cond_f rfl ?_
   refine AWp.exit ?_
   refine AWp.seq ?_
   refine AWp.region ?_
   refine AOps.cons rfl rfl (q_move) ?_
   refine AOps.cons rfl rfl (q_assign) ?_
   refine AOps.cons rfl rfl (q_assign) ?_
   refine AOps.nil ?_
   refine AWp.ret ?_
   show Fin te Try.f42 _ _
   obtain rfl : i = k := by omega
   rw [Nat.sub_self, rdRs] at hE
   rw [← hE]
   refine q_retH (0) [] [_, _] [_, _] [(_, _)] ?_ (hobj := by repeat' (first | exact trivial | exact lv_ok rfl | exact lv_sl rfl rfl | exact lv_rn rfl rfl .row rfl | exact lv_ptr rfl rfl | exact lv_mp rfl rfl | exact lv_nilz | exact lv_any | exact lv_row0 rfl rfl .row (fun _ => rfl) (Nat.le_of_ble_eq_true rfl) (fun _ => rfl) | exact lobj_row (fun _ => rfl) | exact lobj_rown (fun _ => rfl) | exact lobj_me (fun _ => rfl) | refine lobj_box ?_ | refine ⟨rfl, ⟨_, rfl, ?_⟩, ?_⟩ | refine ⟨?_, ?_⟩)) (h2 := by repeat' (first | exact trivial | exact lv_ok rfl | exact lv_ptr rfl rfl | exact lv_sl rfl rfl | exact lv_nilz | exact lv_row0 rfl rfl .row (fun _ => rfl) (Nat.le_of_ble_eq_true rfl) (fun _ => rfl) | refine lv_agg ?_ | exact lv_any | refine ⟨?_, ?_⟩))
   rfl
set_option maxRecDepth 20000 in
set_option maxHeartbeats 2000000 in
theorem c_rrqs (b : List UInt8) (p0 k : Nat) (hb : b.length ≤ 65535) (hp : p0 ≤ b.length) (hk : k ≤ 65535) : AC Try.prog 41 [.ptr 0 0 0, i64 k] (hlook [(0, .box [.fz 0 b.length (cl bc b), i64 p0])]) (RetH (.tup [.fz 0 (resL (rdQs b k [] p0)).length (cl quc (resL (rdQs b k [] p0))), i64 (rnE (rdQs b k [] p0))]) [(0, .box [.fz 0 b.length (cl bc b), atE (rdQs b k [] p0)])]) := by
 refine AC.intro te_ok (fn := Try.f41) ⟨Try.func41, rfl, rfl⟩ (Nat.le_of_ble_eq_true rfl) ?_
 refine AWp.seq ?_
 refine AWp.region ?_
 refine AOps.cons rfl rfl (q_nilz (0) quc) ?_
 refine AOps.cons rfl rfl (q_assign) ?_
 refine AOps.nil ?_
 refine AWp.seq ?_
 refine AWp.region ?_
 refine AOps.cons rfl rfl (q_nilrow 200 3 quc) ?_
 refine AOps.nil ?_
 refine AWp.seq ?_
 refine AWp.seq ?_
 refine AWp.region ?_
 refine AOps.cons rfl rfl (q_move) ?_
 refine AOps.cons rfl rfl (q_move) ?_
 refine AOps.nil ?_
 refine AWp.block ?_
 refine AWp.loopR (α := Nat × List Qu × Nat × Nat) [4, 5, 6, 7, 8, 9, 10, 11, 12, 14, 15, 16, 17, 18, 19, 20, 21, 22, 23, 24, 25, 26, 27, 28, 29, 30, 31, 32, 33, 34, 35, 36, 37, 38, 39, 40, 41, 42, 43, 44, 45, 46, 47, 48, 49, 50, 51, 52] (fun x_ => [(14, i64 (x_.1)), (6, .sl 200 (x_.2.2.2) 0 (x_.2.1).length 3)]) (fun x_ => [(0, .box [.fz 0 b.length (cl bc b), i64 (x_.2.2.1)]), (200, .row (cl quc (x_.2.1)) 3 (x_.2.2.2))]) (fun x_ => (x_.1) ≤ k ∧ rdQs b (k - (x_.1)) (x_.2.1) (x_.2.2.1) = rdQs b k [] p0 ∧ (x_.2.1).length = (x_.1) ∧ (x_.2.2.1) ≤ b.length) (fun x_ => k - (x_.1)) (0, [], p0, 0) ?_ (Back.mk' (HasT.cons (HasT.cons HasT.nil)) (HasH.cons (HasH.cons HasH.nil))) ?_
 ·
  exact ⟨Nat.zero_le _, rfl, rfl, hp⟩
 ·
  rintro ⟨i, l, p, v⟩ hI3
  change i ≤ k ∧ rdQs b (k - i) l p = rdQs b k [] p0 ∧ l.length = i ∧ p ≤ b.length at hI3
  obtain ⟨hi, hE, hll, hpe⟩ := hI3
  refine AWp.as (s' := AS.over _ [4, 5, 6, 7, 8, 9, 10, 11, 12, 14, 15, 16, 17, 18, 19, 20, 21, 22, 23, 24, 25, 26, 27, 28, 29, 30, 31, 32, 33, 34, 35, 36, 37, 38, 39, 40, 41, 42, 43, 44, 45, 46, 47, 48, 49, 50, 51, 52] [(14, i64 i), (6, .sl 200 v 0 l.length 3)] [(0, .box [.fz 0 b.length (cl bc b), i64 p]), (200, .row (cl quc l) 3 v)]) rfl ?_
  refine AWp.seq ?_
  refine AWp.region ?_
  refine AOps.dec rfl rfl (q_lss) (fun h3_0 => ?_) (fun h3_0 => ?_)
  ·
   refine AOps.nil ?_
   refine AWp.seq ?_
   refine AWp.cond_t rfl ?_
   refine AWp.skip ?_
   refine AWp.seq ?_
   refine AWp.block ?_
   refine AWp.seq ?_
   refine AWp.region ?_
   rcases ha : rdN b 20 p p b.length none [] with e | a
   ·
    refine AOps.cons rfl rfl (q_move) ?_
    refine AOps.cons rfl rfl (q_move) ?_
    refine AOps.cons rfl rfl (q_nil) ?_
    refine AOps.cons rfl rfl (q_fa) ?_
    refine AOps.cons rfl rfl (q_load) ?_
    refine AOps.cons rfl rfl (q_len) ?_
    refine AOps.cons rfl rfl (q_callB (0) [(0, 0)] [] [(_, _)] (hc := (c_rrname_er hb (Nat.le_refl _) (by omega) ha))) ?_
    refine AOps.cons rfl rfl (q_move) ?_
    refine AOps.cons rfl rfl (q_extract) ?_
    refine AOps.cons rfl rfl (q_extract) ?_
    refine AOps.cons rfl rfl (q_assign) ?_
    refine AOps.cons rfl rfl (q_assign) ?_
    refine AOps.nil ?_
    refine AWp.seq ?_
    refine AWp.seq ?_
    refine AWp.region ?_
    refine AOps.cons rfl rfl (q_move) ?_
    refine AOps.dec rfl rfl (q_neq) (fun h5_1 => ?_) (fun h5_1 => ?_)
    ·
     refine AOps.nil ?_
     refine AWp.cond_t rfl ?_
     refine AWp.seq ?_
     refine AWp.region ?_
     refine AOps.cons rfl rfl (q_move) ?_
     refine AOps.cons rfl rfl (q_nilz (0) quc) ?_
     refine AOps.cons rfl rfl (q_assign) ?_
     refine AOps.nil ?_
     refine AWp.ret ?_
     show Fin te Try.f41 _ _
     have hX : rdQs b k [] p0 = .error e := by rw [← hE, show k - i = (k - (i + 1)) + 1 by omega, rdQs_err ha]
     rw [hX]
     refine q_retH (0) [] [_, _] [_, _] [(_, _)] ?_ (hobj := by repeat' (first | exact trivial | exact lv_ok rfl | exact lv_sl rfl rfl | exact lv_rn rfl rfl .row rfl | exact lv_ptr rfl rfl | exact lv_mp rfl rfl | exact lv_nilz | exact lv_any | exact lv_row0 rfl rfl .row (fun _ => rfl) (Nat.le_of_ble_eq_true rfl) (fun _ => rfl) | exact lobj_row (fun _ => rfl) | exact lobj_rown (fun _ => rfl) | exact lobj_me (fun _ => rfl) | refine lobj_box ?_ | refine ⟨rfl, ⟨_, rfl, ?_⟩, ?_⟩ | refine ⟨?_, ?_⟩)) (h2 := by repeat' (first | exact trivial | exact lv_ok rfl | exact lv_ptr rfl rfl | exact lv_sl rfl rfl | exact lv_nilz | exact lv_row0 rfl rfl .row (fun _ => rfl) (Nat.le_of_ble_eq_true rfl) (fun _ => rfl) | refine lv_agg ?_ | exact lv_any | refine ⟨?_, ?_⟩))
     rfl
    ·
     exfalso; exact h5_1 (rdN_ne0 _ _ _ _ _ ha)
   ·
    refine AOps.cons rfl rfl (q_move) ?_
    refine AOps.cons rfl rfl (q_move) ?_
    refine AOps.cons rfl rfl (q_nil) ?_
    refine AOps.cons rfl rfl (q_fa) ?_
    refine AOps.cons rfl rfl (q_load) ?_
    refine AOps.cons rfl rfl (q_len) ?_
    refine AOps.cons rfl rfl (q_callB (0) [(0, 0)] [] [(_, _)] (hc := (c_rrname_ok hb (Nat.le_refl _) (by omega) ha))) ?_
    refine AOps.cons rfl rfl (q_move) ?_
    refine AOps.cons rfl rfl (q_extract) ?_
    refine AOps.cons rfl rfl (q_extract) ?_
    refine AOps.cons rfl rfl (q_assign) ?_
    refine AOps.cons rfl rfl (q_assign) ?_
    refine AOps.nil ?_
    refine AWp.seq ?_
    refine AWp.seq ?_
    refine AWp.region ?_
    refine AOps.cons rfl rfl (q_move) ?_
    refine AOps.dec rfl rfl (q_neq) (fun h5_1 => ?_) (fun h5_1 => ?_)
    ·
     exfalso; simp at h5_1
    ·
     refine AOps.nil ?_
     refine AWp.cond_f rfl ?_
     refine AWp.skip ?_
     refine AWp.seq ?_
     refine AWp.region ?_
     obtain ⟨n1, n2, n3⟩ := rdN_ok0 ha
     rcases (by omega : b.length < a.2 + 2 ∨ (a.2 + 2 ≤ b.length ∧ b.length < a.2 + 4) ∨ a.2 + 4 ≤ b.length) with g1 | g1 | g1
     ·
      refine AOps.cons rfl rfl (q_move) ?_
      refine AOps.cons rfl rfl (q_callB (0) [(0, 0)] [] [(_, _)] (hc := (c_rrnum_no b (a.2) 2 hb (by omega) (by omega) (by omega)))) ?_
      refine AOps.cons rfl rfl (q_move) ?_
      refine AOps.cons rfl rfl (q_extract) ?_
      refine AOps.cons rfl rfl ((OpOk.bool_is (c := false) (q_extract) (rfl))) ?_
      refine AOps.cons rfl rfl (q_assign) ?_
      refine AOps.cons rfl rfl (q_assign) ?_
      refine AOps.nil ?_
      refine AWp.seq ?_
      refine AWp.region ?_
      refine AOps.cons rfl rfl (q_move) ?_
      refine AOps.cons rfl rfl (q_callB (0) [(0, 0)] [] [(_, _)] (hc := (c_rrnum_no b (a.2) 2 hb (by omega) (by omega) (by omega)))) ?_
      refine AOps.cons rfl rfl (q_move) ?_
      refine AOps.cons rfl rfl (q_extract) ?_
      refine AOps.cons rfl rfl ((OpOk.bool_is (c := false) (q_extract) (rfl))) ?_
      refine AOps.cons rfl rfl (q_assign) ?_
      refine AOps.cons rfl rfl (q_assign) ?_
      refine AOps.nil ?_
      refine AWp.seq ?_
      refine AWp.seq ?_
      refine AWp.region ?_
      refine AOps.cons rfl rfl (q_move) ?_
      refine AOps.cons rfl rfl (q_not) ?_
      refine AOps.cons rfl rfl (q_move) ?_
      refine AOps.gskip rfl rfl rfl rfl rfl rfl rfl rfl ?_
      refine AOps.gskip rfl rfl rfl rfl rfl rfl rfl rfl ?_
      refine AOps.cons rfl rfl (q_pick) ?_
      refine AOps.nil ?_
      refine AWp.cond_t rfl ?_
      refine AWp.seq ?_
      refine AWp.region ?_
      refine AOps.cons rfl rfl (q_nilz (0) quc) ?_
      refine AOps.cons rfl rfl (q_assign) ?_
      refine AOps.nil ?_
      refine AWp.ret ?_
      show Fin te Try.f41 _ _
      have hX : rdQs b k [] p0 = .error 20 := by rw [← hE, show k - i = (k - (i + 1)) + 1 by omega, rdQs_bad ha (by omega)]
      rw [hX]
      refine q_retH (0) [] [_, _] [_, _] [(_, _)] ?_ (hobj := by repeat' (first | exact trivial | exact lv_ok rfl | exact lv_sl rfl rfl | exact lv_rn rfl rfl .row rfl | exact lv_ptr rfl rfl | exact lv_mp rfl rfl | exact lv_nilz | exact lv_any | exact lv_row0 rfl rfl .row (fun _ => rfl) (Nat.le_of_ble_eq_true rfl) (fun _ => rfl) | exact lobj_row (fun _ => rfl) | exact lobj_rown (fun _ => rfl) | exact lobj_me (fun _ => rfl) | refine lobj_box ?_ | refine ⟨rfl, ⟨_, rfl, ?_⟩, ?_⟩ | refine ⟨?_, ?_⟩)) (h2 := by repeat' (first | exact trivial | exact lv_ok rfl | exact lv_ptr rfl rfl | exact lv_sl rfl rfl | exact lv_nilz | exact lv_row0 rfl rfl .row (fun _ => rfl) (Nat.le_of_ble_eq_true rfl) (fun _ => rfl) | refine lv_agg ?_ | exact lv_any | refine ⟨?_, ?_⟩))
      rfl
     ·
      refine AOps.cons rfl rfl (q_move) ?_
      refine AOps.cons rfl rfl (q_callB (0) [(0, 0)] [] [(_, _)] (hc := (c_rrnum_ok b (a.2) 2 hb (by omega) (by omega) (by omega)))) ?_
      refine AOps.cons rfl rfl (q_move) ?_
      refine AOps.cons rfl rfl (q_extract) ?_
      refine AOps.cons rfl rfl ((OpOk.bool_is (c := true) (q_extract) (rfl))) ?_
      refine AOps.cons rfl rfl (q_assign) ?_
      refine AOps.cons rfl rfl (q_assign) ?_
      refine AOps.nil ?_
      refine AWp.seq ?_
      refine AWp.region ?_
      refine AOps.cons rfl rfl (q_move) ?_
      refine AOps.cons rfl rfl (q_callB (0) [(0, 0)] [] [(_, _)] (hc := (c_rrnum_no b (a.2 + 2) 2 hb (by omega) (by omega) (by omega)))) ?_
      refine AOps.cons rfl rfl (q_move) ?_
      refine AOps.cons rfl rfl (q_extract) ?_
      refine AOps.cons rfl rfl ((OpOk.bool_is (c := false) (q_extract) (rfl))) ?_
      refine AOps.cons rfl rfl (q_assign) ?_
      refine AOps.cons rfl rfl (q_assign) ?_
      refine AOps.nil ?_
      refine AWp.seq ?_
      refine AWp.seq ?_
      refine AWp.region ?_
      refine AOps.cons rfl rfl (q_move) ?_
      refine AOps.cons rfl rfl (q_not) ?_
      refine AOps.cons rfl rfl (q_move) ?_
      refine AOps.gcons rfl rfl rfl rfl rfl (q_move) ?_
      refine AOps.gcons rfl rfl rfl rfl rfl (q_not) ?_
      refine AOps.cons rfl rfl (q_pick) ?_
      refine AOps.nil ?_
      refine AWp.cond_t rfl ?_
      refine AWp.seq ?_
      refine AWp.region ?_
      refine AOps.cons rfl rfl (q_nilz (0) quc) ?_
      refine AOps.cons rfl rfl (q_assign) ?_
      refine AOps.nil ?_
      refine AWp.ret ?_
      show Fin te Try.f41 _ _
      have hX : rdQs b k [] p0 = .error 20 := by rw [← hE, show k - i = (k - (i + 1)) + 1 by omega, rdQs_bad ha (by omega)]
      rw [hX]
      refine q_retH (0) [] [_, _] [_, _] [(_, _)] ?_ (hobj := by repeat' (first | exact trivial | exact lv_ok rfl | exact lv_sl rfl rfl | exact lv_rn rfl rfl .row rfl | exact lv_ptr rfl rfl | exact lv_mp rfl rfl | exact lv_nilz | exact lv_any | exact lv_row0 rfl rfl .row (fun _ => rfl) (Nat.le_of_ble_eq_true rfl) (fun _ => rfl) | exact lobj_row (fun _ => rfl) | exact lobj_rown (fun _ => rfl) | exact lobj_me (fun _ => rfl) | refine lobj_box ?_ | refine ⟨rfl, ⟨_, rfl, ?_⟩, ?_⟩ | refine ⟨?_, ?_⟩)) (h2 := by repeat' (first | exact trivial | exact lv_ok rfl | exact lv_ptr rfl rfl | exact lv_sl rfl rfl | exact lv_nilz | exact lv_row0 rfl rfl .row (fun _ => rfl) (Nat.le_of_ble_eq_true rfl) (fun _ => rfl) | refine lv_agg ?_ | exact lv_any | refine ⟨?_, ?_⟩))
      rfl
     ·
      refine AOps.cons rfl rfl (q_move) ?_
      refine AOps.cons rfl rfl (q_callB (0) [(0, 0)] [] [(_, _)] (hc := (c_rrnum_ok b (a.2) 2 hb (by omega) (by omega) (by omega)))) ?_
      refine AOps.cons rfl rfl (q_move) ?_
      refine AOps.cons rfl rfl (q_extract) ?_
      refine AOps.cons rfl rfl ((OpOk.bool_is (c := true) (q_extract) (rfl))) ?_
      refine AOps.cons rfl rfl (q_assign) ?_
      refine AOps.cons rfl rfl (q_assign) ?_
      refine AOps.nil ?_
      refine AWp.seq ?_
      refine AWp.region ?_
      refine AOps.cons rfl rfl (q_move) ?_
      refine AOps.cons rfl rfl (q_callB (0) [(0, 0)] [] [(_, _)] (hc := (c_rrnum_ok b (a.2 + 2) 2 hb (by omega) (by omega) (by omega)))) ?_
      refine AOps.cons rfl rfl (q_move) ?_
      refine AOps.cons rfl rfl (q_extract) ?_
      refine AOps.cons rfl rfl ((OpOk.bool_is (c := true) (q_extract) (rfl))) ?_
      refine AOps.cons rfl rfl (q_assign) ?_
      refine AOps.cons rfl rfl (q_assign) ?_
      refine AOps.nil ?_
      refine AWp.seq ?_
      refine AWp.seq ?_
      refine AWp.region ?_
      refine AOps.cons rfl rfl (q_move) ?_
      refine AOps.cons rfl rfl (q_not) ?_
      refine AOps.cons rfl rfl (q_move) ?_
      refine AOps.gcons rfl rfl rfl rfl rfl (q_move) ?_
      refine AOps.gcons rfl rfl rfl rfl rfl (q_not) ?_
      refine AOps.cons rfl rfl (q_pick) ?_
      refine AOps.nil ?_
      refine AWp.cond_f rfl ?_
      refine AWp.skip ?_
      refine AWp.region ?_
      refine AOps.cons rfl rfl (q_move) ?_
      refine AOps.cons rfl rfl (q_move) ?_
      refine AOps.cons rfl rfl (q_move) ?_
      refine AOps.cons rfl rfl (q_move) ?_
      refine AOps.cons rfl rfl (q_build [(_, _), (_, _), (_, _)]) ?_
      refine AOps.cons rfl rfl (q_bs 1205 quc [⟨a.1, bN b a.2 2, bN b (a.2 + 2) 2⟩] [(_, _)]) ?_
      refine AOps.cons rfl rfl (q_app) ?_
      refine AOps.cons rfl rfl (q_assign) ?_
      refine AOps.nil ?_
      refine AWp.region ?_
      refine AOps.cons rfl rfl (q_add) ?_
      refine AOps.cons rfl rfl (q_move) ?_
      refine AOps.nil ?_
      refine ⟨(i + 1, l ++ [⟨a.1, bN b a.2 2, bN b (a.2 + 2) 2⟩], a.2 + 4, v + 1), ?_, Back.mk' (HasT.cons (HasT.cons HasT.nil)) (HasH.cons (HasH.cons HasH.nil)), ?_⟩
      ·
       try dsimp only
       refine ⟨by omega, ?_, by rw [List.length_append, hll]; rfl, by omega⟩
       rw [← hE, show k - i = (k - (i + 1)) + 1 by omega, rdQs_ok ha (by omega)]
      ·
       try dsimp only
       first | omega | (simp; omega)
  ·
   refine AOps.nil ?_
   refine AWp.seq ?_
   refine AWp.cond_f rfl ?_
   refine AWp.exit ?_
   refine AWp.seq ?_
   refine AWp.region ?_
   refine AOps.cons rfl rfl (q_move) ?_
   refine AOps.cons rfl rfl (q_assign) ?_
   refine AOps.cons rfl rfl (q_assign) ?_
   refine AOps.nil ?_
   refine AWp.ret ?_
   show Fin te Try.f41 _ _
   obtain rfl : i = k := by omega
   rw [Nat.sub_self, rdQs] at hE
   rw [← hE]
   refine q_retH (0) [] [_, _] [_, _] [(_, _)] ?_ (hobj := by repeat' (first | exact trivial | exact lv_ok rfl | exact lv_sl rfl rfl | exact lv_rn rfl rfl .row rfl | exact lv_ptr rfl rfl | exact lv_mp rfl rfl | exact lv_nilz | exact lv_any | exact lv_row0 rfl rfl .row (fun _ => rfl) (Nat.le_of_ble_eq_true rfl) (fun _ => rfl) | exact lobj_row (fun _ => rfl) | exact lobj_rown (fun _ => rfl) | exact lobj_me (fun _ => rfl) | refine lobj_box ?_ | refine ⟨rfl, ⟨_, rfl, ?_⟩, ?_⟩ | refine ⟨?_, ?_⟩)) (h2 := by repeat' (first | exact trivial | exact lv_ok rfl | exact lv_ptr rfl rfl | exact lv_sl rfl rfl | exact lv_nilz | exact lv_row0 rfl rfl .row (fun _ => rfl) (Nat.le_of_ble_eq_true rfl) (fun _ => rfl) | refine lv_agg ?_ | exact lv_any | refine ⟨?_, ?_⟩))
   rfl
end Go.Proofs.Ytkfccjbihcbmiaa.Fw


set_option linter.unusedVariables false
set_option linter.unusedSimpArgs false
namespace Go.Proofs.Ytkfccjbihcbmiaa.Fw
open Go.RowKit
section
variable {b : List UInt8} {p0 k : Nat}
theorem c_rrrs_ok {x : List Rr × Nat} (hb : b.length ≤ 65535) (hp : p0 ≤ b.length) (hk : k ≤ 65535) (h : rdRs b k [] p0 = .ok x) : AC Try.prog 42 [.ptr 0 0 0, i64 k] (hlook [(0, .box [.fz 0 b.length (cl bc b), i64 p0])]) (RetH (.tup [.fz 0 x.1.length (cl rrc x.1), i64 0]) [(0, .box [.fz 0 b.length (cl bc b), i64 x.2])]) := by
  have := c_rrrs b p0 k hb hp hk
  rw [h] at this
  exact this
theorem c_rrrs_er {e : Int} (hb : b.length ≤ 65535) (hp : p0 ≤ b.length) (hk : k ≤ 65535) (h : rdRs b k [] p0 = .error e) : AC Try.prog 42 [.ptr 0 0 0, i64 k] (hlook [(0, .box [.fz 0 b.length (cl bc b), i64 p0])]) (RetH (.tup [.fz 0 ([] : List Rr).length (cl rrc []), i64 e]) [(0, .box [.fz 0 b.length (cl bc b), .any])]) := by
  have := c_rrrs b p0 k hb hp hk
  rw [h] at this
  exact this
theorem c_rrqs_ok {x : List Qu × Nat} (hb : b.length ≤ 65535) (hp : p0 ≤ b.length) (hk : k ≤ 65535) (h : rdQs b k [] p0 = .ok x) : AC Try.prog 41 [.ptr 0 0 0, i64 k] (hlook [(0, .box [.fz 0 b.length (cl bc b), i64 p0])]) (RetH (.tup [.fz 0 x.1.length (cl quc x.1), i64 0]) [(0, .box [.fz 0 b.length (cl bc b), i64 x.2])]) := by
  have := c_rrqs b p0 k hb hp hk
  rw [h] at this
  exact this
theorem c_rrqs_er {e : Int} (hb : b.length ≤ 65535) (hp : p0 ≤ b.length) (hk : k ≤ 65535) (h : rdQs b k [] p0 = .error e) : AC Try.prog 41 [.ptr 0 0 0, i64 k] (hlook [(0, .box [.fz 0 b.length (cl bc b), i64 p0])]) (RetH (.tup [.fz 0 ([] : List Qu).length (cl quc []), i64 e]) [(0, .box [.fz 0 b.length (cl bc b), .any])]) := by
  have := c_rrqs b p0 k hb hp hk
  rw [h] at this
  exact this
end
theorem dec_err {b : List UInt8} {e : Int} (h : rdM b = .error e) : decM b = zM ∧ decE b = e := by rw [decM, decE, h]; exact ⟨rfl, rfl⟩
theorem dec_ok {b : List UInt8} {m : Msg} (h : rdM b = .ok m) : decM b = m ∧ decE b = 0 := by rw [decM, decE, h]; exact ⟨rfl, rfl⟩
set_option maxRecDepth 20000 in
set_option maxHeartbeats 2000000 in
theorem co_refDecode (b : List UInt8) (hb : b.length ≤ 140737488351232) : AC Try.prog 17 [.fz 0 b.length (cl bc b)] (hlook []) (RetH (.tup [.agg (msgC (decM b)), i64 (decE b)]) []) := by
 refine AC.intro te_ok (fn := Try.f17) ⟨Try.func17, rfl, rfl⟩ (Nat.le_of_ble_eq_true rfl) ?_
 refine AWp.seq ?_
 refine AWp.region ?_
 refine AOps.cons rfl rfl (q_alloc 100) ?_
 refine AOps.cons rfl rfl (q_assign) ?_
 refine AOps.nil ?_
 refine AWp.seq ?_
 refine AWp.seq ?_
 refine AWp.region ?_
 refine AOps.cons rfl rfl (q_move) ?_
 refine AOps.cons rfl rfl (q_len) ?_
 refine AOps.dec rfl rfl (q_gtr) (fun h1_2 => ?_) (fun h1_2 => ?_)
 ·
  refine AOps.nil ?_
  refine AWp.cond_t rfl ?_
  refine AWp.seq ?_
  refine AWp.region ?_
  refine AOps.cons rfl rfl (q_build []) ?_
  refine AOps.cons rfl rfl (q_store) ?_
  refine AOps.cons rfl rfl (q_assign) ?_
  refine AOps.nil ?_
  refine AWp.ret ?_
  show Fin te Try.f17 _ _
  obtain ⟨x1, x2⟩ := dec_err (b := b) (e := 42) (by rw [rdM, if_pos (by omega)])
  rw [x1, x2]
  refine q_retH (0) [] [_, _] [.agg (msgC zM), _] [] ?_ (hobj := by repeat' (first | exact trivial | exact lv_ok rfl | exact lv_sl rfl rfl | exact lv_rn rfl rfl .row rfl | exact lv_ptr rfl rfl | exact lv_mp rfl rfl | exact lv_nilz | exact lv_any | exact lv_row0 rfl rfl .row (fun _ => rfl) (Nat.le_of_ble_eq_true rfl) (fun _ => rfl) | exact lobj_row (fun _ => rfl) | exact lobj_rown (fun _ => rfl) | exact lobj_me (fun _ => rfl) | refine lobj_box ?_ | refine ⟨rfl, ⟨_, rfl, ?_⟩, ?_⟩ | refine ⟨?_, ?_⟩)) (h2 := by repeat' (first | exact trivial | exact lv_ok rfl | exact lv_ptr rfl rfl | exact lv_sl rfl rfl | exact lv_nilz | exact lv_row0 rfl rfl .row (fun _ => rfl) (Nat.le_of_ble_eq_true rfl) (fun _ => rfl) | refine lv_agg ?_ | exact lv_any | refine ⟨?_, ?_⟩))
  rfl
 ·
  refine AOps.nil ?_
  refine AWp.cond_f rfl ?_
  refine AWp.skip ?_
  refine AWp.seq ?_
  refine AWp.region ?_
  refine AOps.cons rfl rfl (q_move) ?_
  refine AOps.cons rfl rfl (q_call (0) (hc := (c_ciceroneref02_Decode b 0 (by omega)))) ?_
  refine AOps.cons rfl rfl (q_move) ?_
  refine AOps.cons rfl rfl (q_extract) ?_
  refine AOps.cons rfl rfl (q_extract) ?_
  refine AOps.cons rfl rfl (q_extract) ?_
  refine AOps.cons rfl rfl (q_alloc 406) ?_
  refine AOps.cons rfl rfl (q_alloc 407) ?_
  refine AOps.cons rfl rfl (q_store) ?_
  refine AOps.cons rfl rfl (q_store) ?_
  refine AOps.cons rfl rfl (q_assign) ?_
  refine AOps.nil ?_
  refine AWp.seq ?_
  refine AWp.seq ?_
  refine AWp.region ?_
  refine AOps.cons rfl rfl (q_move) ?_
  refine AOps.dec rfl rfl (q_neq) (fun h4_1 => ?_) (fun h4_1 => ?_)
  ·
   refine AOps.nil ?_
   refine AWp.cond_t rfl ?_
   refine AWp.seq ?_
   refine AWp.region ?_
   refine AOps.cons rfl rfl (q_build []) ?_
   refine AOps.cons rfl rfl (q_move) ?_
   refine AOps.cons rfl rfl (q_store) ?_
   refine AOps.cons rfl rfl (q_assign) ?_
   refine AOps.nil ?_
   refine AWp.ret ?_
   show Fin te Try.f17 _ _
   obtain ⟨x1, x2⟩ := dec_err (b := b) (e := dE b) (by rw [rdM, if_neg (by omega), if_pos h4_1])
   rw [x1, x2]
   refine q_retH (0) [] [_, _] [.agg (msgC zM), _] [] ?_ (hobj := by repeat' (first | exact trivial | exact lv_ok rfl | exact lv_sl rfl rfl | exact lv_rn rfl rfl .row rfl | exact lv_ptr rfl rfl | exact lv_mp rfl rfl | exact lv_nilz | exact lv_any | exact lv_row0 rfl rfl .row (fun _ => rfl) (Nat.le_of_ble_eq_true rfl) (fun _ => rfl) | exact lobj_row (fun _ => rfl) | exact lobj_rown (fun _ => rfl) | exact lobj_me (fun _ => rfl) | refine lobj_box ?_ | refine ⟨rfl, ⟨_, rfl, ?_⟩, ?_⟩ | refine ⟨?_, ?_⟩)) (h2 := by repeat' (first | exact trivial | exact lv_ok rfl | exact lv_ptr rfl rfl | exact lv_sl rfl rfl | exact lv_nilz | exact lv_row0 rfl rfl .row (fun _ => rfl) (Nat.le_of_ble_eq_true rfl) (fun _ => rfl) | refine lv_agg ?_ | exact lv_any | refine ⟨?_, ?_⟩))
   rfl
  ·
   refine AOps.nil ?_
   refine AWp.cond_f rfl ?_
   refine AWp.skip ?_
   refine AWp.seq ?_
   refine AWp.region ?_
   have g1 : ¬ 65535 < b.length := by omega
   have hb2 : b.length ≤ 65535 := by omega
   have hz : dE b = 0 := by omega
   have hz1 := dE_zero' hz
   obtain ⟨e2, l2⟩ := cN_eq b 2
   obtain ⟨e3, l3⟩ := cN_eq b 3
   obtain ⟨e4, l4⟩ := cN_eq b 4
   obtain ⟨e5, l5⟩ := cN_eq b 5
   rw [e2, e3, e4, e5]
   refine AOps.cons rfl rfl (q_move) ?_
   refine AOps.cons rfl rfl (q_build [(_, _), (_, _)]) ?_
   refine AOps.cons rfl rfl (q_box 702) ?_
   refine AOps.cons rfl rfl (q_assign) ?_
   refine AOps.nil ?_
   refine AWp.seq ?_
   refine AWp.region ?_
   refine AOps.cons rfl rfl (q_load) ?_
   refine AOps.cons rfl rfl (q_build [(_, _)]) ?_
   refine AOps.cons rfl rfl (q_alloc 802) ?_
   refine AOps.cons rfl rfl (q_store) ?_
   refine AOps.nil ?_
   refine AWp.seq ?_
   refine AWp.seq ?_
   refine AWp.region ?_
   rcases hq : rdQs b (cN b 2) [] 12 with e | q
   ·
    refine AOps.cons rfl rfl (q_move) ?_
    refine AOps.cons rfl rfl (q_ixa) ?_
    refine AOps.cons rfl rfl (q_load) ?_
    refine AOps.cons rfl rfl (q_callB (0) [(0, 702)] [] [(_, _)] (hc := (c_rrqs_er hb2 (by omega) l2 hq))) ?_
    refine AOps.cons rfl rfl (q_move) ?_
    refine AOps.cons rfl rfl (q_extract) ?_
    refine AOps.cons rfl rfl (q_extract) ?_
    refine AOps.cons rfl rfl (q_fa) ?_
    refine AOps.cons rfl rfl (q_store) ?_
    refine AOps.cons rfl rfl (q_assign) ?_
    refine AOps.nil ?_
    refine AWp.seq ?_
    refine AWp.region ?_
    refine AOps.cons rfl rfl (q_move) ?_
    refine AOps.dec rfl rfl (q_neq) (fun h9_1 => ?_) (fun h9_1 => ?_)
    ·
     refine AOps.nil ?_
     refine AWp.cond_t rfl ?_
     refine AWp.seq ?_
     refine AWp.region ?_
     refine AOps.cons rfl rfl (q_build []) ?_
     refine AOps.cons rfl rfl (q_move) ?_
     refine AOps.cons rfl rfl (q_store) ?_
     refine AOps.cons rfl rfl (q_assign) ?_
     refine AOps.nil ?_
     refine AWp.ret ?_
     show Fin te Try.f17 _ _
     obtain ⟨x1, x2⟩ := dec_err (b := b) (e := e) (by rw [rdM_q g1 hz, bindE_err hq])
     rw [x1, x2]
     refine q_retH (0) [] [_, _] [.agg (msgC zM), _] [] ?_ (hobj := by repeat' (first | exact trivial | exact lv_ok rfl | exact lv_sl rfl rfl | exact lv_rn rfl rfl .row rfl | exact lv_ptr rfl rfl | exact lv_mp rfl rfl | exact lv_nilz | exact lv_any | exact lv_row0 rfl rfl .row (fun _ => rfl) (Nat.le_of_ble_eq_true rfl) (fun _ => rfl) | exact lobj_row (fun _ => rfl) | exact lobj_rown (fun _ => rfl) | exact lobj_me (fun _ => rfl) | refine lobj_box ?_ | refine ⟨rfl, ⟨_, rfl, ?_⟩, ?_⟩ | refine ⟨?_, ?_⟩)) (h2 := by repeat' (first | exact trivial | exact lv_ok rfl | exact lv_ptr rfl rfl | exact lv_sl rfl rfl | exact lv_nilz | exact lv_row0 rfl rfl .row (fun _ => rfl) (Nat.le_of_ble_eq_true rfl) (fun _ => rfl) | refine lv_agg ?_ | exact lv_any | refine ⟨?_, ?_⟩))
     rfl
    ·
     exfalso; exact h9_1 (rdQs_ne0 _ _ _ hq)
   ·
    refine AOps.cons rfl rfl (q_move) ?_
    refine AOps.cons rfl rfl (q_ixa) ?_
    refine AOps.cons rfl rfl (q_load) ?_
    refine AOps.cons rfl rfl (q_callB (0) [(0, 702)] [] [(_, _)] (hc := (c_rrqs_ok hb2 (by omega) l2 hq))) ?_
    refine AOps.cons rfl rfl (q_move) ?_
    refine AOps.cons rfl rfl (q_extract) ?_
    refine AOps.cons rfl rfl (q_extract) ?_
    refine AOps.cons rfl rfl (q_fa) ?_
    refine AOps.cons rfl rfl (q_store) ?_
    refine AOps.cons rfl rfl (q_assign) ?_
    refine AOps.nil ?_
    refine AWp.seq ?_
    refine AWp.region ?_
    refine AOps.cons rfl rfl (q_move) ?_
    refine AOps.dec rfl rfl (q_neq) (fun h9_1 => ?_) (fun h9_1 => ?_)
    ·
     exfalso; simp at h9_1
    ·
     refine AOps.nil ?_
     refine AWp.cond_f rfl ?_
     refine AWp.skip ?_
     refine AWp.seq ?_
     refine AWp.seq ?_
     refine AWp.region ?_
     rcases h3 : rdRs b (cN b 3) [] q.2 with e | x
     ·
      have q1 := rdQs_le _ _ _ hq (by omega)
      refine AOps.cons rfl rfl (q_move) ?_
      refine AOps.cons rfl rfl (q_ixa) ?_
      refine AOps.cons rfl rfl (q_load) ?_
      refine AOps.cons rfl rfl (q_callB (0) [(0, 702)] [] [(_, _)] (hc := (c_rrrs_er hb2 (by omega) l3 h3))) ?_
      refine AOps.cons rfl rfl (q_move) ?_
      refine AOps.cons rfl rfl (q_extract) ?_
      refine AOps.cons rfl rfl (q_extract) ?_
      refine AOps.cons rfl rfl (q_fa) ?_
      refine AOps.cons rfl rfl (q_store) ?_
      refine AOps.cons rfl rfl (q_assign) ?_
      refine AOps.nil ?_
      refine AWp.seq ?_
      refine AWp.region ?_
      refine AOps.cons rfl rfl (q_move) ?_
      refine AOps.dec rfl rfl (q_neq) (fun h12_1 => ?_) (fun h12_1 => ?_)
      ·
       refine AOps.nil ?_
       refine AWp.cond_t rfl ?_
       refine AWp.seq ?_
       refine AWp.region ?_
       refine AOps.cons rfl rfl (q_build []) ?_
       refine AOps.cons rfl rfl (q_move) ?_
       refine AOps.cons rfl rfl (q_store) ?_
       refine AOps.cons rfl rfl (q_assign) ?_
       refine AOps.nil ?_
       refine AWp.ret ?_
       show Fin te Try.f17 _ _
       obtain ⟨x1, x2⟩ := dec_err (b := b) (e := e) (by rw [rdM_q g1 hz, bindE_ok hq]; rw [bindE_err h3])
       rw [x1, x2]
       refine q_retH (0) [] [_, _] [.agg (msgC zM), _] [] ?_ (hobj := by repeat' (first | exact trivial | exact lv_ok rfl | exact lv_sl rfl rfl | exact lv_rn rfl rfl .row rfl | exact lv_ptr rfl rfl | exact lv_mp rfl rfl | exact lv_nilz | exact lv_any | exact lv_row0 rfl rfl .row (fun _ => rfl) (Nat.le_of_ble_eq_true rfl) (fun _ => rfl) | exact lobj_row (fun _ => rfl) | exact lobj_rown (fun _ => rfl) | exact lobj_me (fun _ => rfl) | refine lobj_box ?_ | refine ⟨rfl, ⟨_, rfl, ?_⟩, ?_⟩ | refine ⟨?_, ?_⟩)) (h2 := by repeat' (first | exact trivial | exact lv_ok rfl | exact lv_ptr rfl rfl | exact lv_sl rfl rfl | exact lv_nilz | exact lv_row0 rfl rfl .row (fun _ => rfl) (Nat.le_of_ble_eq_true rfl) (fun _ => rfl) | refine lv_agg ?_ | exact lv_any | refine ⟨?_, ?_⟩))
       rfl
      ·
       exfalso; exact h12_1 (rdRs_ne0 _ _ _ h3)
     ·
      have q1 := rdQs_le _ _ _ hq (by omega)
      refine AOps.cons rfl rfl (q_move) ?_
      refine AOps.cons rfl rfl (q_ixa) ?_
      refine AOps.cons rfl rfl (q_load) ?_
      refine AOps.cons rfl rfl (q_callB (0) [(0, 702)] [] [(_, _)] (hc := (c_rrrs_ok hb2 (by omega) l3 h3))) ?_
      refine AOps.cons rfl rfl (q_move) ?_
      refine AOps.cons rfl rfl (q_extract) ?_
      refine AOps.cons rfl rfl (q_extract) ?_
      refine AOps.cons rfl rfl (q_fa) ?_
      refine AOps.cons rfl rfl (q_store) ?_
      refine AOps.cons rfl rfl (q_assign) ?_
      refine AOps.nil ?_
      refine AWp.seq ?_
      refine AWp.region ?_
      refine AOps.cons rfl rfl (q_move) ?_
      refine AOps.dec rfl rfl (q_neq) (fun h12_1 => ?_) (fun h12_1 => ?_)
      ·
       exfalso; simp at h12_1
      ·
       refine AOps.nil ?_
       refine AWp.cond_f rfl ?_
       refine AWp.skip ?_
       refine AWp.seq ?_
       refine AWp.seq ?_
       refine AWp.region ?_
       rcases h4 : rdRs b (cN b 4) [] x.2 with e | y
       ·
        have q2 := rdRs_le _ _ _ h3 q1
        refine AOps.cons rfl rfl (q_move) ?_
        refine AOps.cons rfl rfl (q_ixa) ?_
        refine AOps.cons rfl rfl (q_load) ?_
        refine AOps.cons rfl rfl (q_callB (0) [(0, 702)] [] [(_, _)] (hc := (c_rrrs_er hb2 (by omega) l4 h4))) ?_
        refine AOps.cons rfl rfl (q_move) ?_
        refine AOps.cons rfl rfl (q_extract) ?_
        refine AOps.cons rfl rfl (q_extract) ?_
        refine AOps.cons rfl rfl (q_fa) ?_
        refine AOps.cons rfl rfl (q_store) ?_
        refine AOps.cons rfl rfl (q_assign) ?_
        refine AOps.nil ?_
        refine AWp.seq ?_
        refine AWp.region ?_
        refine AOps.cons rfl rfl (q_move) ?_
        refine AOps.dec rfl rfl (q_neq) (fun h15_1 => ?_) (fun h15_1 => ?_)
        ·
         refine AOps.nil ?_
         refine AWp.cond_t rfl ?_
         refine AWp.seq ?_
         refine AWp.region ?_
         refine AOps.cons rfl rfl (q_build []) ?_
         refine AOps.cons rfl rfl (q_move) ?_
         refine AOps.cons rfl rfl (q_store) ?_
         refine AOps.cons rfl rfl (q_assign) ?_
         refine AOps.nil ?_
         refine AWp.ret ?_
         show Fin te Try.f17 _ _
         obtain ⟨x1, x2⟩ := dec_err (b := b) (e := e) (by rw [rdM_q g1 hz, bindE_ok hq]; rw [bindE_ok h3]; rw [bindE_err h4])
         rw [x1, x2]
         refine q_retH (0) [] [_, _] [.agg (msgC zM), _] [] ?_ (hobj := by repeat' (first | exact trivial | exact lv_ok rfl | exact lv_sl rfl rfl | exact lv_rn rfl rfl .row rfl | exact lv_ptr rfl rfl | exact lv_mp rfl rfl | exact lv_nilz | exact lv_any | exact lv_row0 rfl rfl .row (fun _ => rfl) (Nat.le_of_ble_eq_true rfl) (fun _ => rfl) | exact lobj_row (fun _ => rfl) | exact lobj_rown (fun _ => rfl) | exact lobj_me (fun _ => rfl) | refine lobj_box ?_ | refine ⟨rfl, ⟨_, rfl, ?_⟩, ?_⟩ | refine ⟨?_, ?_⟩)) (h2 := by repeat' (first | exact trivial | exact lv_ok rfl | exact lv_ptr rfl rfl | exact lv_sl rfl rfl | exact lv_nilz | exact lv_row0 rfl rfl .row (fun _ => rfl) (Nat.le_of_ble_eq_true rfl) (fun _ => rfl) | refine lv_agg ?_ | exact lv_any | refine ⟨?_, ?_⟩))
         rfl
        ·
         exfalso; exact h15_1 (rdRs_ne0 _ _ _ h4)
       ·
        have q2 := rdRs_le _ _ _ h3 q1
        refine AOps.cons rfl rfl (q_move) ?_
        refine AOps.cons rfl rfl (q_ixa) ?_
        refine AOps.cons rfl rfl (q_load) ?_
        refine AOps.cons rfl rfl (q_callB (0) [(0, 702)] [] [(_, _)] (hc := (c_rrrs_ok hb2 (by omega) l4 h4))) ?_
        refine AOps.cons rfl rfl (q_move) ?_
        refine AOps.cons rfl rfl (q_extract) ?_
        refine AOps.cons rfl rfl (q_extract) ?_
        refine AOps.cons rfl rfl (q_fa) ?_
        refine AOps.cons rfl rfl (q_store) ?_
        refine AOps.cons rfl rfl (q_assign) ?_
        refine AOps.nil ?_
        refine AWp.seq ?_
        refine AWp.region ?_
        refine AOps.cons rfl rfl (q_move) ?_
        refine AOps.dec rfl rfl (q_neq) (fun h15_1 => ?_) (fun h15_1 => ?_)
        ·
         exfalso; simp at h15_1
        ·
         refine AOps.nil ?_
         refine AWp.cond_f rfl ?_
         refine AWp.skip ?_
         refine AWp.seq ?_
         refine AWp.seq ?_
         refine AWp.region ?_
         rcases h5 : rdRs b (cN b 5) [] y.2 with e | z
         ·
          have q3 := rdRs_le _ _ _ h4 q2
          refine AOps.cons rfl rfl (q_move) ?_
          refine AOps.cons rfl rfl (q_ixa) ?_
          refine AOps.cons rfl rfl (q_load) ?_
          refine AOps.cons rfl rfl (q_callB (0) [(0, 702)] [] [(_, _)] (hc := (c_rrrs_er hb2 (by omega) l5 h5))) ?_
          refine AOps.cons rfl rfl (q_move) ?_
          refine AOps.cons rfl rfl (q_extract) ?_
          refine AOps.cons rfl rfl (q_extract) ?_
          refine AOps.cons rfl rfl (q_fa) ?_
          refine AOps.cons rfl rfl (q_store) ?_
          refine AOps.cons rfl rfl (q_assign) ?_
          refine AOps.nil ?_
          refine AWp.seq ?_
          refine AWp.region ?_
          refine AOps.cons rfl rfl (q_move) ?_
          refine AOps.dec rfl rfl (q_neq) (fun h18_1 => ?_) (fun h18_1 => ?_)
          ·
           refine AOps.nil ?_
           refine AWp.cond_t rfl ?_
           refine AWp.seq ?_
           refine AWp.region ?_
           refine AOps.cons rfl rfl (q_build []) ?_
           refine AOps.cons rfl rfl (q_move) ?_
           refine AOps.cons rfl rfl (q_store) ?_
           refine AOps.cons rfl rfl (q_assign) ?_
           refine AOps.nil ?_
           refine AWp.ret ?_
           show Fin te Try.f17 _ _
           obtain ⟨x1, x2⟩ := dec_err (b := b) (e := e) (by rw [rdM_q g1 hz, bindE_ok hq]; rw [bindE_ok h3]; rw [bindE_ok h4]; rw [bindE_err h5])
           rw [x1, x2]
           refine q_retH (0) [] [_, _] [.agg (msgC zM), _] [] ?_ (hobj := by repeat' (first | exact trivial | exact lv_ok rfl | exact lv_sl rfl rfl | exact lv_rn rfl rfl .row rfl | exact lv_ptr rfl rfl | exact lv_mp rfl rfl | exact lv_nilz | exact lv_any | exact lv_row0 rfl rfl .row (fun _ => rfl) (Nat.le_of_ble_eq_true rfl) (fun _ => rfl) | exact lobj_row (fun _ => rfl) | exact lobj_rown (fun _ => rfl) | exact lobj_me (fun _ => rfl) | refine lobj_box ?_ | refine ⟨rfl, ⟨_, rfl, ?_⟩, ?_⟩ | refine ⟨?_, ?_⟩)) (h2 := by repeat' (first | exact trivial | exact lv_ok rfl | exact lv_ptr rfl rfl | exact lv_sl rfl rfl | exact lv_nilz | exact lv_row0 rfl rfl .row (fun _ => rfl) (Nat.le_of_ble_eq_true rfl) (fun _ => rfl) | refine lv_agg ?_ | exact lv_any | refine ⟨?_, ?_⟩))
           rfl
          ·
           exfalso; exact h18_1 (rdRs_ne0 _ _ _ h5)
         ·
          have q3 := rdRs_le _ _ _ h4 q2
          refine AOps.cons rfl rfl (q_move) ?_
          refine AOps.cons rfl rfl (q_ixa) ?_
          refine AOps.cons rfl rfl (q_load) ?_
          refine AOps.cons rfl rfl (q_callB (0) [(0, 702)] [] [(_, _)] (hc := (c_rrrs_ok hb2 (by omega) l5 h5))) ?_
          refine AOps.cons rfl rfl (q_move) ?_
          refine AOps.cons rfl rfl (q_extract) ?_
          refine AOps.cons rfl rfl (q_extract) ?_
          refine AOps.cons rfl rfl (q_fa) ?_
          refine AOps.cons rfl rfl (q_store) ?_
          refine AOps.cons rfl rfl (q_assign) ?_
          refine AOps.nil ?_
          refine AWp.seq ?_
          refine AWp.region ?_
          refine AOps.cons rfl rfl (q_move) ?_
          refine AOps.dec rfl rfl (q_neq) (fun h18_1 => ?_) (fun h18_1 => ?_)
          ·
           exfalso; simp at h18_1
          ·
           refine AOps.nil ?_
           refine AWp.cond_f rfl ?_
           refine AWp.skip ?_
           refine AWp.seq ?_
           refine AWp.seq ?_
           refine AWp.region ?_
           have q4 := rdRs_le _ _ _ h5 q3
           refine AOps.cons rfl rfl (q_move) ?_
           refine AOps.cons rfl rfl (q_nil) ?_
           refine AOps.cons rfl rfl (q_fa) ?_
           refine AOps.cons rfl rfl (q_load) ?_
           refine AOps.cons rfl rfl (q_move) ?_
           refine AOps.cons rfl rfl (q_len) ?_
           refine AOps.dec rfl rfl (q_lss) (fun h20_6 => ?_) (fun h20_6 => ?_)
           ·
            refine AOps.nil ?_
            refine AWp.cond_t rfl ?_
            refine AWp.seq ?_
            refine AWp.region ?_
            refine AOps.cons rfl rfl (q_build []) ?_
            refine AOps.cons rfl rfl (q_store) ?_
            refine AOps.cons rfl rfl (q_assign) ?_
            refine AOps.nil ?_
            refine AWp.ret ?_
            show Fin te Try.f17 _ _
            obtain ⟨x1, x2⟩ := dec_err (b := b) (e := 41) (by rw [rdM_q g1 hz, bindE_ok hq]; rw [bindE_ok h3]; rw [bindE_ok h4]; rw [bindE_ok h5]; exact if_neg (by omega))
            rw [x1, x2]
            refine q_retH (0) [] [_, _] [.agg (msgC zM), _] [] ?_ (hobj := by repeat' (first | exact trivial | exact lv_ok rfl | exact lv_sl rfl rfl | exact lv_rn rfl rfl .row rfl | exact lv_ptr rfl rfl | exact lv_mp rfl rfl | exact lv_nilz | exact lv_any | exact lv_row0 rfl rfl .row (fun _ => rfl) (Nat.le_of_ble_eq_true rfl) (fun _ => rfl) | exact lobj_row (fun _ => rfl) | exact lobj_rown (fun _ => rfl) | exact lobj_me (fun _ => rfl) | refine lobj_box ?_ | refine ⟨rfl, ⟨_, rfl, ?_⟩, ?_⟩ | refine ⟨?_, ?_⟩)) (h2 := by repeat' (first | exact trivial | exact lv_ok rfl | exact lv_ptr rfl rfl | exact lv_sl rfl rfl | exact lv_nilz | exact lv_row0 rfl rfl .row (fun _ => rfl) (Nat.le_of_ble_eq_true rfl) (fun _ => rfl) | refine lv_agg ?_ | exact lv_any | refine ⟨?_, ?_⟩))
            rfl
           ·
            refine AOps.nil ?_
            refine AWp.cond_f rfl ?_
            refine AWp.skip ?_
            refine AWp.seq ?_
            refine AWp.region ?_
            refine AOps.cons rfl rfl (q_load) ?_
            refine AOps.cons rfl rfl (q_store) ?_
            refine AOps.cons rfl rfl (q_assign) ?_
            refine AOps.nil ?_
            refine AWp.ret ?_
            show Fin te Try.f17 _ _
            obtain ⟨x1, x2⟩ := dec_ok (b := b) (m := ⟨hdM b, q.1, x.1, y.1, z.1⟩) (by rw [rdM_q g1 hz, bindE_ok hq]; rw [bindE_ok h3]; rw [bindE_ok h4]; rw [bindE_ok h5]; exact if_pos (by omega))
            rw [x1, x2]
            refine q_retH (0) [] [_, _] [_, _] [] ?_ (hobj := by repeat' (first | exact trivial | exact lv_ok rfl | exact lv_sl rfl rfl | exact lv_rn rfl rfl .row rfl | exact lv_ptr rfl rfl | exact lv_mp rfl rfl | exact lv_nilz | exact lv_any | exact lv_row0 rfl rfl .row (fun _ => rfl) (Nat.le_of_ble_eq_true rfl) (fun _ => rfl) | exact lobj_row (fun _ => rfl) | exact lobj_rown (fun _ => rfl) | exact lobj_me (fun _ => rfl) | refine lobj_box ?_ | refine ⟨rfl, ⟨_, rfl, ?_⟩, ?_⟩ | refine ⟨?_, ?_⟩)) (h2 := by repeat' (first | exact trivial | exact lv_ok rfl | exact lv_ptr rfl rfl | exact lv_sl rfl rfl | exact lv_nilz | exact lv_row0 rfl rfl .row (fun _ => rfl) (Nat.le_of_ble_eq_true rfl) (fun _ => rfl) | refine lv_agg ?_ | exact lv_any | refine ⟨?_, ?_⟩))
            rfl
theorem c_refDecode (b : List UInt8) (hb : b.length ≤ 140737488351232) : AC Try.prog 17 [.fz 0 b.length (cl bc b)] emp (Ret (.tup [.agg (msgC (decM b)), i64 (decE b)])) := co_refDecode b hb
end Go.Proofs.Ytkfccjbihcbmiaa.Fw


set_option linter.unusedVariables false
set_option linter.unusedSimpArgs false
namespace Go.Proofs.Ytkfccjbihcbmiaa.Fw
open Go.RowKit
set_option maxRecDepth 20000 in
set_option maxHeartbeats 2000000 in
theorem c_ciceronelaw04_WireAgain (b : List UInt8) (hb : b.length ≤ 140737488351232) : AC Try.prog 7 [.fz 0 b.length (cl bc b)] emp (Ret (tf true)) := by
 refine AC.intro te_ok (fn := Try.f7) ⟨Try.func7, rfl, rfl⟩ (Nat.le_of_ble_eq_true rfl) ?_
 refine AWp.seq ?_
 refine AWp.region ?_
 refine AOps.cons rfl rfl (q_assign) ?_
 refine AOps.nil ?_
 refine AWp.seq ?_
 refine AWp.region ?_
 refine AOps.cons rfl rfl (q_move) ?_
 refine AOps.cons rfl rfl (q_call (0) (hc := (c_Decode b hb))) ?_
 refine AOps.cons rfl rfl (q_move) ?_
 refine AOps.cons rfl rfl (q_extract) ?_
 refine AOps.cons rfl rfl (q_extract) ?_
 refine AOps.cons rfl rfl (q_alloc 205) ?_
 refine AOps.cons rfl rfl (q_store) ?_
 refine AOps.cons rfl rfl (q_assign) ?_
 refine AOps.nil ?_
 refine AWp.seq ?_
 refine AWp.seq ?_
 refine AWp.region ?_
 refine AOps.cons rfl rfl (q_move) ?_
 refine AOps.cons rfl rfl (q_call (0) (hc := (c_refDecode b hb))) ?_
 refine AOps.cons rfl rfl (q_move) ?_
 refine AOps.cons rfl rfl (q_extract) ?_
 refine AOps.cons rfl rfl (q_extract) ?_
 refine AOps.cons rfl rfl (q_alloc 305) ?_
 refine AOps.cons rfl rfl (q_store) ?_
 refine AOps.cons rfl rfl (q_assign) ?_
 refine AOps.nil ?_
 refine AWp.seq ?_
 refine AWp.region ?_
 refine AOps.cons rfl rfl (q_move) ?_
 refine AOps.cons rfl rfl (q_move) ?_
 refine AOps.dec rfl rfl (q_neq) (fun h3_2 => ?_) (fun h3_2 => ?_)
 ·
  exfalso; exact h3_2 rfl
 ·
  refine AOps.nil ?_
  refine AWp.cond_f rfl ?_
  refine AWp.skip ?_
  refine AWp.seq ?_
  refine AWp.seq ?_
  refine AWp.region ?_
  refine AOps.cons rfl rfl (q_move) ?_
  refine AOps.dec rfl rfl (q_neq) (fun h5_1 => ?_) (fun h5_1 => ?_)
  ·
   refine AOps.nil ?_
   refine AWp.cond_t rfl ?_
   refine AWp.seq ?_
   refine AWp.region ?_
   refine AOps.cons rfl rfl (q_call (0) (hc := c_ciceronelaw04_awake)) ?_
   refine AOps.cons rfl rfl (q_assign) ?_
   refine AOps.nil ?_
   refine AWp.ret ?_
   show Fin te Try.f7 _ _
   refine q_ret (0) [_] [_] ?_
   rfl
  ·
   refine AOps.nil ?_
   refine AWp.cond_f rfl ?_
   refine AWp.skip ?_
   refine AWp.seq ?_
   refine AWp.region ?_
   have he : decE b = 0 := by omega
   obtain ⟨a1, a2, a3, a4⟩ := again he
   refine AOps.cons rfl rfl (q_load) ?_
   refine AOps.cons rfl rfl (q_call (0) (hc := (c_wire_Encode (decM b) a2 a3))) ?_
   refine AOps.cons rfl rfl (q_move) ?_
   refine AOps.cons rfl rfl (q_extract) ?_
   refine AOps.cons rfl rfl (q_extract) ?_
   refine AOps.cons rfl rfl (q_assign) ?_
   refine AOps.cons rfl rfl (q_assign) ?_
   refine AOps.nil ?_
   refine AWp.seq ?_
   refine AWp.seq ?_
   refine AWp.region ?_
   refine AOps.cons rfl rfl (q_move) ?_
   refine AOps.dec rfl rfl (q_eql) (fun h8_1 => ?_) (fun h8_1 => ?_)
   ·
    refine AOps.nil ?_
    refine AWp.cond_t rfl ?_
    refine AWp.seq ?_
    refine AWp.region ?_
    refine AOps.cons rfl rfl (q_load) ?_
    refine AOps.cons rfl rfl ((OpOk.bool_is (c := true) (q_call (0) (hc := (c_wire_Can (decM b) a2 a3))) (a1))) ?_
    refine AOps.cons rfl rfl (q_move) ?_
    refine AOps.gcons rfl rfl rfl rfl rfl (q_call (0) (hc := c_ciceronelaw04_awake)) ?_
    refine AOps.cons rfl rfl (q_pick) ?_
    refine AOps.cons rfl rfl (q_assign) ?_
    refine AOps.nil ?_
    refine AWp.ret ?_
    show Fin te Try.f7 _ _
    refine q_ret (0) [_] [_] ?_
    rfl
   ·
    refine AOps.nil ?_
    refine AWp.cond_f rfl ?_
    refine AWp.skip ?_
    refine AWp.seq ?_
    refine AWp.region ?_
    obtain ⟨e1, e2, e3⟩ := a4.resolve_left h8_1
    refine AOps.cons rfl rfl (q_move) ?_
    refine AOps.cons rfl rfl (q_call (0) (hc := (c_Decode (encB (decM b)) (by have := (dec_enc e1).2.2; omega)))) ?_
    refine AOps.cons rfl rfl (q_move) ?_
    refine AOps.cons rfl rfl (q_extract) ?_
    refine AOps.cons rfl rfl (q_extract) ?_
    refine AOps.cons rfl rfl (q_alloc 1105) ?_
    refine AOps.cons rfl rfl (q_store) ?_
    refine AOps.cons rfl rfl (q_assign) ?_
    refine AOps.nil ?_
    refine AWp.seq ?_
    refine AWp.region ?_
    rw [e2, e3]
    refine AOps.cons rfl rfl (q_load) ?_
    refine AOps.cons rfl rfl ((OpOk.bool_is (c := true) (q_call (0) (hc := (c_wire_Can (decM b) a2 a3))) (a1))) ?_
    refine AOps.cons rfl rfl (q_move) ?_
    refine AOps.gcons rfl rfl rfl rfl rfl (q_move) ?_
    refine AOps.gcons rfl rfl rfl rfl rfl ((OpOk.dec_t (q_eql) (e1))) ?_
    refine AOps.cons rfl rfl (q_pick) ?_
    refine AOps.cons rfl rfl (q_move) ?_
    refine AOps.gcons rfl rfl rfl rfl rfl (q_move) ?_
    refine AOps.gcons rfl rfl rfl rfl rfl ((OpOk.dec_t (q_eql) (rfl))) ?_
    refine AOps.cons rfl rfl (q_pick) ?_
    refine AOps.cons rfl rfl (q_move) ?_
    refine AOps.gcons rfl rfl rfl rfl rfl (q_load) ?_
    refine AOps.gcons rfl rfl rfl rfl rfl (q_load) ?_
    refine AOps.gcons rfl rfl rfl rfl rfl ((OpOk.bool_is (c := true) (q_call (0) (hc := (c_wire_Same (decM b) (decM b) a2 a2))) (decide_eq_true rfl))) ?_
    refine AOps.cons rfl rfl (q_pick) ?_
    refine AOps.cons rfl rfl (q_assign) ?_
    refine AOps.nil ?_
    refine AWp.ret ?_
    show Fin te Try.f7 _ _
    refine q_ret (0) [_] [_] ?_
    rfl
end Go.Proofs.Ytkfccjbihcbmiaa.Fw


