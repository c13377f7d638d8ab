/- The walk of the law HeaderFlags; no condition. -/
import Derived.Test.YtahkngplohnliaaL02b
set_option linter.unusedVariables false
set_option linter.unusedSimpArgs false
namespace Go.Proofs.Ytahkngplohnliaa.Fw
open Go.RowKit


/-- The two bytes of the flags. -/
def fb2 (op : Int) (resp aa tc rd : Bool) : UInt8 := byte (op * 8 + (if resp then 128 else 0) + (if aa then 4 else 0) + (if tc then 2 else 0) + (if rd then 1 else 0))
def fb3 (ra : Bool) (code : Int) : UInt8 := byte (code + (if ra then 128 else 0))
theorem fb_at (h : Hd) (hop : 0 ≤ h.op ∧ h.op ≤ 15) (hco : 0 ≤ h.code ∧ h.code ≤ 15) : two (h.flN 5) = [fb2 h.op h.resp h.aa h.tc h.rd, fb3 h.ra h.code] := by
  obtain ⟨id, resp, op, aa, tc, rd, ra, code⟩ := h
  dsimp only at hop hco
  have e : Hd.flN ⟨id, resp, op, aa, tc, rd, ra, code⟩ 5 = op * 2048 + code + (if resp = true then 32768 else 0) + (if aa = true then 1024 else 0) + (if tc = true then 512 else 0) + (if rd = true then 256 else 0) + (if ra = true then 128 else 0) := by simp [Hd.flN]
  rw [e]
  simp only [two, fb2, fb3]
  congr 1
  · congr 1
    cases resp <;> cases aa <;> cases tc <;> cases rd <;> cases ra <;> simp <;> omega
  · congr 1
    rw [← byte_mod, ← byte_mod (code + _)]
    congr 1
    cases resp <;> cases aa <;> cases tc <;> cases rd <;> cases ra <;> simp <;> omega
theorem int16 {p : Int → Prop} (h : ∀ k : _root_.Fin 16, p (k.val : Int)) {n : Int} (hn : 0 ≤ n ∧ n ≤ 15) : p n := by
  obtain ⟨n, rfl⟩ := Int.eq_ofNat_of_zero_le hn.1
  exact h ⟨n, by omega⟩
theorem fb2_resp (op : Int) (h : 0 ≤ op ∧ op ≤ 15) (resp aa tc rd : Bool) : fb2 op resp aa tc rd ^^^ byte ((32768 : Int) / 2 ^ 8) = fb2 op (!resp) aa tc rd := by
  revert resp aa tc rd
  exact int16 (p := fun op => ∀ resp aa tc rd : Bool, fb2 op resp aa tc rd ^^^ byte ((32768 : Int) / 2 ^ 8) = fb2 op (!resp) aa tc rd) (by decide) h
theorem fb2_aa (op : Int) (h : 0 ≤ op ∧ op ≤ 15) (resp aa tc rd : Bool) : fb2 op resp aa tc rd ^^^ byte ((1024 : Int) / 2 ^ 8) = fb2 op resp (!aa) tc rd := by
  revert resp aa tc rd
  exact int16 (p := fun op => ∀ resp aa tc rd : Bool, fb2 op resp aa tc rd ^^^ byte ((1024 : Int) / 2 ^ 8) = fb2 op resp (!aa) tc rd) (by decide) h
theorem fb2_tc (op : Int) (h : 0 ≤ op ∧ op ≤ 15) (resp aa tc rd : Bool) : fb2 op resp aa tc rd ^^^ byte ((512 : Int) / 2 ^ 8) = fb2 op resp aa (!tc) rd := by
  revert resp aa tc rd
  exact int16 (p := fun op => ∀ resp aa tc rd : Bool, fb2 op resp aa tc rd ^^^ byte ((512 : Int) / 2 ^ 8) = fb2 op resp aa (!tc) rd) (by decide) h
theorem fb2_rd (op : Int) (h : 0 ≤ op ∧ op ≤ 15) (resp aa tc rd : Bool) : fb2 op resp aa tc rd ^^^ byte ((256 : Int) / 2 ^ 8) = fb2 op resp aa tc (!rd) := by
  revert resp aa tc rd
  exact int16 (p := fun op => ∀ resp aa tc rd : Bool, fb2 op resp aa tc rd ^^^ byte ((256 : Int) / 2 ^ 8) = fb2 op resp aa tc (!rd)) (by decide) h
theorem fb3_ra (code : Int) (h : 0 ≤ code ∧ code ≤ 15) (ra : Bool) : fb3 ra code ^^^ byte 128 = fb3 (!ra) code := by
  revert ra
  exact int16 (p := fun code => ∀ ra : Bool, fb3 ra code ^^^ byte 128 = fb3 (!ra) code) (by decide) h
theorem hbytes (h : Hd) (hop : 0 ≤ h.op ∧ h.op ≤ 15) (hco : 0 ≤ h.code ∧ h.code ≤ 15) : h.bytes 0 0 0 0 = two h.id ++ [fb2 h.op h.resp h.aa h.tc h.rd, fb3 h.ra h.code] ++ [0, 0, 0, 0, 0, 0, 0, 0] := by
  simp only [Hd.bytes, Hd.nums, List.flatMap_cons, List.flatMap_nil, fb_at h hop hco]
  rfl

set_option maxRecDepth 20000 in
theorem c_ciceronelaw02_HeaderFlags (h : Hd) (n : Int) : AC Try.prog 5 [.agg [i64 h.id, tf h.resp, i64 h.op, tf h.aa, tf h.tc, tf h.rd, tf h.ra, i64 h.code], i64 n] emp (Ret (tf true)) := by
  refine AC.intro te_ok (fn := Try.f5) ⟨Try.func5, rfl, rfl⟩ (Nat.le_of_ble_eq_true rfl) ?_
  refine AWp.seq ?_
  refine AWp.region ?_
  refine AOps.cons rfl rfl (q_box 100) ?_
  refine AOps.cons rfl rfl (q_assign) ?_
  refine AOps.nil ?_
  refine AWp.seq ?_
  refine AWp.region ?_
  refine AOps.cons rfl rfl (q_fa) ?_
  refine AOps.cons rfl rfl (q_load) ?_
  refine AOps.cons rfl rfl (q_conv_u64) ?_
  refine AOps.cons rfl rfl (q_rem) ?_
  refine AOps.cons rfl rfl (q_conv_i64) ?_
  refine AOps.cons rfl rfl (q_fa) ?_
  refine AOps.cons rfl rfl (q_load) ?_
  refine AOps.cons rfl rfl (q_conv_u64) ?_
  refine AOps.cons rfl rfl (q_rem) ?_
  refine AOps.cons rfl rfl (q_conv_i64) ?_
  refine AOps.cons rfl rfl (q_fa) ?_
  refine AOps.cons rfl rfl (q_load) ?_
  refine AOps.cons rfl rfl (q_conv_u64) ?_
  refine AOps.cons rfl rfl (q_rem) ?_
  refine AOps.cons rfl rfl (q_conv_i64) ?_
  refine AOps.cons rfl rfl (q_fa) ?_
  refine AOps.cons rfl rfl (q_store) ?_
  refine AOps.cons rfl rfl (q_fa) ?_
  refine AOps.cons rfl rfl (q_store) ?_
  refine AOps.cons rfl rfl (q_fa) ?_
  refine AOps.cons rfl rfl (q_store) ?_
  refine AOps.nil ?_
  refine AWp.seq ?_
  refine AWp.region ?_
  generalize hi0 : h.id % 18446744073709551616 % 65536 = i0
  generalize hi1 : h.op % 18446744073709551616 % 16 = i1
  generalize hi2 : h.code % 18446744073709551616 % 16 = i2
  have hc : ∀ a b c d e : Bool, (⟨i0, a, i1, b, c, d, e, i2⟩ : Hd).can 0 0 0 0 := fun _ _ _ _ _ => by simp only [Hd.can]; omega
  refine AOps.cons rfl rfl (q_load) ?_
  refine AOps.cons rfl rfl (q_buildA ic [0, 0, 0, 0] []) ?_
  refine AOps.cons rfl rfl (q_callB (0) [] [(8, 3028)] [(_, _)] (hc := (co_header_Encode ⟨i0, h.resp, i1, h.aa, h.tc, h.rd, h.ra, i2⟩ 0 0 0 0))) ?_
  rw [hB_yes (hc _ _ _ _ _), hE_yes (hc _ _ _ _ _)]
  refine AOps.cons rfl rfl (q_move) ?_
  refine AOps.cons rfl rfl (q_extract) ?_
  refine AOps.cons rfl rfl (q_extract) ?_
  refine AOps.cons rfl rfl (q_assign) ?_
  refine AOps.cons rfl rfl (q_assign) ?_
  refine AOps.nil ?_
  refine AWp.seq ?_
  refine AWp.region ?_
  refine AOps.cons rfl rfl (q_bs 400 ic [32768, 1024, 512, 256, 128] [(_, _), (_, _), (_, _), (_, _), (_, _)]) ?_
  refine AOps.cons rfl rfl (q_assign) ?_
  refine AOps.nil ?_
  refine AWp.seq ?_
  refine AWp.region ?_
  refine AOps.cons rfl rfl (q_move) ?_
  refine AOps.cons rfl rfl (q_conv_u64) ?_
  refine AOps.cons rfl rfl (q_rem) ?_
  refine AOps.cons rfl rfl (q_conv_i64) ?_
  refine AOps.cons rfl rfl (q_assign) ?_
  refine AOps.nil ?_
  refine AWp.seq ?_
  refine AWp.seq ?_
  refine AWp.region ?_
  generalize hw : n % 18446744073709551616 % 5 = w
  refine AOps.cons rfl rfl (q_move) ?_
  refine AOps.nil ?_
  refine AWp.block ?_
  refine AWp.seq ?_
  refine AWp.region ?_
  refine AOps.dec rfl rfl (q_eql) (fun h7_0 => ?_) (fun h7_0 => ?_)
  · skip
    refine AOps.cons rfl rfl (q_assign) ?_
    refine AOps.nil ?_
    refine AWp.cond_t rfl ?_
    refine AWp.region ?_
    refine AOps.cons rfl rfl (q_fa) ?_
    refine AOps.cons rfl rfl (q_load) ?_
    refine AOps.cons rfl rfl (q_not) ?_
    refine AOps.cons rfl rfl (q_fa) ?_
    refine AOps.cons rfl rfl (q_store) ?_
    refine AOps.nil ?_
    refine AWp.seq ?_
    refine AWp.region ?_
    refine AOps.cons rfl rfl (q_load) ?_
    refine AOps.cons rfl rfl (q_buildA ic [0, 0, 0, 0] []) ?_
    refine AOps.cons rfl rfl (q_call (0) (hc := (c_header_Encode ⟨i0, !h.resp, i1, h.aa, h.tc, h.rd, h.ra, i2⟩ 0 0 0 0))) ?_
    rw [hB_yes (hc _ _ _ _ _), hE_yes (hc _ _ _ _ _)]
    refine AOps.cons rfl rfl (q_move) ?_
    refine AOps.cons rfl rfl (q_extract) ?_
    refine AOps.cons rfl rfl (q_extract) ?_
    refine AOps.cons rfl rfl (q_assign) ?_
    refine AOps.cons rfl rfl (q_assign) ?_
    refine AOps.nil ?_
    refine AWp.seq ?_
    refine AWp.seq ?_
    refine AWp.region ?_
    refine AOps.cons rfl rfl (q_move) ?_
    refine AOps.dec rfl rfl (q_neq) (fun h16_1 => ?_) (fun h16_1 => ?_)
    · exfalso; first | exact h16_1 rfl | omega | (rw [eqV_same rfl] at h16_1; cases h16_1) | (simp at h16_1; done) | (simp_all; done)
    · skip
      refine AOps.cons rfl rfl (q_move) ?_
      refine AOps.gcons rfl rfl rfl rfl rfl (q_move) ?_
      refine AOps.gdec rfl rfl rfl rfl rfl (q_neq) (fun h16_4 => ?_) (fun h16_4 => ?_)
      · exfalso; first | exact h16_4 rfl | omega | (rw [eqV_same rfl] at h16_4; cases h16_4) | (simp at h16_4; done) | (simp_all; done)
      · skip
        refine AOps.cons rfl rfl (q_pick) ?_
        refine AOps.cons rfl rfl (q_move) ?_
        refine AOps.gcons rfl rfl rfl rfl rfl (q_move) ?_
        refine AOps.gcons rfl rfl rfl rfl rfl (q_len) ?_
        refine AOps.gdec rfl rfl rfl rfl rfl (q_neq) (fun h16_9 => ?_) (fun h16_9 => ?_)
        · exfalso; first | exact h16_9 rfl | omega | (rw [eqV_same rfl] at h16_9; cases h16_9) | (simp at h16_9; done) | (simp_all; done)
        · skip
          refine AOps.cons rfl rfl (q_pick) ?_
          refine AOps.cons rfl rfl (q_move) ?_
          refine AOps.gcons rfl rfl rfl rfl rfl (q_move) ?_
          refine AOps.gcons rfl rfl rfl rfl rfl (q_len) ?_
          refine AOps.gdec rfl rfl rfl rfl rfl (q_neq) (fun h16_14 => ?_) (fun h16_14 => ?_)
          · exfalso; first | exact h16_14 rfl | omega | (rw [eqV_same rfl] at h16_14; cases h16_14) | (simp at h16_14; done) | (simp_all; done)
          · skip
            refine AOps.cons rfl rfl (q_pick) ?_
            refine AOps.nil ?_
            refine AWp.cond_f rfl ?_
            refine AWp.skip ?_
            refine AWp.seq ?_
            obtain rfl : w = 0 := by omega
            refine AWp.draws [⟨0, [5], [3028], some 90, _, none⟩,
                ⟨1, [90], [3028], some 91, _, none⟩,
                ⟨2, [91], [3028], some 92, _, none⟩,
                ⟨3, [7], [400], some 93, _, none⟩,
                ⟨4, [1], [], some 94, _, none⟩,
                ⟨5, [93, 94], [400], some 95, _, none⟩,
                ⟨6, [95], [400], some 96, _, none⟩,
                ⟨7, [96], [], some 97, _, none⟩,
                ⟨8, [97], [], some 98, _, none⟩,
                ⟨9, [92, 98], [], some 99, _, none⟩,
                ⟨10, [90], [3028], some 100, _, none⟩,
                ⟨11, [99, 100], [3028], none, _, some (3028, _)⟩]
              [⟨0, [5], [3028], some 90, .any, none⟩,
                  ⟨1, [90], [3028], some 91, .any, none⟩,
                  ⟨2, [91], [3028], some 92, .any, none⟩,
                  ⟨3, [7], [400], some 93, .any, none⟩,
                  ⟨4, [1], [], some 94, .any, none⟩,
                  ⟨5, [93, 94], [400], some 95, .any, none⟩,
                  ⟨6, [95], [400], some 96, .any, none⟩,
                  ⟨7, [96], [], some 97, .any, none⟩,
                  ⟨8, [97], [], some 98, .any, none⟩,
                  ⟨9, [92, 98], [], some 99, .any, none⟩,
                  ⟨10, [90], [3028], some 100, .any, none⟩,
                  ⟨11, [99, 100], [3028], none, .any, some (3028, .box [])⟩]
              mixed_ok rfl (by kernel_rfl) ⟨DS.ok_over fun s0 => OpAt.go rfl rfl (q_move),
                  DS.ok_over fun s0 => OpAt.go rfl rfl (q_ix),
                  DS.ok_over fun s0 => OpAt.go rfl rfl (q_load),
                  DS.ok_over fun s0 => OpAt.go rfl rfl (q_move),
                  DS.ok_over fun s0 => OpAt.go rfl rfl (q_move),
                  DS.ok_over fun s0 => OpAt.go rfl rfl (q_ix),
                  DS.ok_over fun s0 => OpAt.go rfl rfl (q_load),
                  DS.ok_over fun s0 => OpAt.go rfl rfl (q_shr 8),
                  DS.ok_over fun s0 => OpAt.go rfl rfl (q_conv_u8),
                  DS.ok_over fun s0 => OpAt.go rfl rfl (q_xor8 _ _),
                  DS.ok_over fun s0 => OpAt.go rfl rfl (q_ix),
                  DS.ok_over fun s0 => OpAt.go rfl rfl (q_store), trivial⟩ ?_
            dsimp only [final, DS.upd, AS.seto]
            refine AWp.seq ?_
            refine AWp.draws [⟨0, [5], [3028], some 101, _, none⟩,
                ⟨1, [101], [3028], some 102, _, none⟩,
                ⟨2, [102], [3028], some 103, _, none⟩,
                ⟨3, [7], [400], some 104, _, none⟩,
                ⟨4, [1], [], some 105, _, none⟩,
                ⟨5, [104, 105], [400], some 106, _, none⟩,
                ⟨6, [106], [400], some 107, _, none⟩,
                ⟨7, [107], [], some 108, _, none⟩,
                ⟨8, [103, 108], [], some 109, _, none⟩,
                ⟨9, [101], [3028], some 110, _, none⟩,
                ⟨10, [109, 110], [3028], none, _, some (3028, _)⟩]
              [⟨0, [5], [3028], some 101, .any, none⟩,
                  ⟨1, [101], [3028], some 102, .any, none⟩,
                  ⟨2, [102], [3028], some 103, .any, none⟩,
                  ⟨3, [7], [400], some 104, .any, none⟩,
                  ⟨4, [1], [], some 105, .any, none⟩,
                  ⟨5, [104, 105], [400], some 106, .any, none⟩,
                  ⟨6, [106], [400], some 107, .any, none⟩,
                  ⟨7, [107], [], some 108, .any, none⟩,
                  ⟨8, [103, 108], [], some 109, .any, none⟩,
                  ⟨9, [101], [3028], some 110, .any, none⟩,
                  ⟨10, [109, 110], [3028], none, .any, some (3028, .box [])⟩]
              mixed_ok rfl (by kernel_rfl) ⟨DS.ok_over fun s0 => OpAt.go rfl rfl (q_move),
                  DS.ok_over fun s0 => OpAt.go rfl rfl (q_ix),
                  DS.ok_over fun s0 => OpAt.go rfl rfl (q_load),
                  DS.ok_over fun s0 => OpAt.go rfl rfl (q_move),
                  DS.ok_over fun s0 => OpAt.go rfl rfl (q_move),
                  DS.ok_over fun s0 => OpAt.go rfl rfl (q_ix),
                  DS.ok_over fun s0 => OpAt.go rfl rfl (q_load),
                  DS.ok_over fun s0 => OpAt.go rfl rfl (q_conv_u8),
                  DS.ok_over fun s0 => OpAt.go rfl rfl (q_xor8 _ _),
                  DS.ok_over fun s0 => OpAt.go rfl rfl (q_ix),
                  DS.ok_over fun s0 => OpAt.go rfl rfl (q_store), trivial⟩ ?_
            dsimp only [final, DS.upd, AS.seto]
            refine AWp.seq ?_
            refine AWp.region ?_
            refine AOps.cons rfl rfl (q_move) ?_
            refine AOps.cons rfl rfl (q_move) ?_
            refine AOps.cons rfl rfl (q_call (0) (hc := c_bytes_Equal _ _ _ _)) ?_
            refine AOps.cons rfl rfl (q_assign) ?_
            refine AOps.nil ?_
            refine AWp.ret ?_
            show Fin te Try.f5 _ _
            refine q_ret (0) [_] [_] ?_
            refine congrArg tf (decide_eq_true ?_)
            rw [hbytes ⟨i0, h.resp, i1, h.aa, h.tc, h.rd, h.ra, i2⟩ ⟨by dsimp only; omega, by dsimp only; omega⟩ ⟨by dsimp only; omega, by dsimp only; omega⟩, hbytes ⟨i0, !h.resp, i1, h.aa, h.tc, h.rd, h.ra, i2⟩ ⟨by dsimp only; omega, by dsimp only; omega⟩ ⟨by dsimp only; omega, by dsimp only; omega⟩]
            have e := fb_at ⟨i0, h.resp, i1, h.aa, h.tc, h.rd, h.ra, i2⟩ ⟨by dsimp only; omega, by dsimp only; omega⟩ ⟨by dsimp only; omega, by dsimp only; omega⟩
            simp only [two, List.cons.injEq, and_true] at e
            rw [e.1, e.2]
            have z : ∀ x : UInt8, x ^^^ byte (32768) = x := fun x => by rw [show byte (32768) = 0 from rfl]; simp
            rw [z, fb2_resp i1 (by omega) h.resp h.aa h.tc h.rd]
            rfl
  · skip
    refine AOps.cons rfl rfl (q_assign) ?_
    refine AOps.nil ?_
    refine AWp.cond_f rfl ?_
    refine AWp.seq ?_
    refine AWp.region ?_
    refine AOps.dec rfl rfl (q_eql) (fun h9_0 => ?_) (fun h9_0 => ?_)
    · skip
      refine AOps.cons rfl rfl (q_assign) ?_
      refine AOps.nil ?_
      refine AWp.cond_t rfl ?_
      refine AWp.region ?_
      refine AOps.cons rfl rfl (q_fa) ?_
      refine AOps.cons rfl rfl (q_load) ?_
      refine AOps.cons rfl rfl (q_not) ?_
      refine AOps.cons rfl rfl (q_fa) ?_
      refine AOps.cons rfl rfl (q_store) ?_
      refine AOps.nil ?_
      refine AWp.seq ?_
      refine AWp.region ?_
      refine AOps.cons rfl rfl (q_load) ?_
      refine AOps.cons rfl rfl (q_buildA ic [0, 0, 0, 0] []) ?_
      refine AOps.cons rfl rfl (q_call (0) (hc := (c_header_Encode ⟨i0, h.resp, i1, !h.aa, h.tc, h.rd, h.ra, i2⟩ 0 0 0 0))) ?_
      rw [hB_yes (hc _ _ _ _ _), hE_yes (hc _ _ _ _ _)]
      refine AOps.cons rfl rfl (q_move) ?_
      refine AOps.cons rfl rfl (q_extract) ?_
      refine AOps.cons rfl rfl (q_extract) ?_
      refine AOps.cons rfl rfl (q_assign) ?_
      refine AOps.cons rfl rfl (q_assign) ?_
      refine AOps.nil ?_
      refine AWp.seq ?_
      refine AWp.seq ?_
      refine AWp.region ?_
      refine AOps.cons rfl rfl (q_move) ?_
      refine AOps.dec rfl rfl (q_neq) (fun h16_1 => ?_) (fun h16_1 => ?_)
      · exfalso; first | exact h16_1 rfl | omega | (rw [eqV_same rfl] at h16_1; cases h16_1) | (simp at h16_1; done) | (simp_all; done)
      · skip
        refine AOps.cons rfl rfl (q_move) ?_
        refine AOps.gcons rfl rfl rfl rfl rfl (q_move) ?_
        refine AOps.gdec rfl rfl rfl rfl rfl (q_neq) (fun h16_4 => ?_) (fun h16_4 => ?_)
        · exfalso; first | exact h16_4 rfl | omega | (rw [eqV_same rfl] at h16_4; cases h16_4) | (simp at h16_4; done) | (simp_all; done)
        · skip
          refine AOps.cons rfl rfl (q_pick) ?_
          refine AOps.cons rfl rfl (q_move) ?_
          refine AOps.gcons rfl rfl rfl rfl rfl (q_move) ?_
          refine AOps.gcons rfl rfl rfl rfl rfl (q_len) ?_
          refine AOps.gdec rfl rfl rfl rfl rfl (q_neq) (fun h16_9 => ?_) (fun h16_9 => ?_)
          · exfalso; first | exact h16_9 rfl | omega | (rw [eqV_same rfl] at h16_9; cases h16_9) | (simp at h16_9; done) | (simp_all; done)
          · skip
            refine AOps.cons rfl rfl (q_pick) ?_
            refine AOps.cons rfl rfl (q_move) ?_
            refine AOps.gcons rfl rfl rfl rfl rfl (q_move) ?_
            refine AOps.gcons rfl rfl rfl rfl rfl (q_len) ?_
            refine AOps.gdec rfl rfl rfl rfl rfl (q_neq) (fun h16_14 => ?_) (fun h16_14 => ?_)
            · exfalso; first | exact h16_14 rfl | omega | (rw [eqV_same rfl] at h16_14; cases h16_14) | (simp at h16_14; done) | (simp_all; done)
            · skip
              refine AOps.cons rfl rfl (q_pick) ?_
              refine AOps.nil ?_
              refine AWp.cond_f rfl ?_
              refine AWp.skip ?_
              refine AWp.seq ?_
              obtain rfl : w = 1 := by omega
              refine AWp.draws [⟨0, [5], [3028], some 90, _, none⟩,
                  ⟨1, [90], [3028], some 91, _, none⟩,
                  ⟨2, [91], [3028], some 92, _, none⟩,
                  ⟨3, [7], [400], some 93, _, none⟩,
                  ⟨4, [1], [], some 94, _, none⟩,
                  ⟨5, [93, 94], [400], some 95, _, none⟩,
                  ⟨6, [95], [400], some 96, _, none⟩,
                  ⟨7, [96], [], some 97, _, none⟩,
                  ⟨8, [97], [], some 98, _, none⟩,
                  ⟨9, [92, 98], [], some 99, _, none⟩,
                  ⟨10, [90], [3028], some 100, _, none⟩,
                  ⟨11, [99, 100], [3028], none, _, some (3028, _)⟩]
                [⟨0, [5], [3028], some 90, .any, none⟩,
                    ⟨1, [90], [3028], some 91, .any, none⟩,
                    ⟨2, [91], [3028], some 92, .any, none⟩,
                    ⟨3, [7], [400], some 93, .any, none⟩,
                    ⟨4, [1], [], some 94, .any, none⟩,
                    ⟨5, [93, 94], [400], some 95, .any, none⟩,
                    ⟨6, [95], [400], some 96, .any, none⟩,
                    ⟨7, [96], [], some 97, .any, none⟩,
                    ⟨8, [97], [], some 98, .any, none⟩,
                    ⟨9, [92, 98], [], some 99, .any, none⟩,
                    ⟨10, [90], [3028], some 100, .any, none⟩,
                    ⟨11, [99, 100], [3028], none, .any, some (3028, .box [])⟩]
                mixed_ok rfl (by kernel_rfl) ⟨DS.ok_over fun s0 => OpAt.go rfl rfl (q_move),
                    DS.ok_over fun s0 => OpAt.go rfl rfl (q_ix),
                    DS.ok_over fun s0 => OpAt.go rfl rfl (q_load),
                    DS.ok_over fun s0 => OpAt.go rfl rfl (q_move),
                    DS.ok_over fun s0 => OpAt.go rfl rfl (q_move),
                    DS.ok_over fun s0 => OpAt.go rfl rfl (q_ix),
                    DS.ok_over fun s0 => OpAt.go rfl rfl (q_load),
                    DS.ok_over fun s0 => OpAt.go rfl rfl (q_shr 8),
                    DS.ok_over fun s0 => OpAt.go rfl rfl (q_conv_u8),
                    DS.ok_over fun s0 => OpAt.go rfl rfl (q_xor8 _ _),
                    DS.ok_over fun s0 => OpAt.go rfl rfl (q_ix),
                    DS.ok_over fun s0 => OpAt.go rfl rfl (q_store), trivial⟩ ?_
              dsimp only [final, DS.upd, AS.seto]
              refine AWp.seq ?_
              refine AWp.draws [⟨0, [5], [3028], some 101, _, none⟩,
                  ⟨1, [101], [3028], some 102, _, none⟩,
                  ⟨2, [102], [3028], some 103, _, none⟩,
                  ⟨3, [7], [400], some 104, _, none⟩,
                  ⟨4, [1], [], some 105, _, none⟩,
                  ⟨5, [104, 105], [400], some 106, _, none⟩,
                  ⟨6, [106], [400], some 107, _, none⟩,
                  ⟨7, [107], [], some 108, _, none⟩,
                  ⟨8, [103, 108], [], some 109, _, none⟩,
                  ⟨9, [101], [3028], some 110, _, none⟩,
                  ⟨10, [109, 110], [3028], none, _, some (3028, _)⟩]
                [⟨0, [5], [3028], some 101, .any, none⟩,
                    ⟨1, [101], [3028], some 102, .any, none⟩,
                    ⟨2, [102], [3028], some 103, .any, none⟩,
                    ⟨3, [7], [400], some 104, .any, none⟩,
                    ⟨4, [1], [], some 105, .any, none⟩,
                    ⟨5, [104, 105], [400], some 106, .any, none⟩,
                    ⟨6, [106], [400], some 107, .any, none⟩,
                    ⟨7, [107], [], some 108, .any, none⟩,
                    ⟨8, [103, 108], [], some 109, .any, none⟩,
                    ⟨9, [101], [3028], some 110, .any, none⟩,
                    ⟨10, [109, 110], [3028], none, .any, some (3028, .box [])⟩]
                mixed_ok rfl (by kernel_rfl) ⟨DS.ok_over fun s0 => OpAt.go rfl rfl (q_move),
                    DS.ok_over fun s0 => OpAt.go rfl rfl (q_ix),
                    DS.ok_over fun s0 => OpAt.go rfl rfl (q_load),
                    DS.ok_over fun s0 => OpAt.go rfl rfl (q_move),
                    DS.ok_over fun s0 => OpAt.go rfl rfl (q_move),
                    DS.ok_over fun s0 => OpAt.go rfl rfl (q_ix),
                    DS.ok_over fun s0 => OpAt.go rfl rfl (q_load),
                    DS.ok_over fun s0 => OpAt.go rfl rfl (q_conv_u8),
                    DS.ok_over fun s0 => OpAt.go rfl rfl (q_xor8 _ _),
                    DS.ok_over fun s0 => OpAt.go rfl rfl (q_ix),
                    DS.ok_over fun s0 => OpAt.go rfl rfl (q_store), trivial⟩ ?_
              dsimp only [final, DS.upd, AS.seto]
              refine AWp.seq ?_
              refine AWp.region ?_
              refine AOps.cons rfl rfl (q_move) ?_
              refine AOps.cons rfl rfl (q_move) ?_
              refine AOps.cons rfl rfl (q_call (0) (hc := c_bytes_Equal _ _ _ _)) ?_
              refine AOps.cons rfl rfl (q_assign) ?_
              refine AOps.nil ?_
              refine AWp.ret ?_
              show Fin te Try.f5 _ _
              refine q_ret (0) [_] [_] ?_
              refine congrArg tf (decide_eq_true ?_)
              rw [hbytes ⟨i0, h.resp, i1, h.aa, h.tc, h.rd, h.ra, i2⟩ ⟨by dsimp only; omega, by dsimp only; omega⟩ ⟨by dsimp only; omega, by dsimp only; omega⟩, hbytes ⟨i0, h.resp, i1, !h.aa, h.tc, h.rd, h.ra, i2⟩ ⟨by dsimp only; omega, by dsimp only; omega⟩ ⟨by dsimp only; omega, by dsimp only; omega⟩]
              have e := fb_at ⟨i0, h.resp, i1, h.aa, h.tc, h.rd, h.ra, i2⟩ ⟨by dsimp only; omega, by dsimp only; omega⟩ ⟨by dsimp only; omega, by dsimp only; omega⟩
              simp only [two, List.cons.injEq, and_true] at e
              rw [e.1, e.2]
              have z : ∀ x : UInt8, x ^^^ byte (1024) = x := fun x => by rw [show byte (1024) = 0 from rfl]; simp
              rw [z, fb2_aa i1 (by omega) h.resp h.aa h.tc h.rd]
              rfl
    · skip
      refine AOps.cons rfl rfl (q_assign) ?_
      refine AOps.nil ?_
      refine AWp.cond_f rfl ?_
      refine AWp.seq ?_
      refine AWp.region ?_
      refine AOps.dec rfl rfl (q_eql) (fun h11_0 => ?_) (fun h11_0 => ?_)
      · skip
        refine AOps.cons rfl rfl (q_assign) ?_
        refine AOps.nil ?_
        refine AWp.cond_t rfl ?_
        refine AWp.region ?_
        refine AOps.cons rfl rfl (q_fa) ?_
        refine AOps.cons rfl rfl (q_load) ?_
        refine AOps.cons rfl rfl (q_not) ?_
        refine AOps.cons rfl rfl (q_fa) ?_
        refine AOps.cons rfl rfl (q_store) ?_
        refine AOps.nil ?_
        refine AWp.seq ?_
        refine AWp.region ?_
        refine AOps.cons rfl rfl (q_load) ?_
        refine AOps.cons rfl rfl (q_buildA ic [0, 0, 0, 0] []) ?_
        refine AOps.cons rfl rfl (q_call (0) (hc := (c_header_Encode ⟨i0, h.resp, i1, h.aa, !h.tc, h.rd, h.ra, i2⟩ 0 0 0 0))) ?_
        rw [hB_yes (hc _ _ _ _ _), hE_yes (hc _ _ _ _ _)]
        refine AOps.cons rfl rfl (q_move) ?_
        refine AOps.cons rfl rfl (q_extract) ?_
        refine AOps.cons rfl rfl (q_extract) ?_
        refine AOps.cons rfl rfl (q_assign) ?_
        refine AOps.cons rfl rfl (q_assign) ?_
        refine AOps.nil ?_
        refine AWp.seq ?_
        refine AWp.seq ?_
        refine AWp.region ?_
        refine AOps.cons rfl rfl (q_move) ?_
        refine AOps.dec rfl rfl (q_neq) (fun h16_1 => ?_) (fun h16_1 => ?_)
        · exfalso; first | exact h16_1 rfl | omega | (rw [eqV_same rfl] at h16_1; cases h16_1) | (simp at h16_1; done) | (simp_all; done)
        · skip
          refine AOps.cons rfl rfl (q_move) ?_
          refine AOps.gcons rfl rfl rfl rfl rfl (q_move) ?_
          refine AOps.gdec rfl rfl rfl rfl rfl (q_neq) (fun h16_4 => ?_) (fun h16_4 => ?_)
          · exfalso; first | exact h16_4 rfl | omega | (rw [eqV_same rfl] at h16_4; cases h16_4) | (simp at h16_4; done) | (simp_all; done)
          · skip
            refine AOps.cons rfl rfl (q_pick) ?_
            refine AOps.cons rfl rfl (q_move) ?_
            refine AOps.gcons rfl rfl rfl rfl rfl (q_move) ?_
            refine AOps.gcons rfl rfl rfl rfl rfl (q_len) ?_
            refine AOps.gdec rfl rfl rfl rfl rfl (q_neq) (fun h16_9 => ?_) (fun h16_9 => ?_)
            · exfalso; first | exact h16_9 rfl | omega | (rw [eqV_same rfl] at h16_9; cases h16_9) | (simp at h16_9; done) | (simp_all; done)
            · skip
              refine AOps.cons rfl rfl (q_pick) ?_
              refine AOps.cons rfl rfl (q_move) ?_
              refine AOps.gcons rfl rfl rfl rfl rfl (q_move) ?_
              refine AOps.gcons rfl rfl rfl rfl rfl (q_len) ?_
              refine AOps.gdec rfl rfl rfl rfl rfl (q_neq) (fun h16_14 => ?_) (fun h16_14 => ?_)
              · exfalso; first | exact h16_14 rfl | omega | (rw [eqV_same rfl] at h16_14; cases h16_14) | (simp at h16_14; done) | (simp_all; done)
              · skip
                refine AOps.cons rfl rfl (q_pick) ?_
                refine AOps.nil ?_
                refine AWp.cond_f rfl ?_
                refine AWp.skip ?_
                refine AWp.seq ?_
                obtain rfl : w = 2 := by omega
                refine AWp.draws [⟨0, [5], [3028], some 90, _, none⟩,
                    ⟨1, [90], [3028], some 91, _, none⟩,
                    ⟨2, [91], [3028], some 92, _, none⟩,
                    ⟨3, [7], [400], some 93, _, none⟩,
                    ⟨4, [1], [], some 94, _, none⟩,
                    ⟨5, [93, 94], [400], some 95, _, none⟩,
                    ⟨6, [95], [400], some 96, _, none⟩,
                    ⟨7, [96], [], some 97, _, none⟩,
                    ⟨8, [97], [], some 98, _, none⟩,
                    ⟨9, [92, 98], [], some 99, _, none⟩,
                    ⟨10, [90], [3028], some 100, _, none⟩,
                    ⟨11, [99, 100], [3028], none, _, some (3028, _)⟩]
                  [⟨0, [5], [3028], some 90, .any, none⟩,
                      ⟨1, [90], [3028], some 91, .any, none⟩,
                      ⟨2, [91], [3028], some 92, .any, none⟩,
                      ⟨3, [7], [400], some 93, .any, none⟩,
                      ⟨4, [1], [], some 94, .any, none⟩,
                      ⟨5, [93, 94], [400], some 95, .any, none⟩,
                      ⟨6, [95], [400], some 96, .any, none⟩,
                      ⟨7, [96], [], some 97, .any, none⟩,
                      ⟨8, [97], [], some 98, .any, none⟩,
                      ⟨9, [92, 98], [], some 99, .any, none⟩,
                      ⟨10, [90], [3028], some 100, .any, none⟩,
                      ⟨11, [99, 100], [3028], none, .any, some (3028, .box [])⟩]
                  mixed_ok rfl (by kernel_rfl) ⟨DS.ok_over fun s0 => OpAt.go rfl rfl (q_move),
                      DS.ok_over fun s0 => OpAt.go rfl rfl (q_ix),
                      DS.ok_over fun s0 => OpAt.go rfl rfl (q_load),
                      DS.ok_over fun s0 => OpAt.go rfl rfl (q_move),
                      DS.ok_over fun s0 => OpAt.go rfl rfl (q_move),
                      DS.ok_over fun s0 => OpAt.go rfl rfl (q_ix),
                      DS.ok_over fun s0 => OpAt.go rfl rfl (q_load),
                      DS.ok_over fun s0 => OpAt.go rfl rfl (q_shr 8),
                      DS.ok_over fun s0 => OpAt.go rfl rfl (q_conv_u8),
                      DS.ok_over fun s0 => OpAt.go rfl rfl (q_xor8 _ _),
                      DS.ok_over fun s0 => OpAt.go rfl rfl (q_ix),
                      DS.ok_over fun s0 => OpAt.go rfl rfl (q_store), trivial⟩ ?_
                dsimp only [final, DS.upd, AS.seto]
                refine AWp.seq ?_
                refine AWp.draws [⟨0, [5], [3028], some 101, _, none⟩,
                    ⟨1, [101], [3028], some 102, _, none⟩,
                    ⟨2, [102], [3028], some 103, _, none⟩,
                    ⟨3, [7], [400], some 104, _, none⟩,
                    ⟨4, [1], [], some 105, _, none⟩,
                    ⟨5, [104, 105], [400], some 106, _, none⟩,
                    ⟨6, [106], [400], some 107, _, none⟩,
                    ⟨7, [107], [], some 108, _, none⟩,
                    ⟨8, [103, 108], [], some 109, _, none⟩,
                    ⟨9, [101], [3028], some 110, _, none⟩,
                    ⟨10, [109, 110], [3028], none, _, some (3028, _)⟩]
                  [⟨0, [5], [3028], some 101, .any, none⟩,
                      ⟨1, [101], [3028], some 102, .any, none⟩,
                      ⟨2, [102], [3028], some 103, .any, none⟩,
                      ⟨3, [7], [400], some 104, .any, none⟩,
                      ⟨4, [1], [], some 105, .any, none⟩,
                      ⟨5, [104, 105], [400], some 106, .any, none⟩,
                      ⟨6, [106], [400], some 107, .any, none⟩,
                      ⟨7, [107], [], some 108, .any, none⟩,
                      ⟨8, [103, 108], [], some 109, .any, none⟩,
                      ⟨9, [101], [3028], some 110, .any, none⟩,
                      ⟨10, [109, 110], [3028], none, .any, some (3028, .box [])⟩]
                  mixed_ok rfl (by kernel_rfl) ⟨DS.ok_over fun s0 => OpAt.go rfl rfl (q_move),
                      DS.ok_over fun s0 => OpAt.go rfl rfl (q_ix),
                      DS.ok_over fun s0 => OpAt.go rfl rfl (q_load),
                      DS.ok_over fun s0 => OpAt.go rfl rfl (q_move),
                      DS.ok_over fun s0 => OpAt.go rfl rfl (q_move),
                      DS.ok_over fun s0 => OpAt.go rfl rfl (q_ix),
                      DS.ok_over fun s0 => OpAt.go rfl rfl (q_load),
                      DS.ok_over fun s0 => OpAt.go rfl rfl (q_conv_u8),
                      DS.ok_over fun s0 => OpAt.go rfl rfl (q_xor8 _ _),
                      DS.ok_over fun s0 => OpAt.go rfl rfl (q_ix),
                      DS.ok_over fun s0 => OpAt.go rfl rfl (q_store), trivial⟩ ?_
                dsimp only [final, DS.upd, AS.seto]
                refine AWp.seq ?_
                refine AWp.region ?_
                refine AOps.cons rfl rfl (q_move) ?_
                refine AOps.cons rfl rfl (q_move) ?_
                refine AOps.cons rfl rfl (q_call (0) (hc := c_bytes_Equal _ _ _ _)) ?_
                refine AOps.cons rfl rfl (q_assign) ?_
                refine AOps.nil ?_
                refine AWp.ret ?_
                show Fin te Try.f5 _ _
                refine q_ret (0) [_] [_] ?_
                refine congrArg tf (decide_eq_true ?_)
                rw [hbytes ⟨i0, h.resp, i1, h.aa, h.tc, h.rd, h.ra, i2⟩ ⟨by dsimp only; omega, by dsimp only; omega⟩ ⟨by dsimp only; omega, by dsimp only; omega⟩, hbytes ⟨i0, h.resp, i1, h.aa, !h.tc, h.rd, h.ra, i2⟩ ⟨by dsimp only; omega, by dsimp only; omega⟩ ⟨by dsimp only; omega, by dsimp only; omega⟩]
                have e := fb_at ⟨i0, h.resp, i1, h.aa, h.tc, h.rd, h.ra, i2⟩ ⟨by dsimp only; omega, by dsimp only; omega⟩ ⟨by dsimp only; omega, by dsimp only; omega⟩
                simp only [two, List.cons.injEq, and_true] at e
                rw [e.1, e.2]
                have z : ∀ x : UInt8, x ^^^ byte (512) = x := fun x => by rw [show byte (512) = 0 from rfl]; simp
                rw [z, fb2_tc i1 (by omega) h.resp h.aa h.tc h.rd]
                rfl
      · skip
        refine AOps.cons rfl rfl (q_assign) ?_
        refine AOps.nil ?_
        refine AWp.cond_f rfl ?_
        refine AWp.seq ?_
        refine AWp.region ?_
        refine AOps.dec rfl rfl (q_eql) (fun h13_0 => ?_) (fun h13_0 => ?_)
        · skip
          refine AOps.cons rfl rfl (q_assign) ?_
          refine AOps.nil ?_
          refine AWp.cond_t rfl ?_
          refine AWp.region ?_
          refine AOps.cons rfl rfl (q_fa) ?_
          refine AOps.cons rfl rfl (q_load) ?_
          refine AOps.cons rfl rfl (q_not) ?_
          refine AOps.cons rfl rfl (q_fa) ?_
          refine AOps.cons rfl rfl (q_store) ?_
          refine AOps.nil ?_
          refine AWp.seq ?_
          refine AWp.region ?_
          refine AOps.cons rfl rfl (q_load) ?_
          refine AOps.cons rfl rfl (q_buildA ic [0, 0, 0, 0] []) ?_
          refine AOps.cons rfl rfl (q_call (0) (hc := (c_header_Encode ⟨i0, h.resp, i1, h.aa, h.tc, !h.rd, h.ra, i2⟩ 0 0 0 0))) ?_
          rw [hB_yes (hc _ _ _ _ _), hE_yes (hc _ _ _ _ _)]
          refine AOps.cons rfl rfl (q_move) ?_
          refine AOps.cons rfl rfl (q_extract) ?_
          refine AOps.cons rfl rfl (q_extract) ?_
          refine AOps.cons rfl rfl (q_assign) ?_
          refine AOps.cons rfl rfl (q_assign) ?_
          refine AOps.nil ?_
          refine AWp.seq ?_
          refine AWp.seq ?_
          refine AWp.region ?_
          refine AOps.cons rfl rfl (q_move) ?_
          refine AOps.dec rfl rfl (q_neq) (fun h16_1 => ?_) (fun h16_1 => ?_)
          · exfalso; first | exact h16_1 rfl | omega | (rw [eqV_same rfl] at h16_1; cases h16_1) | (simp at h16_1; done) | (simp_all; done)
          · skip
            refine AOps.cons rfl rfl (q_move) ?_
            refine AOps.gcons rfl rfl rfl rfl rfl (q_move) ?_
            refine AOps.gdec rfl rfl rfl rfl rfl (q_neq) (fun h16_4 => ?_) (fun h16_4 => ?_)
            · exfalso; first | exact h16_4 rfl | omega | (rw [eqV_same rfl] at h16_4; cases h16_4) | (simp at h16_4; done) | (simp_all; done)
            · skip
              refine AOps.cons rfl rfl (q_pick) ?_
              refine AOps.cons rfl rfl (q_move) ?_
              refine AOps.gcons rfl rfl rfl rfl rfl (q_move) ?_
              refine AOps.gcons rfl rfl rfl rfl rfl (q_len) ?_
              refine AOps.gdec rfl rfl rfl rfl rfl (q_neq) (fun h16_9 => ?_) (fun h16_9 => ?_)
              · exfalso; first | exact h16_9 rfl | omega | (rw [eqV_same rfl] at h16_9; cases h16_9) | (simp at h16_9; done) | (simp_all; done)
              · skip
                refine AOps.cons rfl rfl (q_pick) ?_
                refine AOps.cons rfl rfl (q_move) ?_
                refine AOps.gcons rfl rfl rfl rfl rfl (q_move) ?_
                refine AOps.gcons rfl rfl rfl rfl rfl (q_len) ?_
                refine AOps.gdec rfl rfl rfl rfl rfl (q_neq) (fun h16_14 => ?_) (fun h16_14 => ?_)
                · exfalso; first | exact h16_14 rfl | omega | (rw [eqV_same rfl] at h16_14; cases h16_14) | (simp at h16_14; done) | (simp_all; done)
                · skip
                  refine AOps.cons rfl rfl (q_pick) ?_
                  refine AOps.nil ?_
                  refine AWp.cond_f rfl ?_
                  refine AWp.skip ?_
                  refine AWp.seq ?_
                  obtain rfl : w = 3 := by omega
                  refine AWp.draws [⟨0, [5], [3028], some 90, _, none⟩,
                      ⟨1, [90], [3028], some 91, _, none⟩,
                      ⟨2, [91], [3028], some 92, _, none⟩,
                      ⟨3, [7], [400], some 93, _, none⟩,
                      ⟨4, [1], [], some 94, _, none⟩,
                      ⟨5, [93, 94], [400], some 95, _, none⟩,
                      ⟨6, [95], [400], some 96, _, none⟩,
                      ⟨7, [96], [], some 97, _, none⟩,
                      ⟨8, [97], [], some 98, _, none⟩,
                      ⟨9, [92, 98], [], some 99, _, none⟩,
                      ⟨10, [90], [3028], some 100, _, none⟩,
                      ⟨11, [99, 100], [3028], none, _, some (3028, _)⟩]
                    [⟨0, [5], [3028], some 90, .any, none⟩,
                        ⟨1, [90], [3028], some 91, .any, none⟩,
                        ⟨2, [91], [3028], some 92, .any, none⟩,
                        ⟨3, [7], [400], some 93, .any, none⟩,
                        ⟨4, [1], [], some 94, .any, none⟩,
                        ⟨5, [93, 94], [400], some 95, .any, none⟩,
                        ⟨6, [95], [400], some 96, .any, none⟩,
                        ⟨7, [96], [], some 97, .any, none⟩,
                        ⟨8, [97], [], some 98, .any, none⟩,
                        ⟨9, [92, 98], [], some 99, .any, none⟩,
                        ⟨10, [90], [3028], some 100, .any, none⟩,
                        ⟨11, [99, 100], [3028], none, .any, some (3028, .box [])⟩]
                    mixed_ok rfl (by kernel_rfl) ⟨DS.ok_over fun s0 => OpAt.go rfl rfl (q_move),
                        DS.ok_over fun s0 => OpAt.go rfl rfl (q_ix),
                        DS.ok_over fun s0 => OpAt.go rfl rfl (q_load),
                        DS.ok_over fun s0 => OpAt.go rfl rfl (q_move),
                        DS.ok_over fun s0 => OpAt.go rfl rfl (q_move),
                        DS.ok_over fun s0 => OpAt.go rfl rfl (q_ix),
                        DS.ok_over fun s0 => OpAt.go rfl rfl (q_load),
                        DS.ok_over fun s0 => OpAt.go rfl rfl (q_shr 8),
                        DS.ok_over fun s0 => OpAt.go rfl rfl (q_conv_u8),
                        DS.ok_over fun s0 => OpAt.go rfl rfl (q_xor8 _ _),
                        DS.ok_over fun s0 => OpAt.go rfl rfl (q_ix),
                        DS.ok_over fun s0 => OpAt.go rfl rfl (q_store), trivial⟩ ?_
                  dsimp only [final, DS.upd, AS.seto]
                  refine AWp.seq ?_
                  refine AWp.draws [⟨0, [5], [3028], some 101, _, none⟩,
                      ⟨1, [101], [3028], some 102, _, none⟩,
                      ⟨2, [102], [3028], some 103, _, none⟩,
                      ⟨3, [7], [400], some 104, _, none⟩,
                      ⟨4, [1], [], some 105, _, none⟩,
                      ⟨5, [104, 105], [400], some 106, _, none⟩,
                      ⟨6, [106], [400], some 107, _, none⟩,
                      ⟨7, [107], [], some 108, _, none⟩,
                      ⟨8, [103, 108], [], some 109, _, none⟩,
                      ⟨9, [101], [3028], some 110, _, none⟩,
                      ⟨10, [109, 110], [3028], none, _, some (3028, _)⟩]
                    [⟨0, [5], [3028], some 101, .any, none⟩,
                        ⟨1, [101], [3028], some 102, .any, none⟩,
                        ⟨2, [102], [3028], some 103, .any, none⟩,
                        ⟨3, [7], [400], some 104, .any, none⟩,
                        ⟨4, [1], [], some 105, .any, none⟩,
                        ⟨5, [104, 105], [400], some 106, .any, none⟩,
                        ⟨6, [106], [400], some 107, .any, none⟩,
                        ⟨7, [107], [], some 108, .any, none⟩,
                        ⟨8, [103, 108], [], some 109, .any, none⟩,
                        ⟨9, [101], [3028], some 110, .any, none⟩,
                        ⟨10, [109, 110], [3028], none, .any, some (3028, .box [])⟩]
                    mixed_ok rfl (by kernel_rfl) ⟨DS.ok_over fun s0 => OpAt.go rfl rfl (q_move),
                        DS.ok_over fun s0 => OpAt.go rfl rfl (q_ix),
                        DS.ok_over fun s0 => OpAt.go rfl rfl (q_load),
                        DS.ok_over fun s0 => OpAt.go rfl rfl (q_move),
                        DS.ok_over fun s0 => OpAt.go rfl rfl (q_move),
                        DS.ok_over fun s0 => OpAt.go rfl rfl (q_ix),
                        DS.ok_over fun s0 => OpAt.go rfl rfl (q_load),
                        DS.ok_over fun s0 => OpAt.go rfl rfl (q_conv_u8),
                        DS.ok_over fun s0 => OpAt.go rfl rfl (q_xor8 _ _),
                        DS.ok_over fun s0 => OpAt.go rfl rfl (q_ix),
                        DS.ok_over fun s0 => OpAt.go rfl rfl (q_store), trivial⟩ ?_
                  dsimp only [final, DS.upd, AS.seto]
                  refine AWp.seq ?_
                  refine AWp.region ?_
                  refine AOps.cons rfl rfl (q_move) ?_
                  refine AOps.cons rfl rfl (q_move) ?_
                  refine AOps.cons rfl rfl (q_call (0) (hc := c_bytes_Equal _ _ _ _)) ?_
                  refine AOps.cons rfl rfl (q_assign) ?_
                  refine AOps.nil ?_
                  refine AWp.ret ?_
                  show Fin te Try.f5 _ _
                  refine q_ret (0) [_] [_] ?_
                  refine congrArg tf (decide_eq_true ?_)
                  rw [hbytes ⟨i0, h.resp, i1, h.aa, h.tc, h.rd, h.ra, i2⟩ ⟨by dsimp only; omega, by dsimp only; omega⟩ ⟨by dsimp only; omega, by dsimp only; omega⟩, hbytes ⟨i0, h.resp, i1, h.aa, h.tc, !h.rd, h.ra, i2⟩ ⟨by dsimp only; omega, by dsimp only; omega⟩ ⟨by dsimp only; omega, by dsimp only; omega⟩]
                  have e := fb_at ⟨i0, h.resp, i1, h.aa, h.tc, h.rd, h.ra, i2⟩ ⟨by dsimp only; omega, by dsimp only; omega⟩ ⟨by dsimp only; omega, by dsimp only; omega⟩
                  simp only [two, List.cons.injEq, and_true] at e
                  rw [e.1, e.2]
                  have z : ∀ x : UInt8, x ^^^ byte (256) = x := fun x => by rw [show byte (256) = 0 from rfl]; simp
                  rw [z, fb2_rd i1 (by omega) h.resp h.aa h.tc h.rd]
                  rfl
        · skip
          refine AOps.cons rfl rfl (q_assign) ?_
          refine AOps.nil ?_
          refine AWp.cond_f rfl ?_
          refine AWp.region ?_
          refine AOps.cons rfl rfl (q_fa) ?_
          refine AOps.cons rfl rfl (q_load) ?_
          refine AOps.cons rfl rfl (q_not) ?_
          refine AOps.cons rfl rfl (q_fa) ?_
          refine AOps.cons rfl rfl (q_store) ?_
          refine AOps.nil ?_
          refine AWp.seq ?_
          refine AWp.region ?_
          refine AOps.cons rfl rfl (q_load) ?_
          refine AOps.cons rfl rfl (q_buildA ic [0, 0, 0, 0] []) ?_
          refine AOps.cons rfl rfl (q_call (0) (hc := (c_header_Encode ⟨i0, h.resp, i1, h.aa, h.tc, h.rd, !h.ra, i2⟩ 0 0 0 0))) ?_
          rw [hB_yes (hc _ _ _ _ _), hE_yes (hc _ _ _ _ _)]
          refine AOps.cons rfl rfl (q_move) ?_
          refine AOps.cons rfl rfl (q_extract) ?_
          refine AOps.cons rfl rfl (q_extract) ?_
          refine AOps.cons rfl rfl (q_assign) ?_
          refine AOps.cons rfl rfl (q_assign) ?_
          refine AOps.nil ?_
          refine AWp.seq ?_
          refine AWp.seq ?_
          refine AWp.region ?_
          refine AOps.cons rfl rfl (q_move) ?_
          refine AOps.dec rfl rfl (q_neq) (fun h16_1 => ?_) (fun h16_1 => ?_)
          · exfalso; first | exact h16_1 rfl | omega | (rw [eqV_same rfl] at h16_1; cases h16_1) | (simp at h16_1; done) | (simp_all; done)
          · skip
            refine AOps.cons rfl rfl (q_move) ?_
            refine AOps.gcons rfl rfl rfl rfl rfl (q_move) ?_
            refine AOps.gdec rfl rfl rfl rfl rfl (q_neq) (fun h16_4 => ?_) (fun h16_4 => ?_)
            · exfalso; first | exact h16_4 rfl | omega | (rw [eqV_same rfl] at h16_4; cases h16_4) | (simp at h16_4; done) | (simp_all; done)
            · skip
              refine AOps.cons rfl rfl (q_pick) ?_
              refine AOps.cons rfl rfl (q_move) ?_
              refine AOps.gcons rfl rfl rfl rfl rfl (q_move) ?_
              refine AOps.gcons rfl rfl rfl rfl rfl (q_len) ?_
              refine AOps.gdec rfl rfl rfl rfl rfl (q_neq) (fun h16_9 => ?_) (fun h16_9 => ?_)
              · exfalso; first | exact h16_9 rfl | omega | (rw [eqV_same rfl] at h16_9; cases h16_9) | (simp at h16_9; done) | (simp_all; done)
              · skip
                refine AOps.cons rfl rfl (q_pick) ?_
                refine AOps.cons rfl rfl (q_move) ?_
                refine AOps.gcons rfl rfl rfl rfl rfl (q_move) ?_
                refine AOps.gcons rfl rfl rfl rfl rfl (q_len) ?_
                refine AOps.gdec rfl rfl rfl rfl rfl (q_neq) (fun h16_14 => ?_) (fun h16_14 => ?_)
                · exfalso; first | exact h16_14 rfl | omega | (rw [eqV_same rfl] at h16_14; cases h16_14) | (simp at h16_14; done) | (simp_all; done)
                · skip
                  refine AOps.cons rfl rfl (q_pick) ?_
                  refine AOps.nil ?_
                  refine AWp.cond_f rfl ?_
                  refine AWp.skip ?_
                  refine AWp.seq ?_
                  obtain rfl : w = 4 := by omega
                  refine AWp.draws [⟨0, [5], [3028], some 90, _, none⟩,
                      ⟨1, [90], [3028], some 91, _, none⟩,
                      ⟨2, [91], [3028], some 92, _, none⟩,
                      ⟨3, [7], [400], some 93, _, none⟩,
                      ⟨4, [1], [], some 94, _, none⟩,
                      ⟨5, [93, 94], [400], some 95, _, none⟩,
                      ⟨6, [95], [400], some 96, _, none⟩,
                      ⟨7, [96], [], some 97, _, none⟩,
                      ⟨8, [97], [], some 98, _, none⟩,
                      ⟨9, [92, 98], [], some 99, _, none⟩,
                      ⟨10, [90], [3028], some 100, _, none⟩,
                      ⟨11, [99, 100], [3028], none, _, some (3028, _)⟩]
                    [⟨0, [5], [3028], some 90, .any, none⟩,
                        ⟨1, [90], [3028], some 91, .any, none⟩,
                        ⟨2, [91], [3028], some 92, .any, none⟩,
                        ⟨3, [7], [400], some 93, .any, none⟩,
                        ⟨4, [1], [], some 94, .any, none⟩,
                        ⟨5, [93, 94], [400], some 95, .any, none⟩,
                        ⟨6, [95], [400], some 96, .any, none⟩,
                        ⟨7, [96], [], some 97, .any, none⟩,
                        ⟨8, [97], [], some 98, .any, none⟩,
                        ⟨9, [92, 98], [], some 99, .any, none⟩,
                        ⟨10, [90], [3028], some 100, .any, none⟩,
                        ⟨11, [99, 100], [3028], none, .any, some (3028, .box [])⟩]
                    mixed_ok rfl (by kernel_rfl) ⟨DS.ok_over fun s0 => OpAt.go rfl rfl (q_move),
                        DS.ok_over fun s0 => OpAt.go rfl rfl (q_ix),
                        DS.ok_over fun s0 => OpAt.go rfl rfl (q_load),
                        DS.ok_over fun s0 => OpAt.go rfl rfl (q_move),
                        DS.ok_over fun s0 => OpAt.go rfl rfl (q_move),
                        DS.ok_over fun s0 => OpAt.go rfl rfl (q_ix),
                        DS.ok_over fun s0 => OpAt.go rfl rfl (q_load),
                        DS.ok_over fun s0 => OpAt.go rfl rfl (q_shr 8),
                        DS.ok_over fun s0 => OpAt.go rfl rfl (q_conv_u8),
                        DS.ok_over fun s0 => OpAt.go rfl rfl (q_xor8 _ _),
                        DS.ok_over fun s0 => OpAt.go rfl rfl (q_ix),
                        DS.ok_over fun s0 => OpAt.go rfl rfl (q_store), trivial⟩ ?_
                  dsimp only [final, DS.upd, AS.seto]
                  refine AWp.seq ?_
                  refine AWp.draws [⟨0, [5], [3028], some 101, _, none⟩,
                      ⟨1, [101], [3028], some 102, _, none⟩,
                      ⟨2, [102], [3028], some 103, _, none⟩,
                      ⟨3, [7], [400], some 104, _, none⟩,
                      ⟨4, [1], [], some 105, _, none⟩,
                      ⟨5, [104, 105], [400], some 106, _, none⟩,
                      ⟨6, [106], [400], some 107, _, none⟩,
                      ⟨7, [107], [], some 108, _, none⟩,
                      ⟨8, [103, 108], [], some 109, _, none⟩,
                      ⟨9, [101], [3028], some 110, _, none⟩,
                      ⟨10, [109, 110], [3028], none, _, some (3028, _)⟩]
                    [⟨0, [5], [3028], some 101, .any, none⟩,
                        ⟨1, [101], [3028], some 102, .any, none⟩,
                        ⟨2, [102], [3028], some 103, .any, none⟩,
                        ⟨3, [7], [400], some 104, .any, none⟩,
                        ⟨4, [1], [], some 105, .any, none⟩,
                        ⟨5, [104, 105], [400], some 106, .any, none⟩,
                        ⟨6, [106], [400], some 107, .any, none⟩,
                        ⟨7, [107], [], some 108, .any, none⟩,
                        ⟨8, [103, 108], [], some 109, .any, none⟩,
                        ⟨9, [101], [3028], some 110, .any, none⟩,
                        ⟨10, [109, 110], [3028], none, .any, some (3028, .box [])⟩]
                    mixed_ok rfl (by kernel_rfl) ⟨DS.ok_over fun s0 => OpAt.go rfl rfl (q_move),
                        DS.ok_over fun s0 => OpAt.go rfl rfl (q_ix),
                        DS.ok_over fun s0 => OpAt.go rfl rfl (q_load),
                        DS.ok_over fun s0 => OpAt.go rfl rfl (q_move),
                        DS.ok_over fun s0 => OpAt.go rfl rfl (q_move),
                        DS.ok_over fun s0 => OpAt.go rfl rfl (q_ix),
                        DS.ok_over fun s0 => OpAt.go rfl rfl (q_load),
                        DS.ok_over fun s0 => OpAt.go rfl rfl (q_conv_u8),
                        DS.ok_over fun s0 => OpAt.go rfl rfl (q_xor8 _ _),
                        DS.ok_over fun s0 => OpAt.go rfl rfl (q_ix),
                        DS.ok_over fun s0 => OpAt.go rfl rfl (q_store), trivial⟩ ?_
                  dsimp only [final, DS.upd, AS.seto]
                  refine AWp.seq ?_
                  refine AWp.region ?_
                  refine AOps.cons rfl rfl (q_move) ?_
                  refine AOps.cons rfl rfl (q_move) ?_
                  refine AOps.cons rfl rfl (q_call (0) (hc := c_bytes_Equal _ _ _ _)) ?_
                  refine AOps.cons rfl rfl (q_assign) ?_
                  refine AOps.nil ?_
                  refine AWp.ret ?_
                  show Fin te Try.f5 _ _
                  refine q_ret (0) [_] [_] ?_
                  refine congrArg tf (decide_eq_true ?_)
                  rw [hbytes ⟨i0, h.resp, i1, h.aa, h.tc, h.rd, h.ra, i2⟩ ⟨by dsimp only; omega, by dsimp only; omega⟩ ⟨by dsimp only; omega, by dsimp only; omega⟩, hbytes ⟨i0, h.resp, i1, h.aa, h.tc, h.rd, !h.ra, i2⟩ ⟨by dsimp only; omega, by dsimp only; omega⟩ ⟨by dsimp only; omega, by dsimp only; omega⟩]
                  have e := fb_at ⟨i0, h.resp, i1, h.aa, h.tc, h.rd, h.ra, i2⟩ ⟨by dsimp only; omega, by dsimp only; omega⟩ ⟨by dsimp only; omega, by dsimp only; omega⟩
                  simp only [two, List.cons.injEq, and_true] at e
                  rw [e.1, e.2]
                  have z : ∀ x : UInt8, x ^^^ byte ((128 : Int) / 2 ^ 8) = x := fun x => by rw [show byte ((128 : Int) / 2 ^ 8) = 0 from rfl]; simp
                  rw [z, fb3_ra i2 (by omega) h.ra]
                  rfl

end Go.Proofs.Ytahkngplohnliaa.Fw
