/- Law ZoneServes: whatever the input, the law answers true; no condition. -/
import Derived.Test.YtokccoloholgaaaCat6
set_option linter.unusedVariables false
set_option linter.unusedSimpArgs false
namespace Go.Proofs.Ytokccoloholgaaa.Fw
open Go.RowKit
open Go.ChangeShapes Go.WideShapes

set_option maxRecDepth 100000 in
theorem zoneServes_ac (l : List AV) (h : HasArgs te 7 Try.f7.params.toList l) : AC Try.prog 7 l emp (Ret (tf true)) := by
  change HasArgs te 7 [25, 3, 54] l at h
  obtain ⟨a0, a1, a2, p0, p1, p2, rfl⟩ := args3 h rfl rfl rfl
  obtain ⟨t, rfl, ht⟩ := has_tr p0 rfl rfl rfl rfl rfl rfl rfl rfl rfl rfl rfl rfl rfl rfl rfl rfl rfl rfl rfl rfl rfl rfl rfl rfl rfl rfl rfl rfl rfl 
  obtain ⟨a, rfl, ha1, ha2⟩ := has_int p1 rfl rfl
  obtain ⟨m, rfl, hm, hnm⟩ := has_msgN p2 rfl rfl rfl rfl rfl rfl rfl rfl rfl rfl rfl rfl rfl rfl rfl rfl rfl rfl rfl rfl rfl rfl rfl rfl rfl 
  exact c_ciceronelaw18_ZoneServes t a m ht hm hnm
theorem zoneServes_own : ownKnob Try.prog.godebug = none := by kernel_rfl
theorem zoneServes_laid : laidOutB Try.prog = true := by kernel_rfl
set_option maxRecDepth 100000 in
theorem zoneServes_lifted (os : Os) (started : os.Started) (H : Type) (enc : TypeId × Value → H) :
    ReturnsInHanded {} Try.checked os 7 .any (Rows.zoneServesSpec.pre6 enc Try.prog Try.f7 Rows.zoneServesRow.domain false) (Rows.zoneServesSpec.post enc Try.prog Try.f7 false true false false) :=
  returnsInHanded_of_change_sized (C := Try.checked) zoneServes_own started (by kernel_rfl) Try.func7
    (ChangeSpec.witness6 (enc := enc) (C := Try.checked) false ⟨#[], #[.agg #[.slice none 0 0, .slice none 0 0], .int .i64 0, .agg #[.int .i64 0, .bool false, .int .i64 0, .bool false, .bool false, .bool false, .bool false, .int .i64 0, .slice none 0 0, .slice none 0 0, .slice none 0 0, .slice none 0 0]], []⟩ 8 (by kernel_rfl) (by kernel_rfl) (by kernel_rfl) (by kernel_rfl))
    (fun W base args ds gs before hval hW _ hsz _ => law_row (te := te) (d := 7) (tb := 4) te_ok zoneServes_laid (by kernel_rfl) (by kernel_rfl) rfl ((te_ok.tells (t := 4) rfl).bool rfl) rfl
      (fun ds h => by match ds, h with | [_, _, _], _ => exact ⟨rfl, rfl, rfl⟩) zoneServes_ac hval hW hsz)
theorem zoneServes_over : Rows.zoneServesRow.holds Try.pinned (OpenSpec.ofChange Rows.zoneServesSpec) :=
  OpenClaim.holds_of_wide 7 Try.f7 rfl rfl rfl rfl rfl rfl rfl ⟨rfl, rfl, rfl, rfl, rfl⟩ rfl rfl rfl rfl rfl (by kernel_rfl) Try.func7 (by kernel_rfl)
    (of_decide_eq_true (by kernel_rfl)) (by unfold Func.isWrapper; first | (rw [if_pos (by decide +kernel)]; kernel_rfl) | (rw [if_neg (by decide +kernel)]; exact ⟨rfl, rfl⟩))
    (fun os started H enc _ => zoneServes_lifted os started H enc)
end Go.Proofs.Ytokccoloholgaaa.Fw
namespace Go.Proofs.Ytokccoloholgaaa
theorem zoneServes_holds : Rows.ZoneServesSaid := Fw.zoneServes_over
#print axioms zoneServes_holds
end Go.Proofs.Ytokccoloholgaaa
namespace Go.Proofs.Ytokccoloholgaaa.Fw

end Go.Proofs.Ytokccoloholgaaa.Fw
