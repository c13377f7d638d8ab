/- Law ZoneTrue: whatever the input, the law answers true; no condition. -/
import Derived.Test.YtokccoloholgaaaCat6
set_option linter.unusedVariables false
set_option linter.unusedSimpArgs false
namespace Go.Proofs.Ytokccoloholgaaa.Fw
open Go.RowKit
open Go.ChangeShapes Go.WideShapes

set_option maxRecDepth 100000 in
theorem zoneTrue_ac (l : List AV) (h : HasArgs te 7 Try.f6.params.toList l) : AC Try.prog 6 l emp (Ret (tf true)) := by
  change HasArgs te 7 [25, 32] l at h
  obtain ⟨a0, a1, p0, p1, rfl⟩ := args2 h rfl rfl
  obtain ⟨t, rfl, ht⟩ := has_tr p0 rfl rfl rfl rfl rfl rfl rfl rfl rfl rfl rfl rfl rfl rfl rfl rfl rfl rfl rfl rfl rfl rfl rfl rfl rfl rfl rfl rfl rfl 
  obtain ⟨q, rfl, hq⟩ := has_quN p1 rfl rfl rfl rfl rfl rfl
  exact c_ciceronelaw18_ZoneTrue t q ht hq
theorem zoneTrue_own : ownKnob Try.prog.godebug = none := by kernel_rfl
theorem zoneTrue_laid : laidOutB Try.prog = true := by kernel_rfl
set_option maxRecDepth 100000 in
theorem zoneTrue_lifted (os : Os) (started : os.Started) (H : Type) (enc : TypeId × Value → H) :
    ReturnsInHanded {} Try.checked os 6 .any (Rows.zoneTrueSpec.pre6 enc Try.prog Try.f6 Rows.zoneTrueRow.domain false) (Rows.zoneTrueSpec.post enc Try.prog Try.f6 false true false false) :=
  returnsInHanded_of_change_sized (C := Try.checked) zoneTrue_own started (by kernel_rfl) Try.func6
    (ChangeSpec.witness6 (enc := enc) (C := Try.checked) false ⟨#[], #[.agg #[.slice none 0 0, .slice none 0 0], .agg #[.string ⟨#[]⟩, .int .i64 0, .int .i64 0]], []⟩ 8 (by kernel_rfl) (by kernel_rfl) (by kernel_rfl) (by kernel_rfl))
    (fun W base args ds gs before hval hW _ hsz _ => law_row (te := te) (d := 7) (tb := 4) te_ok zoneTrue_laid (by kernel_rfl) (by kernel_rfl) rfl ((te_ok.tells (t := 4) rfl).bool rfl) rfl
      (fun ds h => by match ds, h with | [_, _], _ => exact ⟨rfl, rfl, rfl⟩) zoneTrue_ac hval hW hsz)
theorem zoneTrue_over : Rows.zoneTrueRow.holds Try.pinned (OpenSpec.ofChange Rows.zoneTrueSpec) :=
  OpenClaim.holds_of_wide 6 Try.f6 rfl rfl rfl rfl rfl rfl rfl ⟨rfl, rfl, rfl, rfl, rfl⟩ rfl rfl rfl rfl rfl (by kernel_rfl) Try.func6 (by kernel_rfl)
    (of_decide_eq_true (by kernel_rfl)) (by unfold Func.isWrapper; first | (rw [if_pos (by decide +kernel)]; kernel_rfl) | (rw [if_neg (by decide +kernel)]; exact ⟨rfl, rfl⟩))
    (fun os started H enc _ => zoneTrue_lifted os started H enc)
end Go.Proofs.Ytokccoloholgaaa.Fw
namespace Go.Proofs.Ytokccoloholgaaa
theorem zoneTrue_holds : Rows.ZoneTrueSaid := Fw.zoneTrue_over
#print axioms zoneTrue_holds
end Go.Proofs.Ytokccoloholgaaa
namespace Go.Proofs.Ytokccoloholgaaa.Fw

end Go.Proofs.Ytokccoloholgaaa.Fw
