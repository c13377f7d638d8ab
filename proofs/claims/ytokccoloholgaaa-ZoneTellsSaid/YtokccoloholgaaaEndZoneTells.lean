/- Law ZoneTells: whatever the input, the law answers true; no condition. -/
import Derived.Test.YtokccoloholgaaaCat5
set_option linter.unusedVariables false
set_option linter.unusedSimpArgs false
namespace Go.Proofs.Ytokccoloholgaaa.Fw
open Go.RowKit
open Go.ChangeShapes Go.WideShapes

set_option maxRecDepth 100000 in
theorem zoneTells_ac (l : List AV) (h : HasArgs te 7 Try.f3.params.toList l) : AC Try.prog 3 l emp (Ret (tf true)) := by
  change HasArgs te 7 [25] l at h
  obtain ⟨a0, p0, rfl⟩ := args1 h rfl
  obtain ⟨t, rfl, ht⟩ := has_tr p0 rfl rfl rfl rfl rfl rfl rfl rfl rfl rfl rfl rfl rfl rfl rfl rfl rfl rfl rfl rfl rfl rfl rfl rfl rfl rfl rfl rfl rfl 
  exact c_ciceronelaw18_ZoneTells t ht
theorem zoneTells_own : ownKnob Try.prog.godebug = none := by kernel_rfl
theorem zoneTells_laid : laidOutB Try.prog = true := by kernel_rfl
set_option maxRecDepth 100000 in
theorem zoneTells_lifted (os : Os) (started : os.Started) (H : Type) (enc : TypeId × Value → H) :
    ReturnsInHanded {} Try.checked os 3 .any (Rows.zoneTellsSpec.pre6 enc Try.prog Try.f3 Rows.zoneTellsRow.domain false) (Rows.zoneTellsSpec.post enc Try.prog Try.f3 false true false false) :=
  returnsInHanded_of_change_sized (C := Try.checked) zoneTells_own started (by kernel_rfl) Try.func3
    (ChangeSpec.witness6 (enc := enc) (C := Try.checked) false ⟨#[], #[.agg #[.slice none 0 0, .slice none 0 0]], []⟩ 8 (by kernel_rfl) (by kernel_rfl) (by kernel_rfl) (by kernel_rfl))
    (fun W base args ds gs before hval hW _ hsz _ => law_row (te := te) (d := 7) (tb := 4) te_ok zoneTells_laid (by kernel_rfl) (by kernel_rfl) rfl ((te_ok.tells (t := 4) rfl).bool rfl) rfl
      (fun ds h => by match ds, h with | [_], _ => exact ⟨rfl, rfl, rfl⟩) zoneTells_ac hval hW hsz)
theorem zoneTells_over : Rows.zoneTellsRow.holds Try.pinned (OpenSpec.ofChange Rows.zoneTellsSpec) :=
  OpenClaim.holds_of_wide 3 Try.f3 rfl rfl rfl rfl rfl rfl rfl ⟨rfl, rfl, rfl, rfl, rfl⟩ rfl rfl rfl rfl rfl (by kernel_rfl) Try.func3 (by kernel_rfl)
    (of_decide_eq_true (by kernel_rfl)) (by unfold Func.isWrapper; first | (rw [if_pos (by decide +kernel)]; kernel_rfl) | (rw [if_neg (by decide +kernel)]; exact ⟨rfl, rfl⟩))
    (fun os started H enc _ => zoneTells_lifted os started H enc)
end Go.Proofs.Ytokccoloholgaaa.Fw
namespace Go.Proofs.Ytokccoloholgaaa
theorem zoneTells_holds : Rows.ZoneTellsSaid := Fw.zoneTells_over
#print axioms zoneTells_holds
end Go.Proofs.Ytokccoloholgaaa
namespace Go.Proofs.Ytokccoloholgaaa.Fw

end Go.Proofs.Ytokccoloholgaaa.Fw
