/- Law NameCases: whatever the input, the law answers true; no condition. -/
import Derived.Test.YtfojdjlhpejbpaaL01
import Derived.Test.YtfojdjlhpejbpaaFwS
set_option linter.unusedVariables false
set_option linter.unusedSimpArgs false
namespace Go.Proofs.Ytfojdjlhpejbpaa.Fw
open Go.RowKit
open Go.ChangeShapes Go.WideShapes

set_option maxRecDepth 100000 in
theorem nameCases_ac (l : List AV) (h : HasArgs te 1 Try.f7.params.toList l) : AC Try.prog 7 l emp (Ret (tf true)) := by
  change HasArgs te 1 [9, 9] l at h
  obtain ⟨a0, a1, p0, p1, rfl⟩ := args2 h rfl rfl
  obtain ⟨a, rfl, ha⟩ := has_str p0 rfl rfl
  obtain ⟨b, rfl, hb⟩ := has_str p1 rfl rfl
  exact c_ciceronelaw01_NameCases a b (by omega) (by omega)
theorem nameCases_own : ownKnob Try.prog.godebug = none := by kernel_rfl
theorem nameCases_laid : laidOutB Try.prog = true := by kernel_rfl
set_option maxRecDepth 100000 in
theorem nameCases_lifted (os : Os) (started : os.Started) (H : Type) (enc : TypeId × Value → H) :
    ReturnsInHanded {} Try.checked os 7 .any (Rows.nameCasesSpec.pre6 enc Try.prog Try.f7 Rows.nameCasesRow.domain false) (Rows.nameCasesSpec.post enc Try.prog Try.f7 false true false false) :=
  returnsInHanded_of_change_sized (C := Try.checked) nameCases_own started (by kernel_rfl) Try.func7
    (ChangeSpec.witness6 (enc := enc) (C := Try.checked) false ⟨#[], #[.string ⟨#[]⟩, .string ⟨#[]⟩], []⟩ 8 (by kernel_rfl) (by kernel_rfl) (by kernel_rfl) (by kernel_rfl))
    (fun W base args ds gs before hval hW _ hsz _ => law_row (te := te) (d := 1) (tb := 4) te_ok nameCases_laid (by kernel_rfl) (by kernel_rfl) rfl ((te_ok.tells (t := 4) rfl).bool rfl) rfl
      (fun ds h => by match ds, h with | [_, _], _ => exact ⟨rfl, rfl, rfl⟩) nameCases_ac hval hW hsz)
theorem nameCases_over : Rows.nameCasesRow.holds Try.pinned (OpenSpec.ofChange Rows.nameCasesSpec) :=
  OpenClaim.holds_of_wide 7 Try.f7 rfl rfl rfl rfl rfl rfl rfl ⟨rfl, rfl, rfl, rfl, rfl⟩ rfl rfl rfl rfl rfl (by kernel_rfl) Try.func7 (by kernel_rfl)
    (of_decide_eq_true (by kernel_rfl)) (by unfold Func.isWrapper; first | (rw [if_pos (by decide +kernel)]; kernel_rfl) | (rw [if_neg (by decide +kernel)]; exact ⟨rfl, rfl⟩))
    (fun os started H enc _ => nameCases_lifted os started H enc)
end Go.Proofs.Ytfojdjlhpejbpaa.Fw
namespace Go.Proofs.Ytfojdjlhpejbpaa
theorem nameCases_holds : Rows.NameCasesSaid := Fw.nameCases_over
#print axioms nameCases_holds
end Go.Proofs.Ytfojdjlhpejbpaa
namespace Go.Proofs.Ytfojdjlhpejbpaa.Fw

end Go.Proofs.Ytfojdjlhpejbpaa.Fw
