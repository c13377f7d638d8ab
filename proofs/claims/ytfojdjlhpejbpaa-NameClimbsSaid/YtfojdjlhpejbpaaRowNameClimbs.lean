/- Law NameClimbs: whatever the input, the law answers true; no condition. -/
import Derived.Test.YtfojdjlhpejbpaaL01
import Derived.Test.YtfojdjlhpejbpaaFwS
set_option linter.unusedVariables false
set_option linter.unusedSimpArgs false
namespace Go.Proofs.Ytfojdjlhpejbpaa.Fw
open Go.RowKit
open Go.ChangeShapes Go.WideShapes

set_option maxRecDepth 100000 in
theorem nameClimbs_ac (l : List AV) (h : HasArgs te 2 Try.f4.params.toList l) : AC Try.prog 4 l emp (Ret (tf true)) := by
  change HasArgs te 2 [28] l at h
  obtain ⟨a0, p0, rfl⟩ := args1 h rfl
  obtain ⟨b, rfl, hb⟩ := has_bytes p0 rfl rfl rfl rfl rfl
  exact c_ciceronelaw01_NameClimbs b hb
theorem nameClimbs_own : ownKnob Try.prog.godebug = none := by kernel_rfl
theorem nameClimbs_laid : laidOutB Try.prog = true := by kernel_rfl
set_option maxRecDepth 100000 in
theorem nameClimbs_lifted (os : Os) (started : os.Started) (H : Type) (enc : TypeId × Value → H) :
    ReturnsInHanded {} Try.checked os 4 .any (Rows.nameClimbsSpec.pre6 enc Try.prog Try.f4 Rows.nameClimbsRow.domain false) (Rows.nameClimbsSpec.post enc Try.prog Try.f4 false true false false) :=
  returnsInHanded_of_change_sized (C := Try.checked) nameClimbs_own started (by kernel_rfl) Try.func4
    (ChangeSpec.witness6 (enc := enc) (C := Try.checked) false ⟨#[], #[.slice none 0 0], []⟩ 8 (by kernel_rfl) (by kernel_rfl) (by kernel_rfl) (by kernel_rfl))
    (fun W base args ds gs before hval hW _ hsz _ => law_row (te := te) (d := 2) (tb := 4) te_ok nameClimbs_laid (by kernel_rfl) (by kernel_rfl) rfl ((te_ok.tells (t := 4) rfl).bool rfl) rfl
      (fun ds h => by match ds, h with | [_], _ => exact ⟨rfl, rfl, rfl⟩) nameClimbs_ac hval hW hsz)
theorem nameClimbs_over : Rows.nameClimbsRow.holds Try.pinned (OpenSpec.ofChange Rows.nameClimbsSpec) :=
  OpenClaim.holds_of_wide 4 Try.f4 rfl rfl rfl rfl rfl rfl rfl ⟨rfl, rfl, rfl, rfl, rfl⟩ rfl rfl rfl rfl rfl (by kernel_rfl) Try.func4 (by kernel_rfl)
    (of_decide_eq_true (by kernel_rfl)) (by unfold Func.isWrapper; first | (rw [if_pos (by decide +kernel)]; kernel_rfl) | (rw [if_neg (by decide +kernel)]; exact ⟨rfl, rfl⟩))
    (fun os started H enc _ => nameClimbs_lifted os started H enc)
end Go.Proofs.Ytfojdjlhpejbpaa.Fw
namespace Go.Proofs.Ytfojdjlhpejbpaa
theorem nameClimbs_holds : Rows.NameClimbsSaid := Fw.nameClimbs_over
#print axioms nameClimbs_holds
end Go.Proofs.Ytfojdjlhpejbpaa
namespace Go.Proofs.Ytfojdjlhpejbpaa.Fw

end Go.Proofs.Ytfojdjlhpejbpaa.Fw
