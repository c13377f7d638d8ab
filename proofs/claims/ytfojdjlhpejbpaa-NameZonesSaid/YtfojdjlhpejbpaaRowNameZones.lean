/- Law NameZones: whatever the input, the law answers true; no condition. -/
import Derived.Test.YtfojdjlhpejbpaaL01
import Derived.Test.YtfojdjlhpejbpaaFwS
set_option linter.unusedVariables false
set_option linter.unusedSimpArgs false
namespace Go.Proofs.Ytfojdjlhpejbpaa.Fw
open Go.RowKit
open Go.ChangeShapes Go.WideShapes

set_option maxRecDepth 100000 in
theorem nameZones_ac (l : List AV) (h : HasArgs te 2 Try.f8.params.toList l) : AC Try.prog 8 l emp (Ret (tf true)) := by
  change HasArgs te 2 [28, 28] l at h
  obtain ⟨a0, a1, p0, p1, rfl⟩ := args2 h rfl rfl
  obtain ⟨b, rfl, hb⟩ := has_bytes p0 rfl rfl rfl rfl rfl
  obtain ⟨z, rfl, hz⟩ := has_bytes p1 rfl rfl rfl rfl rfl
  exact c_ciceronelaw01_NameZones b z hb hz
theorem nameZones_own : ownKnob Try.prog.godebug = none := by kernel_rfl
theorem nameZones_laid : laidOutB Try.prog = true := by kernel_rfl
set_option maxRecDepth 100000 in
theorem nameZones_lifted (os : Os) (started : os.Started) (H : Type) (enc : TypeId × Value → H) :
    ReturnsInHanded {} Try.checked os 8 .any (Rows.nameZonesSpec.pre6 enc Try.prog Try.f8 Rows.nameZonesRow.domain false) (Rows.nameZonesSpec.post enc Try.prog Try.f8 false true false false) :=
  returnsInHanded_of_change_sized (C := Try.checked) nameZones_own started (by kernel_rfl) Try.func8
    (ChangeSpec.witness6 (enc := enc) (C := Try.checked) false ⟨#[], #[.slice none 0 0, .slice none 0 0], []⟩ 8 (by kernel_rfl) (by kernel_rfl) (by kernel_rfl) (by kernel_rfl))
    (fun W base args ds gs before hval hW _ hsz _ => law_row (te := te) (d := 2) (tb := 4) te_ok nameZones_laid (by kernel_rfl) (by kernel_rfl) rfl ((te_ok.tells (t := 4) rfl).bool rfl) rfl
      (fun ds h => by match ds, h with | [_, _], _ => exact ⟨rfl, rfl, rfl⟩) nameZones_ac hval hW hsz)
theorem nameZones_over : Rows.nameZonesRow.holds Try.pinned (OpenSpec.ofChange Rows.nameZonesSpec) :=
  OpenClaim.holds_of_wide 8 Try.f8 rfl rfl rfl rfl rfl rfl rfl ⟨rfl, rfl, rfl, rfl, rfl⟩ rfl rfl rfl rfl rfl (by kernel_rfl) Try.func8 (by kernel_rfl)
    (of_decide_eq_true (by kernel_rfl)) (by unfold Func.isWrapper; first | (rw [if_pos (by decide +kernel)]; kernel_rfl) | (rw [if_neg (by decide +kernel)]; exact ⟨rfl, rfl⟩))
    (fun os started H enc _ => nameZones_lifted os started H enc)
end Go.Proofs.Ytfojdjlhpejbpaa.Fw
namespace Go.Proofs.Ytfojdjlhpejbpaa
theorem nameZones_holds : Rows.NameZonesSaid := Fw.nameZones_over
#print axioms nameZones_holds
end Go.Proofs.Ytfojdjlhpejbpaa
namespace Go.Proofs.Ytfojdjlhpejbpaa.Fw

end Go.Proofs.Ytfojdjlhpejbpaa.Fw
