/- Law NameOrders: whatever the input, the law answers true; no condition. -/
import Derived.Test.YtfojdjlhpejbpaaL01
import Derived.Test.YtfojdjlhpejbpaaFwS
set_option linter.unusedVariables false
set_option linter.unusedSimpArgs false
namespace Go.Proofs.Ytfojdjlhpejbpaa.Fw
open Go.RowKit
open Go.ChangeShapes Go.WideShapes

set_option maxRecDepth 100000 in
theorem nameOrders_ac (l : List AV) (h : HasArgs te 2 Try.f6.params.toList l) : AC Try.prog 6 l emp (Ret (tf true)) := by
  change HasArgs te 2 [28, 28, 28] l at h
  obtain ⟨a0, a1, a2, p0, p1, p2, rfl⟩ := args3 h rfl rfl rfl
  obtain ⟨x, rfl, hx⟩ := has_bytes p0 rfl rfl rfl rfl rfl
  obtain ⟨y, rfl, hy⟩ := has_bytes p1 rfl rfl rfl rfl rfl
  obtain ⟨z, rfl, hz⟩ := has_bytes p2 rfl rfl rfl rfl rfl
  exact c_ciceronelaw01_NameOrders x y z hx hy hz
theorem nameOrders_own : ownKnob Try.prog.godebug = none := by kernel_rfl
theorem nameOrders_laid : laidOutB Try.prog = true := by kernel_rfl
set_option maxRecDepth 100000 in
theorem nameOrders_lifted (os : Os) (started : os.Started) (H : Type) (enc : TypeId × Value → H) :
    ReturnsInHanded {} Try.checked os 6 .any (Rows.nameOrdersSpec.pre6 enc Try.prog Try.f6 Rows.nameOrdersRow.domain false) (Rows.nameOrdersSpec.post enc Try.prog Try.f6 false true false false) :=
  returnsInHanded_of_change_sized (C := Try.checked) nameOrders_own started (by kernel_rfl) Try.func6
    (ChangeSpec.witness6 (enc := enc) (C := Try.checked) false ⟨#[], #[.slice none 0 0, .slice none 0 0, .slice none 0 0], []⟩ 8 (by kernel_rfl) (by kernel_rfl) (by kernel_rfl) (by kernel_rfl))
    (fun W base args ds gs before hval hW _ hsz _ => law_row (te := te) (d := 2) (tb := 4) te_ok nameOrders_laid (by kernel_rfl) (by kernel_rfl) rfl ((te_ok.tells (t := 4) rfl).bool rfl) rfl
      (fun ds h => by match ds, h with | [_, _, _], _ => exact ⟨rfl, rfl, rfl⟩) nameOrders_ac hval hW hsz)
theorem nameOrders_over : Rows.nameOrdersRow.holds Try.pinned (OpenSpec.ofChange Rows.nameOrdersSpec) :=
  OpenClaim.holds_of_wide 6 Try.f6 rfl rfl rfl rfl rfl rfl rfl ⟨rfl, rfl, rfl, rfl, rfl⟩ rfl rfl rfl rfl rfl (by kernel_rfl) Try.func6 (by kernel_rfl)
    (of_decide_eq_true (by kernel_rfl)) (by unfold Func.isWrapper; first | (rw [if_pos (by decide +kernel)]; kernel_rfl) | (rw [if_neg (by decide +kernel)]; exact ⟨rfl, rfl⟩))
    (fun os started H enc _ => nameOrders_lifted os started H enc)
end Go.Proofs.Ytfojdjlhpejbpaa.Fw
namespace Go.Proofs.Ytfojdjlhpejbpaa
theorem nameOrders_holds : Rows.NameOrdersSaid := Fw.nameOrders_over
#print axioms nameOrders_holds
end Go.Proofs.Ytfojdjlhpejbpaa
namespace Go.Proofs.Ytfojdjlhpejbpaa.Fw

end Go.Proofs.Ytfojdjlhpejbpaa.Fw
