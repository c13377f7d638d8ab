/- Law NameParts: whatever the input, the law answers true; no condition. -/
import Derived.Test.YtfojdjlhpejbpaaL01
import Derived.Test.YtfojdjlhpejbpaaFwS
set_option linter.unusedVariables false
set_option linter.unusedSimpArgs false
namespace Go.Proofs.Ytfojdjlhpejbpaa.Fw
open Go.RowKit
open Go.ChangeShapes Go.WideShapes

set_option maxRecDepth 100000 in
theorem nameParts_ac (l : List AV) (h : HasArgs te 1 Try.f3.params.toList l) : AC Try.prog 3 l emp (Ret (tf true)) := by
  change HasArgs te 1 [9, 9, 3] l at h
  obtain ⟨a0, a1, a2, p0, p1, p2, rfl⟩ := args3 h rfl rfl rfl
  obtain ⟨n, rfl, hn⟩ := has_str p0 rfl rfl
  obtain ⟨m, rfl, hm⟩ := has_str p1 rfl rfl
  obtain ⟨k, rfl, hk1, hk2⟩ := has_int p2 rfl rfl
  exact c_ciceronelaw01_NameParts n m (by omega) (by omega) k ⟨hk1, hk2⟩
theorem nameParts_own : ownKnob Try.prog.godebug = none := by kernel_rfl
theorem nameParts_laid : laidOutB Try.prog = true := by kernel_rfl
set_option maxRecDepth 100000 in
theorem nameParts_lifted (os : Os) (started : os.Started) (H : Type) (enc : TypeId × Value → H) :
    ReturnsInHanded {} Try.checked os 3 .any (Rows.namePartsSpec.pre6 enc Try.prog Try.f3 Rows.namePartsRow.domain false) (Rows.namePartsSpec.post enc Try.prog Try.f3 false true false false) :=
  returnsInHanded_of_change_sized (C := Try.checked) nameParts_own started (by kernel_rfl) Try.func3
    (ChangeSpec.witness6 (enc := enc) (C := Try.checked) false ⟨#[], #[.string ⟨#[]⟩, .string ⟨#[]⟩, .int .i64 0], []⟩ 8 (by kernel_rfl) (by kernel_rfl) (by kernel_rfl) (by kernel_rfl))
    (fun W base args ds gs before hval hW _ hsz _ => law_row (te := te) (d := 1) (tb := 4) te_ok nameParts_laid (by kernel_rfl) (by kernel_rfl) rfl ((te_ok.tells (t := 4) rfl).bool rfl) rfl
      (fun ds h => by match ds, h with | [_, _, _], _ => exact ⟨rfl, rfl, rfl⟩) nameParts_ac hval hW hsz)
theorem nameParts_over : Rows.namePartsRow.holds Try.pinned (OpenSpec.ofChange Rows.namePartsSpec) :=
  OpenClaim.holds_of_wide 3 Try.f3 rfl rfl rfl rfl rfl rfl rfl ⟨rfl, rfl, rfl, rfl, rfl⟩ rfl rfl rfl rfl rfl (by kernel_rfl) Try.func3 (by kernel_rfl)
    (of_decide_eq_true (by kernel_rfl)) (by unfold Func.isWrapper; first | (rw [if_pos (by decide +kernel)]; kernel_rfl) | (rw [if_neg (by decide +kernel)]; exact ⟨rfl, rfl⟩))
    (fun os started H enc _ => nameParts_lifted os started H enc)
end Go.Proofs.Ytfojdjlhpejbpaa.Fw
namespace Go.Proofs.Ytfojdjlhpejbpaa
theorem nameParts_holds : Rows.NamePartsSaid := Fw.nameParts_over
#print axioms nameParts_holds
end Go.Proofs.Ytfojdjlhpejbpaa
namespace Go.Proofs.Ytfojdjlhpejbpaa.Fw

end Go.Proofs.Ytfojdjlhpejbpaa.Fw
