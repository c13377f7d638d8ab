/- Law RdataTexts: whatever the input, the law answers true; no condition. -/
import Derived.Test.YtolaeondhhnfoaaL03
import Derived.Test.YtolaeondhhnfoaaFwS
set_option linter.unusedVariables false
set_option linter.unusedSimpArgs false
namespace Go.Proofs.Ytolaeondhhnfoaa.Fw
open Go.RowKit
open Go.ChangeShapes Go.WideShapes

set_option maxRecDepth 100000 in
theorem rdataTexts_ac (l : List AV) (h : HasArgs te 3 Try.f6.params.toList l) : AC Try.prog 6 l emp (Ret (tf true)) := by
  change HasArgs te 3 [37] l at h
  obtain ⟨a0, p0, rfl⟩ := args1 h rfl
  obtain ⟨l, rfl, hl, _⟩ := has_bytess p0 rfl rfl rfl rfl rfl rfl rfl rfl
  exact c_ciceronelaw03_RdataTexts l (by omega)
theorem rdataTexts_own : ownKnob Try.prog.godebug = none := by kernel_rfl
theorem rdataTexts_laid : laidOutB Try.prog = true := by kernel_rfl
set_option maxRecDepth 100000 in
theorem rdataTexts_lifted (os : Os) (started : os.Started) (H : Type) (enc : TypeId × Value → H) :
    ReturnsInHanded {} Try.checked os 6 .any (Rows.rdataTextsSpec.pre6 enc Try.prog Try.f6 Rows.rdataTextsRow.domain false) (Rows.rdataTextsSpec.post enc Try.prog Try.f6 false true false false) :=
  returnsInHanded_of_change_sized (C := Try.checked) rdataTexts_own started (by kernel_rfl) Try.func6
    (ChangeSpec.witness6 (enc := enc) (C := Try.checked) false ⟨#[], #[.slice none 0 0], []⟩ 8 (by kernel_rfl) (by kernel_rfl) (by kernel_rfl) (by kernel_rfl))
    (fun W base args ds gs before hval hW _ hsz _ => law_row (te := te) (d := 3) (tb := 4) te_ok rdataTexts_laid (by kernel_rfl) (by kernel_rfl) rfl ((te_ok.tells (t := 4) rfl).bool rfl) rfl
      (fun ds h => by match ds, h with | [_], _ => exact ⟨rfl, rfl, rfl⟩) rdataTexts_ac hval hW hsz)
theorem rdataTexts_over : Rows.rdataTextsRow.holds Try.pinned (OpenSpec.ofChange Rows.rdataTextsSpec) :=
  OpenClaim.holds_of_wide 6 Try.f6 rfl rfl rfl rfl rfl rfl rfl ⟨rfl, rfl, rfl, rfl, rfl⟩ rfl rfl rfl rfl rfl (by kernel_rfl) Try.func6 (by kernel_rfl)
    (of_decide_eq_true (by kernel_rfl)) (by unfold Func.isWrapper; first | (rw [if_pos (by decide +kernel)]; kernel_rfl) | (rw [if_neg (by decide +kernel)]; exact ⟨rfl, rfl⟩))
    (fun os started H enc _ => rdataTexts_lifted os started H enc)
end Go.Proofs.Ytolaeondhhnfoaa.Fw
namespace Go.Proofs.Ytolaeondhhnfoaa
theorem rdataTexts_holds : Rows.RdataTextsSaid := Fw.rdataTexts_over
#print axioms rdataTexts_holds
end Go.Proofs.Ytolaeondhhnfoaa
namespace Go.Proofs.Ytolaeondhhnfoaa.Fw

end Go.Proofs.Ytolaeondhhnfoaa.Fw
