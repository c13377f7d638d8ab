/- Law HeaderReads: whatever the input, the law answers true; no condition. -/
import Derived.Test.YtahkngplohnliaaL02a
import Derived.Test.YtahkngplohnliaaFwS
set_option linter.unusedVariables false
set_option linter.unusedSimpArgs false
namespace Go.Proofs.Ytahkngplohnliaa.Fw
open Go.RowKit
open Go.ChangeShapes Go.WideShapes

set_option maxRecDepth 100000 in
theorem headerReads_ac (l : List AV) (h : HasArgs te 2 Try.f11.params.toList l) : AC Try.prog 11 l emp (Ret (tf true)) := by
  change HasArgs te 2 [22] l at h
  obtain ⟨a0, p0, rfl⟩ := args1 h rfl
  obtain ⟨b, rfl, hb⟩ := has_bytes p0 rfl rfl rfl rfl rfl
  exact c_ciceronelaw02_HeaderReads b hb
theorem headerReads_own : ownKnob Try.prog.godebug = none := by kernel_rfl
theorem headerReads_laid : laidOutB Try.prog = true := by kernel_rfl
set_option maxRecDepth 100000 in
theorem headerReads_lifted (os : Os) (started : os.Started) (H : Type) (enc : TypeId × Value → H) :
    ReturnsInHanded {} Try.checked os 11 .any (Rows.headerReadsSpec.pre6 enc Try.prog Try.f11 Rows.headerReadsRow.domain false) (Rows.headerReadsSpec.post enc Try.prog Try.f11 false true false false) :=
  returnsInHanded_of_change_sized (C := Try.checked) headerReads_own started (by kernel_rfl) Try.func11
    (ChangeSpec.witness6 (enc := enc) (C := Try.checked) false ⟨#[], #[.slice none 0 0], []⟩ 8 (by kernel_rfl) (by kernel_rfl) (by kernel_rfl) (by kernel_rfl))
    (fun W base args ds gs before hval hW _ hsz _ => law_row (te := te) (d := 2) (tb := 4) te_ok headerReads_laid (by kernel_rfl) (by kernel_rfl) rfl ((te_ok.tells (t := 4) rfl).bool rfl) rfl
      (fun ds h => by match ds, h with | [_], _ => exact ⟨rfl, rfl, rfl⟩) headerReads_ac hval hW hsz)
theorem headerReads_over : Rows.headerReadsRow.holds Try.pinned (OpenSpec.ofChange Rows.headerReadsSpec) :=
  OpenClaim.holds_of_wide 11 Try.f11 rfl rfl rfl rfl rfl rfl rfl ⟨rfl, rfl, rfl, rfl, rfl⟩ rfl rfl rfl rfl rfl (by kernel_rfl) Try.func11 (by kernel_rfl)
    (of_decide_eq_true (by kernel_rfl)) (by unfold Func.isWrapper; first | (rw [if_pos (by decide +kernel)]; kernel_rfl) | (rw [if_neg (by decide +kernel)]; exact ⟨rfl, rfl⟩))
    (fun os started H enc _ => headerReads_lifted os started H enc)
end Go.Proofs.Ytahkngplohnliaa.Fw
namespace Go.Proofs.Ytahkngplohnliaa
theorem headerReads_holds : Rows.HeaderReadsSaid := Fw.headerReads_over
#print axioms headerReads_holds
end Go.Proofs.Ytahkngplohnliaa
namespace Go.Proofs.Ytahkngplohnliaa.Fw

end Go.Proofs.Ytahkngplohnliaa.Fw
