/- Law WireAgain: whatever the input, the law answers true; no condition. -/
import Derived.Test.YtkfccjbihcbmiaaCat5
set_option linter.unusedVariables false
set_option linter.unusedSimpArgs false
namespace Go.Proofs.Ytkfccjbihcbmiaa.Fw
open Go.RowKit
open Go.ChangeShapes Go.WideShapes

set_option maxRecDepth 100000 in
theorem wireAgain_ac (l : List AV) (h : HasArgs te 2 Try.f7.params.toList l) : AC Try.prog 7 l emp (Ret (tf true)) := by
  change HasArgs te 2 [22] l at h
  obtain ⟨a0, p0, rfl⟩ := args1 h rfl
  obtain ⟨b, rfl, hb⟩ := has_bytes p0 rfl rfl rfl rfl rfl
  exact c_ciceronelaw04_WireAgain b hb
theorem wireAgain_own : ownKnob Try.prog.godebug = none := by kernel_rfl
theorem wireAgain_laid : laidOutB Try.prog = true := by kernel_rfl
set_option maxRecDepth 100000 in
theorem wireAgain_lifted (os : Os) (started : os.Started) (H : Type) (enc : TypeId × Value → H) :
    ReturnsInHanded {} Try.checked os 7 .any (Rows.wireAgainSpec.pre6 enc Try.prog Try.f7 Rows.wireAgainRow.domain false) (Rows.wireAgainSpec.post enc Try.prog Try.f7 false true false false) :=
  returnsInHanded_of_change_sized (C := Try.checked) wireAgain_own started (by kernel_rfl) Try.func7
    (ChangeSpec.witness6 (enc := enc) (C := Try.checked) false ⟨#[], #[.slice none 0 0], []⟩ 8 (by kernel_rfl) (by kernel_rfl) (by kernel_rfl) (by kernel_rfl))
    (fun W base args ds gs before hval hW _ hsz _ => law_row (te := te) (d := 2) (tb := 4) te_ok wireAgain_laid (by kernel_rfl) (by kernel_rfl) rfl ((te_ok.tells (t := 4) rfl).bool rfl) rfl
      (fun ds h => by match ds, h with | [_], _ => exact ⟨rfl, rfl, rfl⟩) wireAgain_ac hval hW hsz)
theorem wireAgain_over : Rows.wireAgainRow.holds Try.pinned (OpenSpec.ofChange Rows.wireAgainSpec) :=
  OpenClaim.holds_of_wide 7 Try.f7 rfl rfl rfl rfl rfl rfl rfl ⟨rfl, rfl, rfl, rfl, rfl⟩ rfl rfl rfl rfl rfl (by kernel_rfl) Try.func7 (by kernel_rfl)
    (of_decide_eq_true (by kernel_rfl)) (by unfold Func.isWrapper; first | (rw [if_pos (by decide +kernel)]; kernel_rfl) | (rw [if_neg (by decide +kernel)]; exact ⟨rfl, rfl⟩))
    (fun os started H enc _ => wireAgain_lifted os started H enc)
end Go.Proofs.Ytkfccjbihcbmiaa.Fw
namespace Go.Proofs.Ytkfccjbihcbmiaa
theorem wireAgain_holds : Rows.WireAgainSaid := Fw.wireAgain_over
#print axioms wireAgain_holds
end Go.Proofs.Ytkfccjbihcbmiaa
namespace Go.Proofs.Ytkfccjbihcbmiaa.Fw

end Go.Proofs.Ytkfccjbihcbmiaa.Fw
