/- Law WireReads: whatever the input, the law answers true; no condition. -/
import Derived.Test.YtkfccjbihcbmiaaCat6
set_option linter.unusedVariables false
set_option linter.unusedSimpArgs false
namespace Go.Proofs.Ytkfccjbihcbmiaa.Fw
open Go.RowKit
open Go.ChangeShapes Go.WideShapes

set_option maxRecDepth 100000 in
theorem wireReads_ac (l : List AV) (h : HasArgs te 2 Try.f5.params.toList l) : AC Try.prog 5 l emp (Ret (tf true)) := by
  change HasArgs te 2 [22] l at h
  obtain ⟨a0, p0, rfl⟩ := args1 h rfl
  obtain ⟨b, rfl, hb⟩ := has_bytes p0 rfl rfl rfl rfl rfl
  exact c_WireReads b hb
theorem wireReads_own : ownKnob Try.prog.godebug = none := by kernel_rfl
theorem wireReads_laid : laidOutB Try.prog = true := by kernel_rfl
set_option maxRecDepth 100000 in
theorem wireReads_lifted (os : Os) (started : os.Started) (H : Type) (enc : TypeId × Value → H) :
    ReturnsInHanded {} Try.checked os 5 .any (Rows.wireReadsSpec.pre6 enc Try.prog Try.f5 Rows.wireReadsRow.domain false) (Rows.wireReadsSpec.post enc Try.prog Try.f5 false true false false) :=
  returnsInHanded_of_change_sized (C := Try.checked) wireReads_own started (by kernel_rfl) Try.func5
    (ChangeSpec.witness6 (enc := enc) (C := Try.checked) false ⟨#[], #[.slice none 0 0], []⟩ 8 (by kernel_rfl) (by kernel_rfl) (by kernel_rfl) (by kernel_rfl))
    (fun W base args ds gs before hval hW _ hsz _ => law_row (te := te) (d := 2) (tb := 4) te_ok wireReads_laid (by kernel_rfl) (by kernel_rfl) rfl ((te_ok.tells (t := 4) rfl).bool rfl) rfl
      (fun ds h => by match ds, h with | [_], _ => exact ⟨rfl, rfl, rfl⟩) wireReads_ac hval hW hsz)
theorem wireReads_over : Rows.wireReadsRow.holds Try.pinned (OpenSpec.ofChange Rows.wireReadsSpec) :=
  OpenClaim.holds_of_wide 5 Try.f5 rfl rfl rfl rfl rfl rfl rfl ⟨rfl, rfl, rfl, rfl, rfl⟩ rfl rfl rfl rfl rfl (by kernel_rfl) Try.func5 (by kernel_rfl)
    (of_decide_eq_true (by kernel_rfl)) (by unfold Func.isWrapper; first | (rw [if_pos (by decide +kernel)]; kernel_rfl) | (rw [if_neg (by decide +kernel)]; exact ⟨rfl, rfl⟩))
    (fun os started H enc _ => wireReads_lifted os started H enc)
end Go.Proofs.Ytkfccjbihcbmiaa.Fw
namespace Go.Proofs.Ytkfccjbihcbmiaa
theorem wireReads_holds : Rows.WireReadsSaid := Fw.wireReads_over
#print axioms wireReads_holds
end Go.Proofs.Ytkfccjbihcbmiaa
namespace Go.Proofs.Ytkfccjbihcbmiaa.Fw

end Go.Proofs.Ytkfccjbihcbmiaa.Fw
