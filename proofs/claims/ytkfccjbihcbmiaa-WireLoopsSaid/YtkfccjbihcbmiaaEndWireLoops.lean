/- Law WireLoops: whatever the input, the law answers true; no condition. -/
import Derived.Test.YtkfccjbihcbmiaaCat5
set_option linter.unusedVariables false
set_option linter.unusedSimpArgs false
namespace Go.Proofs.Ytkfccjbihcbmiaa.Fw
open Go.RowKit
open Go.ChangeShapes Go.WideShapes

set_option maxRecDepth 100000 in
theorem wireLoops_ac (l : List AV) (h : HasArgs te 1 Try.f8.params.toList l) : AC Try.prog 8 l emp (Ret (tf true)) := by
  change HasArgs te 1 [3, 3] l at h
  obtain ⟨a0, a1, p0, p1, rfl⟩ := args2 h rfl rfl
  obtain ⟨x, rfl, hx1, hx2⟩ := has_int p0 rfl rfl
  obtain ⟨y, rfl, hy1, hy2⟩ := has_int p1 rfl rfl
  exact c_ciceronelaw04_WireLoops x y
theorem wireLoops_own : ownKnob Try.prog.godebug = none := by kernel_rfl
theorem wireLoops_laid : laidOutB Try.prog = true := by kernel_rfl
set_option maxRecDepth 100000 in
theorem wireLoops_lifted (os : Os) (started : os.Started) (H : Type) (enc : TypeId × Value → H) :
    ReturnsInHanded {} Try.checked os 8 .any (Rows.wireLoopsSpec.pre6 enc Try.prog Try.f8 Rows.wireLoopsRow.domain false) (Rows.wireLoopsSpec.post enc Try.prog Try.f8 false true false false) :=
  returnsInHanded_of_change_sized (C := Try.checked) wireLoops_own started (by kernel_rfl) Try.func8
    (ChangeSpec.witness6 (enc := enc) (C := Try.checked) false ⟨#[], #[.int .i64 0, .int .i64 0], []⟩ 8 (by kernel_rfl) (by kernel_rfl) (by kernel_rfl) (by kernel_rfl))
    (fun W base args ds gs before hval hW _ hsz _ => law_row (te := te) (d := 1) (tb := 4) te_ok wireLoops_laid (by kernel_rfl) (by kernel_rfl) rfl ((te_ok.tells (t := 4) rfl).bool rfl) rfl
      (fun ds h => by match ds, h with | [_, _], _ => exact ⟨rfl, rfl, rfl⟩) wireLoops_ac hval hW hsz)
theorem wireLoops_over : Rows.wireLoopsRow.holds Try.pinned (OpenSpec.ofChange Rows.wireLoopsSpec) :=
  OpenClaim.holds_of_wide 8 Try.f8 rfl rfl rfl rfl rfl rfl rfl ⟨rfl, rfl, rfl, rfl, rfl⟩ rfl rfl rfl rfl rfl (by kernel_rfl) Try.func8 (by kernel_rfl)
    (of_decide_eq_true (by kernel_rfl)) (by unfold Func.isWrapper; first | (rw [if_pos (by decide +kernel)]; kernel_rfl) | (rw [if_neg (by decide +kernel)]; exact ⟨rfl, rfl⟩))
    (fun os started H enc _ => wireLoops_lifted os started H enc)
end Go.Proofs.Ytkfccjbihcbmiaa.Fw
namespace Go.Proofs.Ytkfccjbihcbmiaa
theorem wireLoops_holds : Rows.WireLoopsSaid := Fw.wireLoops_over
#print axioms wireLoops_holds
end Go.Proofs.Ytkfccjbihcbmiaa
namespace Go.Proofs.Ytkfccjbihcbmiaa.Fw

end Go.Proofs.Ytkfccjbihcbmiaa.Fw
