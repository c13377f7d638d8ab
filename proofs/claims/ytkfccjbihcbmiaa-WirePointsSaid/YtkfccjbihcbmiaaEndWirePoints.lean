/- Law WirePoints: whatever the input, the law answers true; no condition. -/
import Derived.Test.YtkfccjbihcbmiaaCat5
set_option linter.unusedVariables false
set_option linter.unusedSimpArgs false
namespace Go.Proofs.Ytkfccjbihcbmiaa.Fw
open Go.RowKit
open Go.ChangeShapes Go.WideShapes

set_option maxRecDepth 100000 in
theorem wirePoints_ac (l : List AV) (h : HasArgs te 2 Try.f3.params.toList l) : AC Try.prog 3 l emp (Ret (tf true)) := by
  change HasArgs te 2 [22, 3, 22] l at h
  obtain ⟨a0, a1, a2, p0, p1, p2, rfl⟩ := args3 h rfl rfl rfl
  obtain ⟨a, rfl, ha⟩ := has_bytes p0 rfl rfl rfl rfl rfl
  obtain ⟨c, rfl, hc1, hc2⟩ := has_int p1 rfl rfl
  obtain ⟨d, rfl, hd⟩ := has_bytes p2 rfl rfl rfl rfl rfl
  exact c_ciceronelaw04_WirePoints a c d ha hd
theorem wirePoints_own : ownKnob Try.prog.godebug = none := by kernel_rfl
theorem wirePoints_laid : laidOutB Try.prog = true := by kernel_rfl
set_option maxRecDepth 100000 in
theorem wirePoints_lifted (os : Os) (started : os.Started) (H : Type) (enc : TypeId × Value → H) :
    ReturnsInHanded {} Try.checked os 3 .any (Rows.wirePointsSpec.pre6 enc Try.prog Try.f3 Rows.wirePointsRow.domain false) (Rows.wirePointsSpec.post enc Try.prog Try.f3 false true false false) :=
  returnsInHanded_of_change_sized (C := Try.checked) wirePoints_own started (by kernel_rfl) Try.func3
    (ChangeSpec.witness6 (enc := enc) (C := Try.checked) false ⟨#[], #[.slice none 0 0, .int .i64 0, .slice none 0 0], []⟩ 8 (by kernel_rfl) (by kernel_rfl) (by kernel_rfl) (by kernel_rfl))
    (fun W base args ds gs before hval hW _ hsz _ => law_row (te := te) (d := 2) (tb := 4) te_ok wirePoints_laid (by kernel_rfl) (by kernel_rfl) rfl ((te_ok.tells (t := 4) rfl).bool rfl) rfl
      (fun ds h => by match ds, h with | [_, _, _], _ => exact ⟨rfl, rfl, rfl⟩) wirePoints_ac hval hW hsz)
theorem wirePoints_over : Rows.wirePointsRow.holds Try.pinned (OpenSpec.ofChange Rows.wirePointsSpec) :=
  OpenClaim.holds_of_wide 3 Try.f3 rfl rfl rfl rfl rfl rfl rfl ⟨rfl, rfl, rfl, rfl, rfl⟩ rfl rfl rfl rfl rfl (by kernel_rfl) Try.func3 (by kernel_rfl)
    (of_decide_eq_true (by kernel_rfl)) (by unfold Func.isWrapper; first | (rw [if_pos (by decide +kernel)]; kernel_rfl) | (rw [if_neg (by decide +kernel)]; exact ⟨rfl, rfl⟩))
    (fun os started H enc _ => wirePoints_lifted os started H enc)
end Go.Proofs.Ytkfccjbihcbmiaa.Fw
namespace Go.Proofs.Ytkfccjbihcbmiaa
theorem wirePoints_holds : Rows.WirePointsSaid := Fw.wirePoints_over
#print axioms wirePoints_holds
end Go.Proofs.Ytkfccjbihcbmiaa
namespace Go.Proofs.Ytkfccjbihcbmiaa.Fw

end Go.Proofs.Ytkfccjbihcbmiaa.Fw
