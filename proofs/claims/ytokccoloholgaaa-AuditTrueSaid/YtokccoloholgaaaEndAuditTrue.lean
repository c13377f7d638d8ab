/- Law AuditTrue: whatever the input, the law answers true; no condition. -/
import Derived.Test.YtokccoloholgaaaCat6
set_option linter.unusedVariables false
set_option linter.unusedSimpArgs false
namespace Go.Proofs.Ytokccoloholgaaa.Fw
open Go.RowKit
open Go.ChangeShapes Go.WideShapes

set_option maxRecDepth 100000 in
theorem auditTrue_ac (l : List AV) (h : HasArgs te 7 Try.f8.params.toList l) : AC Try.prog 8 l emp (Ret (tf true)) := by
  change HasArgs te 7 [25, 54] l at h
  obtain ⟨a0, a1, p0, p1, rfl⟩ := args2 h rfl rfl
  obtain ⟨t, rfl, ht⟩ := has_tr p0 rfl rfl rfl rfl rfl rfl rfl rfl rfl rfl rfl rfl rfl rfl rfl rfl rfl rfl rfl rfl rfl rfl rfl rfl rfl rfl rfl rfl rfl 
  obtain ⟨m, rfl, hm, hnm⟩ := has_msgN p1 rfl rfl rfl rfl rfl rfl rfl rfl rfl rfl rfl rfl rfl rfl rfl rfl rfl rfl rfl rfl rfl rfl rfl rfl rfl 
  exact c_ciceronelaw24_AuditTrue t m ht hm hnm
theorem auditTrue_own : ownKnob Try.prog.godebug = none := by kernel_rfl
theorem auditTrue_laid : laidOutB Try.prog = true := by kernel_rfl
set_option maxRecDepth 100000 in
theorem auditTrue_lifted (os : Os) (started : os.Started) (H : Type) (enc : TypeId × Value → H) :
    ReturnsInHanded {} Try.checked os 8 .any (Rows.auditTrueSpec.pre6 enc Try.prog Try.f8 Rows.auditTrueRow.domain false) (Rows.auditTrueSpec.post enc Try.prog Try.f8 false true false false) :=
  returnsInHanded_of_change_sized (C := Try.checked) auditTrue_own started (by kernel_rfl) Try.func8
    (ChangeSpec.witness6 (enc := enc) (C := Try.checked) false ⟨#[], #[.agg #[.slice none 0 0, .slice none 0 0], .agg #[.int .i64 0, .bool false, .int .i64 0, .bool false, .bool false, .bool false, .bool false, .int .i64 0, .slice none 0 0, .slice none 0 0, .slice none 0 0, .slice none 0 0]], []⟩ 8 (by kernel_rfl) (by kernel_rfl) (by kernel_rfl) (by kernel_rfl))
    (fun W base args ds gs before hval hW _ hsz _ => law_row (te := te) (d := 7) (tb := 4) te_ok auditTrue_laid (by kernel_rfl) (by kernel_rfl) rfl ((te_ok.tells (t := 4) rfl).bool rfl) rfl
      (fun ds h => by match ds, h with | [_, _], _ => exact ⟨rfl, rfl, rfl⟩) auditTrue_ac hval hW hsz)
theorem auditTrue_over : Rows.auditTrueRow.holds Try.pinned (OpenSpec.ofChange Rows.auditTrueSpec) :=
  OpenClaim.holds_of_wide 8 Try.f8 rfl rfl rfl rfl rfl rfl rfl ⟨rfl, rfl, rfl, rfl, rfl⟩ rfl rfl rfl rfl rfl (by kernel_rfl) Try.func8 (by kernel_rfl)
    (of_decide_eq_true (by kernel_rfl)) (by unfold Func.isWrapper; first | (rw [if_pos (by decide +kernel)]; kernel_rfl) | (rw [if_neg (by decide +kernel)]; exact ⟨rfl, rfl⟩))
    (fun os started H enc _ => auditTrue_lifted os started H enc)
end Go.Proofs.Ytokccoloholgaaa.Fw
namespace Go.Proofs.Ytokccoloholgaaa
theorem auditTrue_holds : Rows.AuditTrueSaid := Fw.auditTrue_over
#print axioms auditTrue_holds
end Go.Proofs.Ytokccoloholgaaa
namespace Go.Proofs.Ytokccoloholgaaa.Fw

end Go.Proofs.Ytokccoloholgaaa.Fw
