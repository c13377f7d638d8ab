/- Law AuditPairs: whatever the input, the law answers true; no condition. -/
import Derived.Test.YtolaeondhhnfoaaCat4
set_option linter.unusedVariables false
set_option linter.unusedSimpArgs false
namespace Go.Proofs.Ytolaeondhhnfoaa.Fw
open Go.RowKit
open Go.ChangeShapes Go.WideShapes

set_option maxRecDepth 100000 in
theorem auditPairs_ac (l : List AV) (h : HasArgs te 7 Try.f3.params.toList l) : AC Try.prog 3 l emp (Ret (tf true)) := by
  change HasArgs te 7 [22] l at h
  obtain ⟨a0, p0, rfl⟩ := args1 h rfl
  obtain ⟨l, rfl, hl⟩ := has_evs p0 rfl rfl rfl rfl rfl rfl rfl rfl rfl rfl rfl rfl rfl rfl rfl rfl rfl rfl rfl rfl rfl rfl rfl rfl rfl rfl rfl rfl rfl rfl 
  exact c_ciceronelaw24_AuditPairs l hl
theorem auditPairs_own : ownKnob Try.prog.godebug = none := by kernel_rfl
theorem auditPairs_laid : laidOutB Try.prog = true := by kernel_rfl
set_option maxRecDepth 100000 in
theorem auditPairs_lifted (os : Os) (started : os.Started) (H : Type) (enc : TypeId × Value → H) :
    ReturnsInHanded {} Try.checked os 3 .any (Rows.auditPairsSpec.pre6 enc Try.prog Try.f3 Rows.auditPairsRow.domain false) (Rows.auditPairsSpec.post enc Try.prog Try.f3 false true false false) :=
  returnsInHanded_of_change_sized (C := Try.checked) auditPairs_own started (by kernel_rfl) Try.func3
    (ChangeSpec.witness6 (enc := enc) (C := Try.checked) false ⟨#[], #[.slice none 0 0], []⟩ 8 (by kernel_rfl) (by kernel_rfl) (by kernel_rfl) (by kernel_rfl))
    (fun W base args ds gs before hval hW _ hsz _ => law_row (te := te) (d := 7) (tb := 4) te_ok auditPairs_laid (by kernel_rfl) (by kernel_rfl) rfl ((te_ok.tells (t := 4) rfl).bool rfl) rfl
      (fun ds h => by match ds, h with | [_], _ => exact ⟨rfl, rfl, rfl⟩) auditPairs_ac hval hW hsz)
theorem auditPairs_over : Rows.auditPairsRow.holds Try.pinned (OpenSpec.ofChange Rows.auditPairsSpec) :=
  OpenClaim.holds_of_wide 3 Try.f3 rfl rfl rfl rfl rfl rfl rfl ⟨rfl, rfl, rfl, rfl, rfl⟩ rfl rfl rfl rfl rfl (by kernel_rfl) Try.func3 (by kernel_rfl)
    (of_decide_eq_true (by kernel_rfl)) (by unfold Func.isWrapper; first | (rw [if_pos (by decide +kernel)]; kernel_rfl) | (rw [if_neg (by decide +kernel)]; exact ⟨rfl, rfl⟩))
    (fun os started H enc _ => auditPairs_lifted os started H enc)
end Go.Proofs.Ytolaeondhhnfoaa.Fw
namespace Go.Proofs.Ytolaeondhhnfoaa
theorem auditPairs_holds : Rows.AuditPairsSaid := Fw.auditPairs_over
#print axioms auditPairs_holds
end Go.Proofs.Ytolaeondhhnfoaa
namespace Go.Proofs.Ytolaeondhhnfoaa.Fw

end Go.Proofs.Ytolaeondhhnfoaa.Fw
