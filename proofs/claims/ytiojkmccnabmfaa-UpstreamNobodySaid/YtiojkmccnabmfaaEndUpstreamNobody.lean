/- Law UpstreamNobody: whatever the input, the law answers true; no condition. -/
import Derived.Test.YtiojkmccnabmfaaCat3
set_option linter.unusedVariables false
set_option linter.unusedSimpArgs false
namespace Go.Proofs.Ytiojkmccnabmfaa.Fw
open Go.RowKit
open Go.ChangeShapes Go.WideShapes

set_option maxRecDepth 100000 in
theorem upstreamNobody_ac (l : List AV) (h : HasArgs te 6 Try.f3.params.toList l) : AC Try.prog 3 l emp (Ret (tf true)) := by
  change HasArgs te 6 [30] l at h
  obtain ⟨a0, p0, rfl⟩ := args1 h rfl
  obtain ⟨c, a, b, m, k, f, rfl⟩ := has_do p0 rfl rfl rfl rfl rfl rfl rfl rfl rfl rfl rfl rfl rfl rfl rfl rfl rfl rfl rfl rfl rfl rfl rfl rfl rfl rfl rfl 
  exact c_ciceronelaw22_UpstreamNobody c a b m k f
theorem upstreamNobody_own : ownKnob Try.prog.godebug = none := by kernel_rfl
theorem upstreamNobody_laid : laidOutB Try.prog = true := by kernel_rfl
set_option maxRecDepth 100000 in
theorem upstreamNobody_lifted (os : Os) (started : os.Started) (H : Type) (enc : TypeId × Value → H) :
    ReturnsInHanded {} Try.checked os 3 .any (Rows.upstreamNobodySpec.pre6 enc Try.prog Try.f3 Rows.upstreamNobodyRow.domain false) (Rows.upstreamNobodySpec.post enc Try.prog Try.f3 false true false false) :=
  returnsInHanded_of_change_sized (C := Try.checked) upstreamNobody_own started (by kernel_rfl) Try.func3
    (ChangeSpec.witness6 (enc := enc) (C := Try.checked) false ⟨#[], #[.agg #[.int .i64 0, .int .i64 0, .slice none 0 0, .int .i64 0, .bool false, .int .i64 0, .bool false, .bool false, .bool false, .bool false, .int .i64 0, .slice none 0 0, .slice none 0 0, .slice none 0 0, .slice none 0 0, .int .i64 0, .bool false]], []⟩ 8 (by kernel_rfl) (by kernel_rfl) (by kernel_rfl) (by kernel_rfl))
    (fun W base args ds gs before hval hW _ hsz _ => law_row (te := te) (d := 6) (tb := 4) te_ok upstreamNobody_laid (by kernel_rfl) (by kernel_rfl) rfl ((te_ok.tells (t := 4) rfl).bool rfl) rfl
      (fun ds h => by match ds, h with | [_], _ => exact ⟨rfl, rfl, rfl⟩) upstreamNobody_ac hval hW hsz)
theorem upstreamNobody_over : Rows.upstreamNobodyRow.holds Try.pinned (OpenSpec.ofChange Rows.upstreamNobodySpec) :=
  OpenClaim.holds_of_wide 3 Try.f3 rfl rfl rfl rfl rfl rfl rfl ⟨rfl, rfl, rfl, rfl, rfl⟩ rfl rfl rfl rfl rfl (by kernel_rfl) Try.func3 (by kernel_rfl)
    (of_decide_eq_true (by kernel_rfl)) (by unfold Func.isWrapper; first | (rw [if_pos (by decide +kernel)]; kernel_rfl) | (rw [if_neg (by decide +kernel)]; exact ⟨rfl, rfl⟩))
    (fun os started H enc _ => upstreamNobody_lifted os started H enc)
end Go.Proofs.Ytiojkmccnabmfaa.Fw
namespace Go.Proofs.Ytiojkmccnabmfaa
theorem upstreamNobody_holds : Rows.UpstreamNobodySaid := Fw.upstreamNobody_over
#print axioms upstreamNobody_holds
end Go.Proofs.Ytiojkmccnabmfaa
namespace Go.Proofs.Ytiojkmccnabmfaa.Fw

end Go.Proofs.Ytiojkmccnabmfaa.Fw
