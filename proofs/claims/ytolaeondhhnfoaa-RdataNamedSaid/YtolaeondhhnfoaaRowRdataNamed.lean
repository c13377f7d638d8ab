/- Law RdataNamed: whatever the input, the law answers true; no condition. -/
import Derived.Test.YtolaeondhhnfoaaL03
import Derived.Test.YtolaeondhhnfoaaFwS
set_option linter.unusedVariables false
set_option linter.unusedSimpArgs false
namespace Go.Proofs.Ytolaeondhhnfoaa.Fw
open Go.RowKit
open Go.ChangeShapes Go.WideShapes

set_option maxRecDepth 100000 in
theorem rdataNamed_ac (l : List AV) (h : HasArgs te 2 Try.f10.params.toList l) : AC Try.prog 10 l emp (Ret (tf true)) := by
  change HasArgs te 2 [38, 3] l at h
  obtain ⟨a0, a1, p0, p1, rfl⟩ := args2 h rfl rfl
  obtain ⟨a, rfl, ha⟩ := has_bytes p0 rfl rfl rfl rfl rfl
  obtain ⟨t, rfl, ht1, ht2⟩ := has_int p1 rfl rfl
  exact c_ciceronelaw03_RdataNamed a t ⟨ht1, ht2⟩ ha
theorem rdataNamed_own : ownKnob Try.prog.godebug = none := by kernel_rfl
theorem rdataNamed_laid : laidOutB Try.prog = true := by kernel_rfl
set_option maxRecDepth 100000 in
theorem rdataNamed_lifted (os : Os) (started : os.Started) (H : Type) (enc : TypeId × Value → H) :
    ReturnsInHanded {} Try.checked os 10 .any (Rows.rdataNamedSpec.pre6 enc Try.prog Try.f10 Rows.rdataNamedRow.domain false) (Rows.rdataNamedSpec.post enc Try.prog Try.f10 false true false false) :=
  returnsInHanded_of_change_sized (C := Try.checked) rdataNamed_own started (by kernel_rfl) Try.func10
    (ChangeSpec.witness6 (enc := enc) (C := Try.checked) false ⟨#[], #[.slice none 0 0, .int .i64 0], []⟩ 8 (by kernel_rfl) (by kernel_rfl) (by kernel_rfl) (by kernel_rfl))
    (fun W base args ds gs before hval hW _ hsz _ => law_row (te := te) (d := 2) (tb := 4) te_ok rdataNamed_laid (by kernel_rfl) (by kernel_rfl) rfl ((te_ok.tells (t := 4) rfl).bool rfl) rfl
      (fun ds h => by match ds, h with | [_, _], _ => exact ⟨rfl, rfl, rfl⟩) rdataNamed_ac hval hW hsz)
theorem rdataNamed_over : Rows.rdataNamedRow.holds Try.pinned (OpenSpec.ofChange Rows.rdataNamedSpec) :=
  OpenClaim.holds_of_wide 10 Try.f10 rfl rfl rfl rfl rfl rfl rfl ⟨rfl, rfl, rfl, rfl, rfl⟩ rfl rfl rfl rfl rfl (by kernel_rfl) Try.func10 (by kernel_rfl)
    (of_decide_eq_true (by kernel_rfl)) (by unfold Func.isWrapper; first | (rw [if_pos (by decide +kernel)]; kernel_rfl) | (rw [if_neg (by decide +kernel)]; exact ⟨rfl, rfl⟩))
    (fun os started H enc _ => rdataNamed_lifted os started H enc)
end Go.Proofs.Ytolaeondhhnfoaa.Fw
namespace Go.Proofs.Ytolaeondhhnfoaa
theorem rdataNamed_holds : Rows.RdataNamedSaid := Fw.rdataNamed_over
#print axioms rdataNamed_holds
end Go.Proofs.Ytolaeondhhnfoaa
namespace Go.Proofs.Ytolaeondhhnfoaa.Fw

end Go.Proofs.Ytolaeondhhnfoaa.Fw
