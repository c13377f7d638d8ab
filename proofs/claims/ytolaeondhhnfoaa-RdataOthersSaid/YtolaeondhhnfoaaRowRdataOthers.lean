/- Law RdataOthers: whatever the input, the law answers true; no condition. -/
import Derived.Test.YtolaeondhhnfoaaL03
import Derived.Test.YtolaeondhhnfoaaFwS
set_option linter.unusedVariables false
set_option linter.unusedSimpArgs false
namespace Go.Proofs.Ytolaeondhhnfoaa.Fw
open Go.RowKit
open Go.ChangeShapes Go.WideShapes

set_option maxRecDepth 100000 in
theorem rdataOthers_ac (l : List AV) (h : HasArgs te 2 Try.f7.params.toList l) : AC Try.prog 7 l emp (Ret (tf true)) := by
  change HasArgs te 2 [3, 38] l at h
  obtain ⟨a0, a1, p0, p1, rfl⟩ := args2 h rfl rfl
  obtain ⟨t, rfl, ht1, ht2⟩ := has_int p0 rfl rfl
  obtain ⟨b, rfl, hb⟩ := has_bytes p1 rfl rfl rfl rfl rfl
  exact c_ciceronelaw03_RdataOthers t b ⟨ht1, ht2⟩ hb
theorem rdataOthers_own : ownKnob Try.prog.godebug = none := by kernel_rfl
theorem rdataOthers_laid : laidOutB Try.prog = true := by kernel_rfl
set_option maxRecDepth 100000 in
theorem rdataOthers_lifted (os : Os) (started : os.Started) (H : Type) (enc : TypeId × Value → H) :
    ReturnsInHanded {} Try.checked os 7 .any (Rows.rdataOthersSpec.pre6 enc Try.prog Try.f7 Rows.rdataOthersRow.domain false) (Rows.rdataOthersSpec.post enc Try.prog Try.f7 false true false false) :=
  returnsInHanded_of_change_sized (C := Try.checked) rdataOthers_own started (by kernel_rfl) Try.func7
    (ChangeSpec.witness6 (enc := enc) (C := Try.checked) false ⟨#[], #[.int .i64 0, .slice none 0 0], []⟩ 8 (by kernel_rfl) (by kernel_rfl) (by kernel_rfl) (by kernel_rfl))
    (fun W base args ds gs before hval hW _ hsz _ => law_row (te := te) (d := 2) (tb := 4) te_ok rdataOthers_laid (by kernel_rfl) (by kernel_rfl) rfl ((te_ok.tells (t := 4) rfl).bool rfl) rfl
      (fun ds h => by match ds, h with | [_, _], _ => exact ⟨rfl, rfl, rfl⟩) rdataOthers_ac hval hW hsz)
theorem rdataOthers_over : Rows.rdataOthersRow.holds Try.pinned (OpenSpec.ofChange Rows.rdataOthersSpec) :=
  OpenClaim.holds_of_wide 7 Try.f7 rfl rfl rfl rfl rfl rfl rfl ⟨rfl, rfl, rfl, rfl, rfl⟩ rfl rfl rfl rfl rfl (by kernel_rfl) Try.func7 (by kernel_rfl)
    (of_decide_eq_true (by kernel_rfl)) (by unfold Func.isWrapper; first | (rw [if_pos (by decide +kernel)]; kernel_rfl) | (rw [if_neg (by decide +kernel)]; exact ⟨rfl, rfl⟩))
    (fun os started H enc _ => rdataOthers_lifted os started H enc)
end Go.Proofs.Ytolaeondhhnfoaa.Fw
namespace Go.Proofs.Ytolaeondhhnfoaa
theorem rdataOthers_holds : Rows.RdataOthersSaid := Fw.rdataOthers_over
#print axioms rdataOthers_holds
end Go.Proofs.Ytolaeondhhnfoaa
namespace Go.Proofs.Ytolaeondhhnfoaa.Fw

end Go.Proofs.Ytolaeondhhnfoaa.Fw
