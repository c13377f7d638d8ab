/- Law RdataTells: whatever the input, the law answers true; no condition. -/
import Derived.Test.YtolaeondhhnfoaaL03b
import Derived.Test.YtolaeondhhnfoaaFwS
set_option linter.unusedVariables false
set_option linter.unusedSimpArgs false
namespace Go.Proofs.Ytolaeondhhnfoaa.Fw
open Go.RowKit
open Go.ChangeShapes Go.WideShapes

set_option maxRecDepth 100000 in
theorem rdataTells_ac (l : List AV) (h : HasArgs te 2 Try.f11.params.toList l) : AC Try.prog 11 l emp (Ret (tf true)) := by
  change HasArgs te 2 [3, 38] l at h
  obtain ⟨a0, a1, p0, p1, rfl⟩ := args2 h rfl rfl
  obtain ⟨t, rfl, ht1, ht2⟩ := has_int p0 rfl rfl
  obtain ⟨d, rfl, hd⟩ := has_bytes p1 rfl rfl rfl rfl rfl
  exact c_ciceronelaw03_RdataTells t d hd
theorem rdataTells_own : ownKnob Try.prog.godebug = none := by kernel_rfl
theorem rdataTells_laid : laidOutB Try.prog = true := by kernel_rfl
set_option maxRecDepth 100000 in
theorem rdataTells_lifted (os : Os) (started : os.Started) (H : Type) (enc : TypeId × Value → H) :
    ReturnsInHanded {} Try.checked os 11 .any (Rows.rdataTellsSpec.pre6 enc Try.prog Try.f11 Rows.rdataTellsRow.domain false) (Rows.rdataTellsSpec.post enc Try.prog Try.f11 false true false false) :=
  returnsInHanded_of_change_sized (C := Try.checked) rdataTells_own started (by kernel_rfl) Try.func11
    (ChangeSpec.witness6 (enc := enc) (C := Try.checked) false ⟨#[], #[.int .i64 0, .slice none 0 0], []⟩ 8 (by kernel_rfl) (by kernel_rfl) (by kernel_rfl) (by kernel_rfl))
    (fun W base args ds gs before hval hW _ hsz _ => law_row (te := te) (d := 2) (tb := 4) te_ok rdataTells_laid (by kernel_rfl) (by kernel_rfl) rfl ((te_ok.tells (t := 4) rfl).bool rfl) rfl
      (fun ds h => by match ds, h with | [_, _], _ => exact ⟨rfl, rfl, rfl⟩) rdataTells_ac hval hW hsz)
theorem rdataTells_over : Rows.rdataTellsRow.holds Try.pinned (OpenSpec.ofChange Rows.rdataTellsSpec) :=
  OpenClaim.holds_of_wide 11 Try.f11 rfl rfl rfl rfl rfl rfl rfl ⟨rfl, rfl, rfl, rfl, rfl⟩ rfl rfl rfl rfl rfl (by kernel_rfl) Try.func11 (by kernel_rfl)
    (of_decide_eq_true (by kernel_rfl)) (by unfold Func.isWrapper; first | (rw [if_pos (by decide +kernel)]; kernel_rfl) | (rw [if_neg (by decide +kernel)]; exact ⟨rfl, rfl⟩))
    (fun os started H enc _ => rdataTells_lifted os started H enc)
end Go.Proofs.Ytolaeondhhnfoaa.Fw
namespace Go.Proofs.Ytolaeondhhnfoaa
theorem rdataTells_holds : Rows.RdataTellsSaid := Fw.rdataTells_over
#print axioms rdataTells_holds
end Go.Proofs.Ytolaeondhhnfoaa
namespace Go.Proofs.Ytolaeondhhnfoaa.Fw

end Go.Proofs.Ytolaeondhhnfoaa.Fw
