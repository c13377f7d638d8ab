/- Law PrefixBack: whatever the input, the law answers true; no condition. -/
import Derived.Test.YtahkngplohnliaaL11b
import Derived.Test.YtahkngplohnliaaFwS
set_option linter.unusedVariables false
set_option linter.unusedSimpArgs false
namespace Go.Proofs.Ytahkngplohnliaa.Fw
open Go.RowKit
open Go.ChangeShapes Go.WideShapes

set_option maxRecDepth 100000 in
theorem prefixBack_ac (l : List AV) (h : HasArgs te 3 Try.f9.params.toList l) : AC Try.prog 9 l emp (Ret (tf true)) := by
  change HasArgs te 3 [39, 35] l at h
  obtain ⟨a0, a1, p0, p1, rfl⟩ := args2 h rfl rfl
  obtain ⟨l, rfl, hl, hb⟩ := has_bytess p0 rfl rfl rfl rfl rfl rfl rfl rfl
  obtain ⟨c, rfl, hc, _⟩ := has_intsc p1 rfl rfl rfl rfl rfl
  exact c_ciceronelaw11_PrefixBack l c (by omega) hb (by omega)
theorem prefixBack_own : ownKnob Try.prog.godebug = none := by kernel_rfl
theorem prefixBack_laid : laidOutB Try.prog = true := by kernel_rfl
set_option maxRecDepth 100000 in
theorem prefixBack_lifted (os : Os) (started : os.Started) (H : Type) (enc : TypeId × Value → H) :
    ReturnsInHanded {} Try.checked os 9 .any (Rows.prefixBackSpec.pre6 enc Try.prog Try.f9 Rows.prefixBackRow.domain false) (Rows.prefixBackSpec.post enc Try.prog Try.f9 false true false false) :=
  returnsInHanded_of_change_sized (C := Try.checked) prefixBack_own started (by kernel_rfl) Try.func9
    (ChangeSpec.witness6 (enc := enc) (C := Try.checked) false ⟨#[], #[.slice none 0 0, .slice none 0 0], []⟩ 8 (by kernel_rfl) (by kernel_rfl) (by kernel_rfl) (by kernel_rfl))
    (fun W base args ds gs before hval hW _ hsz _ => law_row (te := te) (d := 3) (tb := 4) te_ok prefixBack_laid (by kernel_rfl) (by kernel_rfl) rfl ((te_ok.tells (t := 4) rfl).bool rfl) rfl
      (fun ds h => by match ds, h with | [_, _], _ => exact ⟨rfl, rfl, rfl⟩) prefixBack_ac hval hW hsz)
theorem prefixBack_over : Rows.prefixBackRow.holds Try.pinned (OpenSpec.ofChange Rows.prefixBackSpec) :=
  OpenClaim.holds_of_wide 9 Try.f9 rfl rfl rfl rfl rfl rfl rfl ⟨rfl, rfl, rfl, rfl, rfl⟩ rfl rfl rfl rfl rfl (by kernel_rfl) Try.func9 (by kernel_rfl)
    (of_decide_eq_true (by kernel_rfl)) (by unfold Func.isWrapper; first | (rw [if_pos (by decide +kernel)]; kernel_rfl) | (rw [if_neg (by decide +kernel)]; exact ⟨rfl, rfl⟩))
    (fun os started H enc _ => prefixBack_lifted os started H enc)
end Go.Proofs.Ytahkngplohnliaa.Fw
namespace Go.Proofs.Ytahkngplohnliaa
theorem prefixBack_holds : Rows.PrefixBackSaid := Fw.prefixBack_over
#print axioms prefixBack_holds
end Go.Proofs.Ytahkngplohnliaa
namespace Go.Proofs.Ytahkngplohnliaa.Fw

end Go.Proofs.Ytahkngplohnliaa.Fw
