/- Law 11, PrefixWrites: whatever the bytes, the law answers true; no condition. -/
import Derived.Test.YtahkngplohnliaaLwPrefix
import Derived.Test.YtahkngplohnliaaFwS
set_option linter.unusedVariables false
set_option linter.unusedSimpArgs false
namespace Go.Proofs.Ytahkngplohnliaa.Fw
open Go.RowKit

open Go.ChangeShapes Go.WideShapes


theorem prefixWrites_ac (l : List AV) (h : HasArgs te 2 Try.f3.params.toList l) : AC Try.prog 3 l emp (Ret (tf true)) := by
  match l, h with
  | [a], ⟨⟨i, cs, hg, hh, ha⟩, _⟩ =>
    cases hg
    subst ha
    obtain ⟨b, rfl, _⟩ := has_bytes hh rfl rfl rfl rfl rfl
    exact c_ciceronelaw11_PrefixWrites b
theorem prefixWrites_own : ownKnob Try.prog.godebug = none := by kernel_rfl
theorem prefixWrites_laid : laidOutB Try.prog = true := by kernel_rfl
set_option maxRecDepth 100000 in
theorem prefixWrites_lifted (os : Os) (started : os.Started) (H : Type) (enc : TypeId × Value → H) :
    ReturnsInHanded {} Try.checked os 3 .any (Rows.prefixWritesSpec.pre6 enc Try.prog Try.f3 Rows.prefixWritesRow.domain false) (Rows.prefixWritesSpec.post enc Try.prog Try.f3 false true false false) :=
  returnsInHanded_of_change_sized (C := Try.checked) prefixWrites_own started (by kernel_rfl) Try.func3
    (ChangeSpec.witness6 (enc := enc) (C := Try.checked) false ⟨#[], #[.slice none 0 0], []⟩ 8 (by kernel_rfl) (by kernel_rfl) (by kernel_rfl) (by kernel_rfl))
    (fun W base args ds gs before hval hW _ hsz _ => law_row (te := te) (d := 2) (tb := 4) te_ok prefixWrites_laid (by kernel_rfl) (by kernel_rfl) rfl ((te_ok.tells (t := 4) rfl).bool rfl) rfl
      (fun ds h => by match ds, h with | [_], _ => exact ⟨rfl, rfl, rfl⟩) prefixWrites_ac hval hW hsz)
theorem prefixWrites_over : Rows.prefixWritesRow.holds Try.pinned (OpenSpec.ofChange Rows.prefixWritesSpec) :=
  OpenClaim.holds_of_wide 3 Try.f3 rfl rfl rfl rfl rfl rfl rfl ⟨rfl, rfl, rfl, rfl, rfl⟩ rfl rfl rfl rfl rfl (by kernel_rfl) Try.func3 (by kernel_rfl)
    (of_decide_eq_true (by kernel_rfl)) (by unfold Func.isWrapper; first | (rw [if_pos (by decide +kernel)]; kernel_rfl) | (rw [if_neg (by decide +kernel)]; exact ⟨rfl, rfl⟩))
    (fun os started H enc _ => prefixWrites_lifted os started H enc)
end Go.Proofs.Ytahkngplohnliaa.Fw
namespace Go.Proofs.Ytahkngplohnliaa
theorem prefixWrites_holds : Rows.PrefixWritesSaid := Fw.prefixWrites_over
#print axioms prefixWrites_holds
end Go.Proofs.Ytahkngplohnliaa
namespace Go.Proofs.Ytahkngplohnliaa.Fw

end Go.Proofs.Ytahkngplohnliaa.Fw
