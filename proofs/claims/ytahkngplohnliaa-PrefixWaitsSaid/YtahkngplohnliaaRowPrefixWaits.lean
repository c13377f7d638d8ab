/- Law PrefixWaits: whatever the input, the law answers true; no condition. -/
import Derived.Test.YtahkngplohnliaaL11a
import Derived.Test.YtahkngplohnliaaFwS
set_option linter.unusedVariables false
set_option linter.unusedSimpArgs false
namespace Go.Proofs.Ytahkngplohnliaa.Fw
open Go.RowKit
open Go.ChangeShapes Go.WideShapes

set_option maxRecDepth 100000 in
theorem prefixWaits_ac (l : List AV) (h : HasArgs te 2 Try.f6.params.toList l) : AC Try.prog 6 l emp (Ret (tf true)) := by
  change HasArgs te 2 [22, 3] l at h
  obtain ⟨a0, a1, p0, p1, rfl⟩ := args2 h rfl rfl
  obtain ⟨b, rfl, hb⟩ := has_bytes p0 rfl rfl rfl rfl rfl
  obtain ⟨n, rfl, hn1, hn2⟩ := has_int p1 rfl rfl
  exact c_ciceronelaw11_PrefixWaits b n hb
theorem prefixWaits_own : ownKnob Try.prog.godebug = none := by kernel_rfl
theorem prefixWaits_laid : laidOutB Try.prog = true := by kernel_rfl
set_option maxRecDepth 100000 in
theorem prefixWaits_lifted (os : Os) (started : os.Started) (H : Type) (enc : TypeId × Value → H) :
    ReturnsInHanded {} Try.checked os 6 .any (Rows.prefixWaitsSpec.pre6 enc Try.prog Try.f6 Rows.prefixWaitsRow.domain false) (Rows.prefixWaitsSpec.post enc Try.prog Try.f6 false true false false) :=
  returnsInHanded_of_change_sized (C := Try.checked) prefixWaits_own started (by kernel_rfl) Try.func6
    (ChangeSpec.witness6 (enc := enc) (C := Try.checked) false ⟨#[], #[.slice none 0 0, .int .i64 0], []⟩ 8 (by kernel_rfl) (by kernel_rfl) (by kernel_rfl) (by kernel_rfl))
    (fun W base args ds gs before hval hW _ hsz _ => law_row (te := te) (d := 2) (tb := 4) te_ok prefixWaits_laid (by kernel_rfl) (by kernel_rfl) rfl ((te_ok.tells (t := 4) rfl).bool rfl) rfl
      (fun ds h => by match ds, h with | [_, _], _ => exact ⟨rfl, rfl, rfl⟩) prefixWaits_ac hval hW hsz)
theorem prefixWaits_over : Rows.prefixWaitsRow.holds Try.pinned (OpenSpec.ofChange Rows.prefixWaitsSpec) :=
  OpenClaim.holds_of_wide 6 Try.f6 rfl rfl rfl rfl rfl rfl rfl ⟨rfl, rfl, rfl, rfl, rfl⟩ rfl rfl rfl rfl rfl (by kernel_rfl) Try.func6 (by kernel_rfl)
    (of_decide_eq_true (by kernel_rfl)) (by unfold Func.isWrapper; first | (rw [if_pos (by decide +kernel)]; kernel_rfl) | (rw [if_neg (by decide +kernel)]; exact ⟨rfl, rfl⟩))
    (fun os started H enc _ => prefixWaits_lifted os started H enc)
end Go.Proofs.Ytahkngplohnliaa.Fw
namespace Go.Proofs.Ytahkngplohnliaa
theorem prefixWaits_holds : Rows.PrefixWaitsSaid := Fw.prefixWaits_over
#print axioms prefixWaits_holds
end Go.Proofs.Ytahkngplohnliaa
namespace Go.Proofs.Ytahkngplohnliaa.Fw

end Go.Proofs.Ytahkngplohnliaa.Fw
