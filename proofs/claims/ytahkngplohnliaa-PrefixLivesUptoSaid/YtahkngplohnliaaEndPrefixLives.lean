/- Law PrefixLives: where what it reads is of bulk at most 1048576, the law answers true. -/
import Derived.Test.YtahkngplohnliaaCat2
set_option linter.unusedVariables false
set_option linter.unusedSimpArgs false
namespace Go.Proofs.Ytahkngplohnliaa.Fw
open Go.RowKit
open Go.ChangeShapes Go.WideShapes

set_option maxRecDepth 100000 in
theorem prefixLives_ac (l : List AV) (h : Up.HasArgs te 3 Try.f7.params.toList l) : AC Try.prog 7 l emp (Ret (tf true)) := by
  change Up.HasArgs te 3 [39] l at h
  obtain ⟨a0, p0, rfl⟩ := Up.args1 h rfl
  obtain ⟨l, rfl, h1, h2⟩ := Up.has_bytess p0 rfl rfl rfl rfl rfl rfl rfl rfl
  exact c_ciceronelaw11_PrefixLives l (by omega) h2
theorem prefixLives_own : ownKnob Try.prog.godebug = none := by kernel_rfl
theorem prefixLives_laid : laidOutB Try.prog = true := by kernel_rfl
set_option maxRecDepth 100000 in
theorem prefixLives_lifted (os : Os) (started : os.Started) (H : Type) (enc : TypeId × Value → H) (F : Stop.Interp) :
    ReturnsInHanded {} Try.checked os 7 .any ((Rows.OpenSpec.upto Rows.prefixLivesSpec).pre6 enc Try.prog Try.f7 Rows.prefixLivesUptoRow.domain false) (((Rows.OpenSpec.upto Rows.prefixLivesSpec).at F).post enc Try.prog Try.f7 false true false false) := by
  refine returnsInHanded_of_cond (C := Try.checked) (s := Rows.OpenSpec.upto Rows.prefixLivesSpec) (k := Rows.uptoSmall) rfl prefixLives_own started (by kernel_rfl) Try.func7
    (OpenSpec.witness (enc := enc) (C := Try.checked) (s := Rows.OpenSpec.upto Rows.prefixLivesSpec) (k := Rows.uptoSmall) rfl false ⟨#[], #[.slice none 0 0], []⟩ 8 (by kernel_rfl) (by kernel_rfl) (by kernel_rfl)
      (x := ([.nil], [], [])) (by kernel_rfl) rfl (by kernel_rfl)) ?_
  intro W base args ds gs before hval hW _ hk _
  exact Up.law_row (te := te) (d := 3) (tb := 4) te_ok prefixLives_laid (by kernel_rfl) (by kernel_rfl) rfl ((te_ok.tells (t := 4) rfl).bool rfl) rfl
      (fun ds h => by match ds, h with | [_], _ => exact ⟨rfl, rfl, rfl⟩) prefixLives_ac hval hW (Up.sized te_ok (by kernel_rfl) (d := 3) (by kernel_rfl) rfl hk)
theorem prefixLives_over : Rows.prefixLivesUptoRow.holds Try.pinned (Rows.OpenSpec.upto Rows.prefixLivesSpec) :=
  OpenClaim.holds_of_cond 7 Try.f7 rfl rfl rfl rfl rfl rfl rfl ⟨rfl, rfl, rfl, rfl, rfl⟩ rfl rfl rfl rfl rfl (by kernel_rfl) Try.func7 (by kernel_rfl)
    (of_decide_eq_true (by kernel_rfl)) (by unfold Func.isWrapper; first | (rw [if_pos (by decide +kernel)]; kernel_rfl) | (rw [if_neg (by decide +kernel)]; exact ⟨rfl, rfl⟩))
    (fun os started H enc _ F => prefixLives_lifted os started H enc F)
end Go.Proofs.Ytahkngplohnliaa.Fw
namespace Go.Proofs.Ytahkngplohnliaa
theorem prefixLives_holds : Rows.PrefixLivesUptoSaid := Fw.prefixLives_over
#print axioms prefixLives_holds
end Go.Proofs.Ytahkngplohnliaa
namespace Go.Proofs.Ytahkngplohnliaa.Fw

end Go.Proofs.Ytahkngplohnliaa.Fw
