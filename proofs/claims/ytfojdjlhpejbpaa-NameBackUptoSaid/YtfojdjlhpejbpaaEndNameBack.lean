/- Law NameBack: where what it reads is of bulk at most 1048576, the law answers true. -/
import Derived.Test.YtfojdjlhpejbpaaCat3
set_option linter.unusedVariables false
set_option linter.unusedSimpArgs false
namespace Go.Proofs.Ytfojdjlhpejbpaa.Fw
open Go.RowKit
open Go.ChangeShapes Go.WideShapes

set_option maxRecDepth 100000 in
theorem nameBack_ac (l : List AV) (h : Up.HasArgs te 1 Try.f10.params.toList l) : AC Try.prog 10 l emp (Ret (tf true)) := by
  change Up.HasArgs te 1 [9, 9] l at h
  obtain ⟨a0, a1, p0, p1, rfl⟩ := Up.args2 h rfl rfl
  obtain ⟨n, rfl, hn⟩ := Up.has_str p0 rfl rfl
  obtain ⟨t, rfl, ht⟩ := Up.has_str p1 rfl rfl
  exact c_ciceronelaw01_NameBack n t (by omega) (by omega)
theorem nameBack_own : ownKnob Try.prog.godebug = none := by kernel_rfl
theorem nameBack_laid : laidOutB Try.prog = true := by kernel_rfl
set_option maxRecDepth 100000 in
theorem nameBack_lifted (os : Os) (started : os.Started) (H : Type) (enc : TypeId × Value → H) (F : Stop.Interp) :
    ReturnsInHanded {} Try.checked os 10 .any ((Rows.OpenSpec.upto Rows.nameBackSpec).pre6 enc Try.prog Try.f10 Rows.nameBackUptoRow.domain false) (((Rows.OpenSpec.upto Rows.nameBackSpec).at F).post enc Try.prog Try.f10 false true false false) := by
  refine returnsInHanded_of_cond (C := Try.checked) (s := Rows.OpenSpec.upto Rows.nameBackSpec) (k := Rows.uptoSmall) rfl nameBack_own started (by kernel_rfl) Try.func10
    (OpenSpec.witness (enc := enc) (C := Try.checked) (s := Rows.OpenSpec.upto Rows.nameBackSpec) (k := Rows.uptoSmall) rfl false ⟨#[], #[.string ⟨#[]⟩, .string ⟨#[]⟩], []⟩ 8 (by kernel_rfl) (by kernel_rfl) (by kernel_rfl)
      (x := ([.lit (.string []), .lit (.string [])], [], [])) (by kernel_rfl) rfl (by kernel_rfl)) ?_
  intro W base args ds gs before hval hW _ hk _
  exact Up.law_row (te := te) (d := 1) (tb := 4) te_ok nameBack_laid (by kernel_rfl) (by kernel_rfl) rfl ((te_ok.tells (t := 4) rfl).bool rfl) rfl
      (fun ds h => by match ds, h with | [_, _], _ => exact ⟨rfl, rfl, rfl⟩) nameBack_ac hval hW (Up.sized te_ok (by kernel_rfl) (d := 1) (by kernel_rfl) rfl hk)
theorem nameBack_over : Rows.nameBackUptoRow.holds Try.pinned (Rows.OpenSpec.upto Rows.nameBackSpec) :=
  OpenClaim.holds_of_cond 10 Try.f10 rfl rfl rfl rfl rfl rfl rfl ⟨rfl, rfl, rfl, rfl, rfl⟩ rfl rfl rfl rfl rfl (by kernel_rfl) Try.func10 (by kernel_rfl)
    (of_decide_eq_true (by kernel_rfl)) (by unfold Func.isWrapper; first | (rw [if_pos (by decide +kernel)]; kernel_rfl) | (rw [if_neg (by decide +kernel)]; exact ⟨rfl, rfl⟩))
    (fun os started H enc _ F => nameBack_lifted os started H enc F)
end Go.Proofs.Ytfojdjlhpejbpaa.Fw
namespace Go.Proofs.Ytfojdjlhpejbpaa
theorem nameBack_holds : Rows.NameBackUptoSaid := Fw.nameBack_over
#print axioms nameBack_holds
end Go.Proofs.Ytfojdjlhpejbpaa
namespace Go.Proofs.Ytfojdjlhpejbpaa.Fw

end Go.Proofs.Ytfojdjlhpejbpaa.Fw
