/- Law ZoneRefers: whatever the input, the law answers true; no condition. -/
import Derived.Test.YtokccoloholgaaaCat5
set_option linter.unusedVariables false
set_option linter.unusedSimpArgs false
namespace Go.Proofs.Ytokccoloholgaaa.Fw
open Go.RowKit
open Go.ChangeShapes Go.WideShapes

set_option maxRecDepth 100000 in
theorem zoneRefers_ac (l : List AV) (h : HasArgs te 7 Try.f5.params.toList l) : AC Try.prog 5 l emp (Ret (tf true)) := by
  change HasArgs te 7 [25, 3, 5] l at h
  obtain ⟨a0, a1, a2, p0, p1, p2, rfl⟩ := args3 h rfl rfl rfl
  obtain ⟨t, rfl, ht⟩ := has_tr p0 rfl rfl rfl rfl rfl rfl rfl rfl rfl rfl rfl rfl rfl rfl rfl rfl rfl rfl rfl rfl rfl rfl rfl rfl rfl rfl rfl rfl rfl 
  obtain ⟨y, rfl, hy1, hy2⟩ := has_int p1 rfl rfl
  obtain ⟨c, rfl⟩ := has_u8 p2 rfl rfl
  exact c_ciceronelaw18_ZoneRefers t y c ht
theorem zoneRefers_own : ownKnob Try.prog.godebug = none := by kernel_rfl
theorem zoneRefers_laid : laidOutB Try.prog = true := by kernel_rfl
set_option maxRecDepth 100000 in
theorem zoneRefers_lifted (os : Os) (started : os.Started) (H : Type) (enc : TypeId × Value → H) :
    ReturnsInHanded {} Try.checked os 5 .any (Rows.zoneRefersSpec.pre6 enc Try.prog Try.f5 Rows.zoneRefersRow.domain false) (Rows.zoneRefersSpec.post enc Try.prog Try.f5 false true false false) :=
  returnsInHanded_of_change_sized (C := Try.checked) zoneRefers_own started (by kernel_rfl) Try.func5
    (ChangeSpec.witness6 (enc := enc) (C := Try.checked) false ⟨#[], #[.agg #[.slice none 0 0, .slice none 0 0], .int .i64 0, .int .u8 0], []⟩ 8 (by kernel_rfl) (by kernel_rfl) (by kernel_rfl) (by kernel_rfl))
    (fun W base args ds gs before hval hW _ hsz _ => law_row (te := te) (d := 7) (tb := 4) te_ok zoneRefers_laid (by kernel_rfl) (by kernel_rfl) rfl ((te_ok.tells (t := 4) rfl).bool rfl) rfl
      (fun ds h => by match ds, h with | [_, _, _], _ => exact ⟨rfl, rfl, rfl⟩) zoneRefers_ac hval hW hsz)
theorem zoneRefers_over : Rows.zoneRefersRow.holds Try.pinned (OpenSpec.ofChange Rows.zoneRefersSpec) :=
  OpenClaim.holds_of_wide 5 Try.f5 rfl rfl rfl rfl rfl rfl rfl ⟨rfl, rfl, rfl, rfl, rfl⟩ rfl rfl rfl rfl rfl (by kernel_rfl) Try.func5 (by kernel_rfl)
    (of_decide_eq_true (by kernel_rfl)) (by unfold Func.isWrapper; first | (rw [if_pos (by decide +kernel)]; kernel_rfl) | (rw [if_neg (by decide +kernel)]; exact ⟨rfl, rfl⟩))
    (fun os started H enc _ => zoneRefers_lifted os started H enc)
end Go.Proofs.Ytokccoloholgaaa.Fw
namespace Go.Proofs.Ytokccoloholgaaa
theorem zoneRefers_holds : Rows.ZoneRefersSaid := Fw.zoneRefers_over
#print axioms zoneRefers_holds
end Go.Proofs.Ytokccoloholgaaa
namespace Go.Proofs.Ytokccoloholgaaa.Fw

end Go.Proofs.Ytokccoloholgaaa.Fw
