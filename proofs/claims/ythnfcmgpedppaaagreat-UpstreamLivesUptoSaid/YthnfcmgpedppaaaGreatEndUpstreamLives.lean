/- Law UpstreamLives: where what it reads is of bulk at most 1048576, the law answers true. -/
import Derived.Test.YthnfcmgpedppaaaGreatCat14
set_option linter.unusedVariables false
set_option linter.unusedSimpArgs false
namespace Go.Proofs.YthnfcmgpedppaaaGreat.Fw
open Go.RowKit
open Go.ChangeShapes Go.WideShapes

set_option maxRecDepth 100000 in
theorem upstreamLives_ac (l : List AV) (h : Up.HasArgs te 7 Tryz.f3.params.toList l) : AC Tryz.prog 3 l emp (Ret (tf true)) := by
  change Up.HasArgs te 7 [25, 26] l at h
  obtain ⟨a0, a1, p0, p1, rfl⟩ := Up.args2 h rfl rfl
  obtain ⟨t, rfl, ht⟩ := has_tr (has_of p0) rfl rfl rfl rfl rfl rfl rfl rfl rfl rfl rfl rfl rfl rfl rfl rfl rfl rfl rfl rfl rfl rfl rfl rfl rfl rfl rfl rfl rfl 
  obtain ⟨l, rfl, hl⟩ := has_dos p1 rfl rfl rfl rfl rfl rfl rfl rfl rfl rfl rfl rfl rfl rfl rfl rfl rfl rfl rfl rfl rfl rfl rfl rfl rfl rfl rfl rfl rfl 
  exact c_ciceronelaw22_UpstreamLives t l ht hl
theorem upstreamLives_own : ownKnob Tryz.prog.godebug = none := by kernel_rfl
theorem upstreamLives_laid : laidOutB Tryz.prog = true := by kernel_rfl
set_option maxRecDepth 100000 in
theorem upstreamLives_lifted (os : Os) (started : os.Started) (H : Type) (enc : TypeId × Value → H) (F : Stop.Interp) :
    ReturnsInHanded {} Tryz.checked os 3 .any ((Rows.OpenSpec.upto Rows.upstreamLivesSpec).pre6 enc Tryz.prog Tryz.f3 Rows.upstreamLivesUptoRow.domain false) (((Rows.OpenSpec.upto Rows.upstreamLivesSpec).at F).post enc Tryz.prog Tryz.f3 false true false false) := by
  refine returnsInHanded_of_cond (C := Tryz.checked) (s := Rows.OpenSpec.upto Rows.upstreamLivesSpec) (k := Rows.uptoSmall) rfl upstreamLives_own started (by kernel_rfl) Tryz.func3
    (OpenSpec.witness (enc := enc) (C := Tryz.checked) (s := Rows.OpenSpec.upto Rows.upstreamLivesSpec) (k := Rows.uptoSmall) rfl false ⟨#[], #[.agg #[.slice none 0 0, .slice none 0 0], .slice none 0 0], []⟩ 8 (by kernel_rfl) (by kernel_rfl) (by kernel_rfl)
      (x := ([.agg [.nil, .nil], .nil], [], [])) (by kernel_rfl) rfl (by kernel_rfl)) ?_
  intro W base args ds gs before hval hW _ hk _
  exact Up.law_row (te := te) (d := 7) (tb := 4) te_ok upstreamLives_laid (by kernel_rfl) (by kernel_rfl) rfl ((te_ok.tells (t := 4) rfl).bool rfl) rfl
      (fun ds h => by match ds, h with | [_, _], _ => exact ⟨rfl, rfl, rfl⟩) upstreamLives_ac hval hW (Up.sized te_ok (by kernel_rfl) (d := 7) (by kernel_rfl) rfl hk)
theorem upstreamLives_over : Rows.upstreamLivesUptoRow.holds Tryz.pinned (Rows.OpenSpec.upto Rows.upstreamLivesSpec) :=
  OpenClaim.holds_of_cond 3 Tryz.f3 rfl rfl rfl rfl rfl rfl rfl ⟨rfl, rfl, rfl, rfl, rfl⟩ rfl rfl rfl rfl rfl (by kernel_rfl) Tryz.func3 (by kernel_rfl)
    (of_decide_eq_true (by kernel_rfl)) (by unfold Func.isWrapper; first | (rw [if_pos (by decide +kernel)]; kernel_rfl) | (rw [if_neg (by decide +kernel)]; exact ⟨rfl, rfl⟩))
    (fun os started H enc _ F => upstreamLives_lifted os started H enc F)
end Go.Proofs.YthnfcmgpedppaaaGreat.Fw
namespace Go.Proofs.YthnfcmgpedppaaaGreat
theorem upstreamLives_holds : Rows.UpstreamLivesUptoSaid := Fw.upstreamLives_over
#print axioms upstreamLives_holds
end Go.Proofs.YthnfcmgpedppaaaGreat
namespace Go.Proofs.YthnfcmgpedppaaaGreat.Fw

end Go.Proofs.YthnfcmgpedppaaaGreat.Fw
