/- Law EntrySame: whatever the input, the law answers true; no condition. -/
import Derived.Test.YtaemmklgofddmaaL08a
import Derived.Test.YtaemmklgofddmaaFwS
set_option linter.unusedVariables false
set_option linter.unusedSimpArgs false
namespace Go.Proofs.Ytaemmklgofddmaa.Fw
open Go.RowKit
open Go.ChangeShapes Go.WideShapes

set_option maxRecDepth 100000 in
theorem entrySame_ac (l : List AV) (h : HasArgs te 4 Try.f5.params.toList l) : AC Try.prog 5 l emp (Ret (tf true)) := by
  change HasArgs te 4 [36, 36] l at h
  obtain ⟨a0, a1, p0, p1, rfl⟩ := args2 h rfl rfl
  obtain ⟨a, rfl, ha⟩ := has_set p0 rfl rfl rfl rfl rfl rfl rfl rfl rfl rfl rfl rfl rfl rfl 
  obtain ⟨b, rfl, hb⟩ := has_set p1 rfl rfl rfl rfl rfl rfl rfl rfl rfl rfl rfl rfl rfl rfl 
  exact c_ciceronelaw08_EntrySame a b ha hb
theorem entrySame_own : ownKnob Try.prog.godebug = none := by kernel_rfl
theorem entrySame_laid : laidOutB Try.prog = true := by kernel_rfl
set_option maxRecDepth 100000 in
theorem entrySame_lifted (os : Os) (started : os.Started) (H : Type) (enc : TypeId × Value → H) :
    ReturnsInHanded {} Try.checked os 5 .any (Rows.entrySameSpec.pre6 enc Try.prog Try.f5 Rows.entrySameRow.domain false) (Rows.entrySameSpec.post enc Try.prog Try.f5 false true false false) :=
  returnsInHanded_of_change_sized (C := Try.checked) entrySame_own started (by kernel_rfl) Try.func5
    (ChangeSpec.witness6 (enc := enc) (C := Try.checked) false ⟨#[], #[.agg #[.string ⟨#[]⟩, .int .i64 0, .int .i64 0, .int .i64 0, .int .i64 0, .int .i64 0, .string ⟨#[]⟩, .slice none 0 0], .agg #[.string ⟨#[]⟩, .int .i64 0, .int .i64 0, .int .i64 0, .int .i64 0, .int .i64 0, .string ⟨#[]⟩, .slice none 0 0]], []⟩ 8 (by kernel_rfl) (by kernel_rfl) (by kernel_rfl) (by kernel_rfl))
    (fun W base args ds gs before hval hW _ hsz _ => law_row (te := te) (d := 4) (tb := 4) te_ok entrySame_laid (by kernel_rfl) (by kernel_rfl) rfl ((te_ok.tells (t := 4) rfl).bool rfl) rfl
      (fun ds h => by match ds, h with | [_, _], _ => exact ⟨rfl, rfl, rfl⟩) entrySame_ac hval hW hsz)
theorem entrySame_over : Rows.entrySameRow.holds Try.pinned (OpenSpec.ofChange Rows.entrySameSpec) :=
  OpenClaim.holds_of_wide 5 Try.f5 rfl rfl rfl rfl rfl rfl rfl ⟨rfl, rfl, rfl, rfl, rfl⟩ rfl rfl rfl rfl rfl (by kernel_rfl) Try.func5 (by kernel_rfl)
    (of_decide_eq_true (by kernel_rfl)) (by unfold Func.isWrapper; first | (rw [if_pos (by decide +kernel)]; kernel_rfl) | (rw [if_neg (by decide +kernel)]; exact ⟨rfl, rfl⟩))
    (fun os started H enc _ => entrySame_lifted os started H enc)
end Go.Proofs.Ytaemmklgofddmaa.Fw
namespace Go.Proofs.Ytaemmklgofddmaa
theorem entrySame_holds : Rows.EntrySameSaid := Fw.entrySame_over
#print axioms entrySame_holds
end Go.Proofs.Ytaemmklgofddmaa
namespace Go.Proofs.Ytaemmklgofddmaa.Fw

end Go.Proofs.Ytaemmklgofddmaa.Fw
