/- Law EntryTells: whatever the input, the law answers true; no condition. -/
import Derived.Test.YtaemmklgofddmaaCat4
set_option linter.unusedVariables false
set_option linter.unusedSimpArgs false
namespace Go.Proofs.Ytaemmklgofddmaa.Fw
open Go.RowKit
open Go.ChangeShapes Go.WideShapes

set_option maxRecDepth 100000 in
theorem entryTells_ac (l : List AV) (h : HasArgs te 5 Try.f4.params.toList l) : AC Try.prog 4 l emp (Ret (tf true)) := by
  change HasArgs te 5 [38] l at h
  obtain ⟨a0, p0, rfl⟩ := args1 h rfl
  obtain ⟨de, e, rfl, he⟩ := has_ent p0 rfl rfl rfl rfl rfl rfl rfl rfl rfl rfl rfl rfl rfl rfl rfl rfl rfl rfl 
  exact c_ciceronelaw08_EntryTells de e he
theorem entryTells_own : ownKnob Try.prog.godebug = none := by kernel_rfl
theorem entryTells_laid : laidOutB Try.prog = true := by kernel_rfl
set_option maxRecDepth 100000 in
theorem entryTells_lifted (os : Os) (started : os.Started) (H : Type) (enc : TypeId × Value → H) :
    ReturnsInHanded {} Try.checked os 4 .any (Rows.entryTellsSpec.pre6 enc Try.prog Try.f4 Rows.entryTellsRow.domain false) (Rows.entryTellsSpec.post enc Try.prog Try.f4 false true false false) :=
  returnsInHanded_of_change_sized (C := Try.checked) entryTells_own started (by kernel_rfl) Try.func4
    (ChangeSpec.witness6 (enc := enc) (C := Try.checked) false ⟨#[], #[.agg #[.bool false, .string ⟨#[]⟩, .int .i64 0, .int .i64 0, .int .i64 0, .int .i64 0, .int .i64 0, .string ⟨#[]⟩, .slice none 0 0]], []⟩ 8 (by kernel_rfl) (by kernel_rfl) (by kernel_rfl) (by kernel_rfl))
    (fun W base args ds gs before hval hW _ hsz _ => law_row (te := te) (d := 5) (tb := 4) te_ok entryTells_laid (by kernel_rfl) (by kernel_rfl) rfl ((te_ok.tells (t := 4) rfl).bool rfl) rfl
      (fun ds h => by match ds, h with | [_], _ => exact ⟨rfl, rfl, rfl⟩) entryTells_ac hval hW hsz)
theorem entryTells_over : Rows.entryTellsRow.holds Try.pinned (OpenSpec.ofChange Rows.entryTellsSpec) :=
  OpenClaim.holds_of_wide 4 Try.f4 rfl rfl rfl rfl rfl rfl rfl ⟨rfl, rfl, rfl, rfl, rfl⟩ rfl rfl rfl rfl rfl (by kernel_rfl) Try.func4 (by kernel_rfl)
    (of_decide_eq_true (by kernel_rfl)) (by unfold Func.isWrapper; first | (rw [if_pos (by decide +kernel)]; kernel_rfl) | (rw [if_neg (by decide +kernel)]; exact ⟨rfl, rfl⟩))
    (fun os started H enc _ => entryTells_lifted os started H enc)
end Go.Proofs.Ytaemmklgofddmaa.Fw
namespace Go.Proofs.Ytaemmklgofddmaa
theorem entryTells_holds : Rows.EntryTellsSaid := Fw.entryTells_over
#print axioms entryTells_holds
end Go.Proofs.Ytaemmklgofddmaa
namespace Go.Proofs.Ytaemmklgofddmaa.Fw

end Go.Proofs.Ytaemmklgofddmaa.Fw
