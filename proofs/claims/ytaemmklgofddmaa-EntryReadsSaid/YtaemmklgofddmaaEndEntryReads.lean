/- Law EntryReads: whatever the input, the law answers true; no condition. -/
import Derived.Test.YtaemmklgofddmaaCat5
set_option linter.unusedVariables false
set_option linter.unusedSimpArgs false
namespace Go.Proofs.Ytaemmklgofddmaa.Fw
open Go.RowKit
open Go.ChangeShapes Go.WideShapes

set_option maxRecDepth 100000 in
theorem entryReads_ac (l : List AV) (h : HasArgs te 2 Try.f6.params.toList l) : AC Try.prog 6 l emp (Ret (tf true)) := by
  change HasArgs te 2 [40] l at h
  obtain ⟨a0, p0, rfl⟩ := args1 h rfl
  obtain ⟨b, rfl, hb⟩ := has_bytes p0 rfl rfl rfl rfl rfl
  exact c_ciceronelaw08_EntryReads b hb
theorem entryReads_own : ownKnob Try.prog.godebug = none := by kernel_rfl
theorem entryReads_laid : laidOutB Try.prog = true := by kernel_rfl
set_option maxRecDepth 100000 in
theorem entryReads_lifted (os : Os) (started : os.Started) (H : Type) (enc : TypeId × Value → H) :
    ReturnsInHanded {} Try.checked os 6 .any (Rows.entryReadsSpec.pre6 enc Try.prog Try.f6 Rows.entryReadsRow.domain false) (Rows.entryReadsSpec.post enc Try.prog Try.f6 false true false false) :=
  returnsInHanded_of_change_sized (C := Try.checked) entryReads_own started (by kernel_rfl) Try.func6
    (ChangeSpec.witness6 (enc := enc) (C := Try.checked) false ⟨#[], #[.slice none 0 0], []⟩ 8 (by kernel_rfl) (by kernel_rfl) (by kernel_rfl) (by kernel_rfl))
    (fun W base args ds gs before hval hW _ hsz _ => law_row (te := te) (d := 2) (tb := 4) te_ok entryReads_laid (by kernel_rfl) (by kernel_rfl) rfl ((te_ok.tells (t := 4) rfl).bool rfl) rfl
      (fun ds h => by match ds, h with | [_], _ => exact ⟨rfl, rfl, rfl⟩) entryReads_ac hval hW hsz)
theorem entryReads_over : Rows.entryReadsRow.holds Try.pinned (OpenSpec.ofChange Rows.entryReadsSpec) :=
  OpenClaim.holds_of_wide 6 Try.f6 rfl rfl rfl rfl rfl rfl rfl ⟨rfl, rfl, rfl, rfl, rfl⟩ rfl rfl rfl rfl rfl (by kernel_rfl) Try.func6 (by kernel_rfl)
    (of_decide_eq_true (by kernel_rfl)) (by unfold Func.isWrapper; first | (rw [if_pos (by decide +kernel)]; kernel_rfl) | (rw [if_neg (by decide +kernel)]; exact ⟨rfl, rfl⟩))
    (fun os started H enc _ => entryReads_lifted os started H enc)
end Go.Proofs.Ytaemmklgofddmaa.Fw
namespace Go.Proofs.Ytaemmklgofddmaa
theorem entryReads_holds : Rows.EntryReadsSaid := Fw.entryReads_over
#print axioms entryReads_holds
end Go.Proofs.Ytaemmklgofddmaa
namespace Go.Proofs.Ytaemmklgofddmaa.Fw

end Go.Proofs.Ytaemmklgofddmaa.Fw
