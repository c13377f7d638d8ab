/- Law EntryBack: whatever the input, the law answers true; no condition. -/
import Derived.Test.YtaemmklgofddmaaCat5
set_option linter.unusedVariables false
set_option linter.unusedSimpArgs false
namespace Go.Proofs.Ytaemmklgofddmaa.Fw
open Go.RowKit
open Go.ChangeShapes Go.WideShapes

set_option maxRecDepth 100000 in
theorem entryBack_ac (l : List AV) (h : HasArgs te 5 Try.f7.params.toList l) : AC Try.prog 7 l emp (Ret (tf true)) := by
  change HasArgs te 5 [38, 40] l at h
  obtain ⟨a0, a1, p0, p1, rfl⟩ := args2 h rfl rfl
  obtain ⟨de, e, rfl, he⟩ := has_ent p0 rfl rfl rfl rfl rfl rfl rfl rfl rfl rfl rfl rfl rfl rfl rfl rfl rfl rfl 
  obtain ⟨b, rfl, hb⟩ := has_bytes p1 rfl rfl rfl rfl rfl
  exact c_ciceronelaw08_EntryBack de e he b hb
theorem entryBack_own : ownKnob Try.prog.godebug = none := by kernel_rfl
theorem entryBack_laid : laidOutB Try.prog = true := by kernel_rfl
set_option maxRecDepth 100000 in
theorem entryBack_lifted (os : Os) (started : os.Started) (H : Type) (enc : TypeId × Value → H) :
    ReturnsInHanded {} Try.checked os 7 .any (Rows.entryBackSpec.pre6 enc Try.prog Try.f7 Rows.entryBackRow.domain false) (Rows.entryBackSpec.post enc Try.prog Try.f7 false true false false) :=
  returnsInHanded_of_change_sized (C := Try.checked) entryBack_own started (by kernel_rfl) Try.func7
    (ChangeSpec.witness6 (enc := enc) (C := Try.checked) false ⟨#[], #[.agg #[.bool false, .string ⟨#[]⟩, .int .i64 0, .int .i64 0, .int .i64 0, .int .i64 0, .int .i64 0, .string ⟨#[]⟩, .slice none 0 0], .slice none 0 0], []⟩ 8 (by kernel_rfl) (by kernel_rfl) (by kernel_rfl) (by kernel_rfl))
    (fun W base args ds gs before hval hW _ hsz _ => law_row (te := te) (d := 5) (tb := 4) te_ok entryBack_laid (by kernel_rfl) (by kernel_rfl) rfl ((te_ok.tells (t := 4) rfl).bool rfl) rfl
      (fun ds h => by match ds, h with | [_, _], _ => exact ⟨rfl, rfl, rfl⟩) entryBack_ac hval hW hsz)
theorem entryBack_over : Rows.entryBackRow.holds Try.pinned (OpenSpec.ofChange Rows.entryBackSpec) :=
  OpenClaim.holds_of_wide 7 Try.f7 rfl rfl rfl rfl rfl rfl rfl ⟨rfl, rfl, rfl, rfl, rfl⟩ rfl rfl rfl rfl rfl (by kernel_rfl) Try.func7 (by kernel_rfl)
    (of_decide_eq_true (by kernel_rfl)) (by unfold Func.isWrapper; first | (rw [if_pos (by decide +kernel)]; kernel_rfl) | (rw [if_neg (by decide +kernel)]; exact ⟨rfl, rfl⟩))
    (fun os started H enc _ => entryBack_lifted os started H enc)
end Go.Proofs.Ytaemmklgofddmaa.Fw
namespace Go.Proofs.Ytaemmklgofddmaa
theorem entryBack_holds : Rows.EntryBackSaid := Fw.entryBack_over
#print axioms entryBack_holds
end Go.Proofs.Ytaemmklgofddmaa
namespace Go.Proofs.Ytaemmklgofddmaa.Fw

end Go.Proofs.Ytaemmklgofddmaa.Fw
