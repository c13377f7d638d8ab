/- Law EntryShort: whatever the input, the law answers true; no condition. -/
import Derived.Test.YtaemmklgofddmaaCat5
set_option linter.unusedVariables false
set_option linter.unusedSimpArgs false
namespace Go.Proofs.Ytaemmklgofddmaa.Fw
open Go.RowKit
open Go.ChangeShapes Go.WideShapes

set_option maxRecDepth 100000 in
theorem entryShort_ac (l : List AV) (h : HasArgs te 5 Try.f8.params.toList l) : AC Try.prog 8 l emp (Ret (tf true)) := by
  change HasArgs te 5 [38, 3, 5] l at h
  obtain ⟨a0, a1, a2, p0, p1, p2, rfl⟩ := args3 h rfl rfl rfl
  obtain ⟨de, e, rfl, he⟩ := has_ent p0 rfl rfl rfl rfl rfl rfl rfl rfl rfl rfl rfl rfl rfl rfl rfl rfl rfl rfl 
  obtain ⟨n, rfl, hn⟩ := has_int p1 rfl rfl
  obtain ⟨c, rfl⟩ := has_u8 p2 rfl rfl
  exact c_ciceronelaw08_EntryShort de e he n c
theorem entryShort_own : ownKnob Try.prog.godebug = none := by kernel_rfl
theorem entryShort_laid : laidOutB Try.prog = true := by kernel_rfl
set_option maxRecDepth 100000 in
theorem entryShort_lifted (os : Os) (started : os.Started) (H : Type) (enc : TypeId × Value → H) :
    ReturnsInHanded {} Try.checked os 8 .any (Rows.entryShortSpec.pre6 enc Try.prog Try.f8 Rows.entryShortRow.domain false) (Rows.entryShortSpec.post enc Try.prog Try.f8 false true false false) :=
  returnsInHanded_of_change_sized (C := Try.checked) entryShort_own started (by kernel_rfl) Try.func8
    (ChangeSpec.witness6 (enc := enc) (C := Try.checked) false ⟨#[], #[.agg #[.bool false, .string ⟨#[]⟩, .int .i64 0, .int .i64 0, .int .i64 0, .int .i64 0, .int .i64 0, .string ⟨#[]⟩, .slice none 0 0], .int .i64 0, .int .u8 0], []⟩ 8 (by kernel_rfl) (by kernel_rfl) (by kernel_rfl) (by kernel_rfl))
    (fun W base args ds gs before hval hW _ hsz _ => law_row (te := te) (d := 5) (tb := 4) te_ok entryShort_laid (by kernel_rfl) (by kernel_rfl) rfl ((te_ok.tells (t := 4) rfl).bool rfl) rfl
      (fun ds h => by match ds, h with | [_, _, _], _ => exact ⟨rfl, rfl, rfl⟩) entryShort_ac hval hW hsz)
theorem entryShort_over : Rows.entryShortRow.holds Try.pinned (OpenSpec.ofChange Rows.entryShortSpec) :=
  OpenClaim.holds_of_wide 8 Try.f8 rfl rfl rfl rfl rfl rfl rfl ⟨rfl, rfl, rfl, rfl, rfl⟩ rfl rfl rfl rfl rfl (by kernel_rfl) Try.func8 (by kernel_rfl)
    (of_decide_eq_true (by kernel_rfl)) (by unfold Func.isWrapper; first | (rw [if_pos (by decide +kernel)]; kernel_rfl) | (rw [if_neg (by decide +kernel)]; exact ⟨rfl, rfl⟩))
    (fun os started H enc _ => entryShort_lifted os started H enc)
end Go.Proofs.Ytaemmklgofddmaa.Fw
namespace Go.Proofs.Ytaemmklgofddmaa
theorem entryShort_holds : Rows.EntryShortSaid := Fw.entryShort_over
#print axioms entryShort_holds
end Go.Proofs.Ytaemmklgofddmaa
namespace Go.Proofs.Ytaemmklgofddmaa.Fw

end Go.Proofs.Ytaemmklgofddmaa.Fw
