/- Law HeaderFlags: whatever the input, the law answers true; no condition. -/
import Derived.Test.YtahkngplohnliaaL02c
import Derived.Test.YtahkngplohnliaaFwS
set_option linter.unusedVariables false
set_option linter.unusedSimpArgs false
namespace Go.Proofs.Ytahkngplohnliaa.Fw
open Go.RowKit
open Go.ChangeShapes Go.WideShapes

set_option maxRecDepth 100000 in
theorem headerFlags_ac (l : List AV) (h : HasArgs te 2 Try.f5.params.toList l) : AC Try.prog 5 l emp (Ret (tf true)) := by
  change HasArgs te 2 [29, 3] l at h
  obtain ⟨a0, a1, p0, p1, rfl⟩ := args2 h rfl rfl
  obtain ⟨_, r, rfl, q, hh⟩ := has_struct p0 rfl rfl
  obtain ⟨id, rfl, hid1, hid2⟩ := has_int q rfl rfl
  obtain ⟨_, r, rfl, q, hh⟩ := hh
  obtain ⟨resp, rfl⟩ := has_bool q rfl rfl
  obtain ⟨_, r, rfl, q, hh⟩ := hh
  obtain ⟨op, rfl, hop1, hop2⟩ := has_int q rfl rfl
  obtain ⟨_, r, rfl, q, hh⟩ := hh
  obtain ⟨aa, rfl⟩ := has_bool q rfl rfl
  obtain ⟨_, r, rfl, q, hh⟩ := hh
  obtain ⟨tc, rfl⟩ := has_bool q rfl rfl
  obtain ⟨_, r, rfl, q, hh⟩ := hh
  obtain ⟨rd, rfl⟩ := has_bool q rfl rfl
  obtain ⟨_, r, rfl, q, hh⟩ := hh
  obtain ⟨ra, rfl⟩ := has_bool q rfl rfl
  obtain ⟨_, r, rfl, q, hh⟩ := hh
  obtain ⟨code, rfl, hco1, hco2⟩ := has_int q rfl rfl
  cases hh
  obtain ⟨n, rfl, hn1, hn2⟩ := has_int p1 rfl rfl
  exact c_ciceronelaw02_HeaderFlags ⟨id, resp, op, aa, tc, rd, ra, code⟩ n
theorem headerFlags_own : ownKnob Try.prog.godebug = none := by kernel_rfl
theorem headerFlags_laid : laidOutB Try.prog = true := by kernel_rfl
set_option maxRecDepth 100000 in
theorem headerFlags_lifted (os : Os) (started : os.Started) (H : Type) (enc : TypeId × Value → H) :
    ReturnsInHanded {} Try.checked os 5 .any (Rows.headerFlagsSpec.pre6 enc Try.prog Try.f5 Rows.headerFlagsRow.domain false) (Rows.headerFlagsSpec.post enc Try.prog Try.f5 false true false false) :=
  returnsInHanded_of_change_sized (C := Try.checked) headerFlags_own started (by kernel_rfl) Try.func5
    (ChangeSpec.witness6 (enc := enc) (C := Try.checked) false ⟨#[], #[.agg #[.int .i64 0, .bool false, .int .i64 0, .bool false, .bool false, .bool false, .bool false, .int .i64 0], .int .i64 0], []⟩ 8 (by kernel_rfl) (by kernel_rfl) (by kernel_rfl) (by kernel_rfl))
    (fun W base args ds gs before hval hW _ hsz _ => law_row (te := te) (d := 2) (tb := 4) te_ok headerFlags_laid (by kernel_rfl) (by kernel_rfl) rfl ((te_ok.tells (t := 4) rfl).bool rfl) rfl
      (fun ds h => by match ds, h with | [_, _], _ => exact ⟨rfl, rfl, rfl⟩) headerFlags_ac hval hW hsz)
theorem headerFlags_over : Rows.headerFlagsRow.holds Try.pinned (OpenSpec.ofChange Rows.headerFlagsSpec) :=
  OpenClaim.holds_of_wide 5 Try.f5 rfl rfl rfl rfl rfl rfl rfl ⟨rfl, rfl, rfl, rfl, rfl⟩ rfl rfl rfl rfl rfl (by kernel_rfl) Try.func5 (by kernel_rfl)
    (of_decide_eq_true (by kernel_rfl)) (by unfold Func.isWrapper; first | (rw [if_pos (by decide +kernel)]; kernel_rfl) | (rw [if_neg (by decide +kernel)]; exact ⟨rfl, rfl⟩))
    (fun os started H enc _ => headerFlags_lifted os started H enc)
end Go.Proofs.Ytahkngplohnliaa.Fw
namespace Go.Proofs.Ytahkngplohnliaa
theorem headerFlags_holds : Rows.HeaderFlagsSaid := Fw.headerFlags_over
#print axioms headerFlags_holds
end Go.Proofs.Ytahkngplohnliaa
namespace Go.Proofs.Ytahkngplohnliaa.Fw

end Go.Proofs.Ytahkngplohnliaa.Fw
