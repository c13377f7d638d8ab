/- Law HeaderBack: whatever the input, the law answers true; no condition. -/
import Derived.Test.YtahkngplohnliaaL02b
import Derived.Test.YtahkngplohnliaaFwS
set_option linter.unusedVariables false
set_option linter.unusedSimpArgs false
namespace Go.Proofs.Ytahkngplohnliaa.Fw
open Go.RowKit
open Go.ChangeShapes Go.WideShapes

set_option maxRecDepth 100000 in
theorem headerBack_ac (l : List AV) (h : HasArgs te 2 Try.f12.params.toList l) : AC Try.prog 12 l emp (Ret (tf true)) := by
  change HasArgs te 2 [29, 30, 22] l at h
  obtain ⟨a0, a1, a2, p0, p1, p2, rfl⟩ := args3 h rfl rfl rfl
  obtain ⟨_, r, rfl, q, hh⟩ := has_struct p0 rfl rfl
  obtain ⟨id, rfl, hid1, hid2⟩ := has_int q rfl rfl
  obtain ⟨_, r, rfl, q, hh⟩ := hh
  obtain ⟨resp, rfl⟩ := has_bool q rfl rfl
  obtain ⟨_, r, rfl, q, hh⟩ := hh
  obtain ⟨op, rfl, hop1, hop2⟩ := has_int q rfl rfl
  obtain ⟨_, r, rfl, q, hh⟩ := hh
  obtain ⟨aa, rfl⟩ := has_bool q rfl rfl
  obtain ⟨_, r, rfl, q, hh⟩ := hh
  obtain ⟨tc, rfl⟩ := has_bool q rfl rfl
  obtain ⟨_, r, rfl, q, hh⟩ := hh
  obtain ⟨rd, rfl⟩ := has_bool q rfl rfl
  obtain ⟨_, r, rfl, q, hh⟩ := hh
  obtain ⟨ra, rfl⟩ := has_bool q rfl rfl
  obtain ⟨_, r, rfl, q, hh⟩ := hh
  obtain ⟨code, rfl, hco1, hco2⟩ := has_int q rfl rfl
  cases hh
  obtain ⟨cl, hcl, rfl, hcb⟩ := has_arr_ints p1 rfl rfl rfl rfl
  obtain ⟨c0, cl, rfl⟩ := List.exists_cons_of_length_eq_add_one hcl
  obtain ⟨c1, cl, rfl⟩ := List.exists_cons_of_length_eq_add_one (by simpa using hcl)
  obtain ⟨c2, cl, rfl⟩ := List.exists_cons_of_length_eq_add_one (by simpa using hcl)
  obtain ⟨c3, cl, rfl⟩ := List.exists_cons_of_length_eq_add_one (by simpa using hcl)
  obtain rfl : cl = [] := by simpa using hcl
  obtain ⟨r, rfl, hr⟩ := has_bytes p2 rfl rfl rfl rfl rfl
  exact c_ciceronelaw02_HeaderBack ⟨id, resp, op, aa, tc, rd, ra, code⟩ c0 c1 c2 c3 r hr
theorem headerBack_own : ownKnob Try.prog.godebug = none := by kernel_rfl
theorem headerBack_laid : laidOutB Try.prog = true := by kernel_rfl
set_option maxRecDepth 100000 in
theorem headerBack_lifted (os : Os) (started : os.Started) (H : Type) (enc : TypeId × Value → H) :
    ReturnsInHanded {} Try.checked os 12 .any (Rows.headerBackSpec.pre6 enc Try.prog Try.f12 Rows.headerBackRow.domain false) (Rows.headerBackSpec.post enc Try.prog Try.f12 false true false false) :=
  returnsInHanded_of_change_sized (C := Try.checked) headerBack_own started (by kernel_rfl) Try.func12
    (ChangeSpec.witness6 (enc := enc) (C := Try.checked) false ⟨#[], #[.agg #[.int .i64 0, .bool false, .int .i64 0, .bool false, .bool false, .bool false, .bool false, .int .i64 0], .agg #[.int .i64 0, .int .i64 0, .int .i64 0, .int .i64 0], .slice none 0 0], []⟩ 8 (by kernel_rfl) (by kernel_rfl) (by kernel_rfl) (by kernel_rfl))
    (fun W base args ds gs before hval hW _ hsz _ => law_row (te := te) (d := 2) (tb := 4) te_ok headerBack_laid (by kernel_rfl) (by kernel_rfl) rfl ((te_ok.tells (t := 4) rfl).bool rfl) rfl
      (fun ds h => by match ds, h with | [_, _, _], _ => exact ⟨rfl, rfl, rfl⟩) headerBack_ac hval hW hsz)
theorem headerBack_over : Rows.headerBackRow.holds Try.pinned (OpenSpec.ofChange Rows.headerBackSpec) :=
  OpenClaim.holds_of_wide 12 Try.f12 rfl rfl rfl rfl rfl rfl rfl ⟨rfl, rfl, rfl, rfl, rfl⟩ rfl rfl rfl rfl rfl (by kernel_rfl) Try.func12 (by kernel_rfl)
    (of_decide_eq_true (by kernel_rfl)) (by unfold Func.isWrapper; first | (rw [if_pos (by decide +kernel)]; kernel_rfl) | (rw [if_neg (by decide +kernel)]; exact ⟨rfl, rfl⟩))
    (fun os started H enc _ => headerBack_lifted os started H enc)
end Go.Proofs.Ytahkngplohnliaa.Fw
namespace Go.Proofs.Ytahkngplohnliaa
theorem headerBack_holds : Rows.HeaderBackSaid := Fw.headerBack_over
#print axioms headerBack_holds
end Go.Proofs.Ytahkngplohnliaa
namespace Go.Proofs.Ytahkngplohnliaa.Fw

end Go.Proofs.Ytahkngplohnliaa.Fw
