/- Law RdataBack: whatever the input, the law answers true; no condition. -/
import Derived.Test.YtolaeondhhnfoaaL03b
import Derived.Test.YtolaeondhhnfoaaFwS
set_option linter.unusedVariables false
set_option linter.unusedSimpArgs false
namespace Go.Proofs.Ytolaeondhhnfoaa.Fw
open Go.RowKit
open Go.ChangeShapes Go.WideShapes

set_option maxRecDepth 100000 in
theorem rdataBack_ac (l : List AV) (h : HasArgs te 2 Try.f9.params.toList l) : AC Try.prog 9 l emp (Ret (tf true)) := by
  change HasArgs te 2 [45, 38] l at h
  obtain ⟨a0, a1, p0, p1, rfl⟩ := args2 h rfl rfl
  obtain ⟨_, w, rfl, q, hh⟩ := has_struct p0 rfl rfl
  obtain ⟨m, rfl, hm⟩ := has_str q rfl rfl
  obtain ⟨_, w, rfl, q, hh⟩ := hh
  obtain ⟨r, rfl, hr⟩ := has_str q rfl rfl
  obtain ⟨_, w, rfl, q, hh⟩ := hh
  obtain ⟨n1, rfl, hn1a, hn1b⟩ := has_int q rfl rfl
  obtain ⟨_, w, rfl, q, hh⟩ := hh
  obtain ⟨n2, rfl, hn2a, hn2b⟩ := has_int q rfl rfl
  obtain ⟨_, w, rfl, q, hh⟩ := hh
  obtain ⟨n3, rfl, hn3a, hn3b⟩ := has_int q rfl rfl
  obtain ⟨_, w, rfl, q, hh⟩ := hh
  obtain ⟨n4, rfl, hn4a, hn4b⟩ := has_int q rfl rfl
  obtain ⟨_, w, rfl, q, hh⟩ := hh
  obtain ⟨n5, rfl, hn5a, hn5b⟩ := has_int q rfl rfl
  cases hh
  obtain ⟨d, rfl, hd⟩ := has_bytes p1 rfl rfl rfl rfl rfl
  exact c_ciceronelaw03_RdataBack ⟨m, r, n1, n2, n3, n4, n5⟩ hm hr d hd
theorem rdataBack_own : ownKnob Try.prog.godebug = none := by kernel_rfl
theorem rdataBack_laid : laidOutB Try.prog = true := by kernel_rfl
set_option maxRecDepth 100000 in
theorem rdataBack_lifted (os : Os) (started : os.Started) (H : Type) (enc : TypeId × Value → H) :
    ReturnsInHanded {} Try.checked os 9 .any (Rows.rdataBackSpec.pre6 enc Try.prog Try.f9 Rows.rdataBackRow.domain false) (Rows.rdataBackSpec.post enc Try.prog Try.f9 false true false false) :=
  returnsInHanded_of_change_sized (C := Try.checked) rdataBack_own started (by kernel_rfl) Try.func9
    (ChangeSpec.witness6 (enc := enc) (C := Try.checked) false ⟨#[], #[.agg #[.string ⟨#[]⟩, .string ⟨#[]⟩, .int .i64 0, .int .i64 0, .int .i64 0, .int .i64 0, .int .i64 0], .slice none 0 0], []⟩ 8 (by kernel_rfl) (by kernel_rfl) (by kernel_rfl) (by kernel_rfl))
    (fun W base args ds gs before hval hW _ hsz _ => law_row (te := te) (d := 2) (tb := 4) te_ok rdataBack_laid (by kernel_rfl) (by kernel_rfl) rfl ((te_ok.tells (t := 4) rfl).bool rfl) rfl
      (fun ds h => by match ds, h with | [_, _], _ => exact ⟨rfl, rfl, rfl⟩) rdataBack_ac hval hW hsz)
theorem rdataBack_over : Rows.rdataBackRow.holds Try.pinned (OpenSpec.ofChange Rows.rdataBackSpec) :=
  OpenClaim.holds_of_wide 9 Try.f9 rfl rfl rfl rfl rfl rfl rfl ⟨rfl, rfl, rfl, rfl, rfl⟩ rfl rfl rfl rfl rfl (by kernel_rfl) Try.func9 (by kernel_rfl)
    (of_decide_eq_true (by kernel_rfl)) (by unfold Func.isWrapper; first | (rw [if_pos (by decide +kernel)]; kernel_rfl) | (rw [if_neg (by decide +kernel)]; exact ⟨rfl, rfl⟩))
    (fun os started H enc _ => rdataBack_lifted os started H enc)
end Go.Proofs.Ytolaeondhhnfoaa.Fw
namespace Go.Proofs.Ytolaeondhhnfoaa
theorem rdataBack_holds : Rows.RdataBackSaid := Fw.rdataBack_over
#print axioms rdataBack_holds
end Go.Proofs.Ytolaeondhhnfoaa
namespace Go.Proofs.Ytolaeondhhnfoaa.Fw

end Go.Proofs.Ytolaeondhhnfoaa.Fw
