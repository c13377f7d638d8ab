/-
  No cell of these rows narrows 'for every input' (looked for: loops, veiled, ifaces, maps, wideKeys, modest, calm, conditions, laid).
  DERIVED. THE GIVEN ROWS OF THIS SEAT. 7 by the template 'for every input the law returns true; each argument reads behind the call as it read before'; 0 by the template 'total and deterministic' (their statements: YtokccoloholgaaaTotals.lean).
  GIVEN WITH THE SEED: the statements are not yours to turn. If you find one false, say at which input.
  Laid BY PROGRAM, IN A SANDBOX (cutbox-rows.mjs): the forced cells as the released guide's own fill.sh prints them over the translation 4bcfc7bc7a2ff9f5… (all of the seat's roots in one cut). By AI agents, Wed Nov 11 2026. No macro, syntax, notation, axiom, sorry.
-/
import Derived.Test.YtokccoloholgaaaChecked
import GoSem.Claim
import GoSem.ClaimJoined
import GoSem.ClaimMapViews
import Derived.JoinedTies
import Derived.KernelRfl
namespace Go.Proofs.Ytokccoloholgaaa
/- THE CELL 'sum', in the pinned program and in every row, IS THE sha256 OF THE DUMP (.gsa) THAT YtokccoloholgaaaProg.lean LOADS. Nothing in Lean hashes anything: it is a label: what it is worth is what the hold of that sum in a sandbox is worth. -/
noncomputable def Try.pinned : Pinned := { name := "ytokccoloholgaaa", sum := "4bcfc7bc7a2ff9f58de370b0098bbbc60ca3d6424e18bd4b4afe8805605bd9b3", checked := Try.checked }
namespace Rows
def none {H : Type} : Left H := { results := [], args := [] }

/-- 'ciceronelaw18.ZoneTells': WHATEVER THE INPUT: true; the input reads as it did. -/
def zoneTellsSpec : ChangeSpec := { name := "zoneTells", fn := fun _ => fun
  | [d] => { results := [.lit (.bool true)], args := [d] }
  | _ => none }
def zoneTellsRow : OpenClaim := { program := "ytokccoloholgaaa", sum := "4bcfc7bc7a2ff9f58de370b0098bbbc60ca3d6424e18bd4b4afe8805605bd9b3", func := "cicerone/ciceronelaw18.ZoneTells", spec := "zoneTells", unfollowed := true, recurses := true, apart := false }
def ZoneTellsSaid : Prop := zoneTellsRow.holds Try.pinned (OpenSpec.ofChange zoneTellsSpec)

/-- ITS FALSE NEIGHBOUR: 'it returns false'. Refute it at one input. -/
def zoneTellsWrong : ChangeSpec := { name := "zoneTells", fn := fun _ => fun
  | [d] => { results := [.lit (.bool false)], args := [d] }
  | _ => none }
def ZoneTellsWrongFalsely : Prop := zoneTellsRow.holds Try.pinned (OpenSpec.ofChange zoneTellsWrong)

/-- 'ciceronelaw18.ZoneTruths': WHATEVER THE INPUT: true; the input reads as it did. -/
def zoneTruthsSpec : ChangeSpec := { name := "zoneTruths", fn := fun _ => fun
  | [d1, d2] => { results := [.lit (.bool true)], args := [d1, d2] }
  | _ => none }
def zoneTruthsRow : OpenClaim := { program := "ytokccoloholgaaa", sum := "4bcfc7bc7a2ff9f58de370b0098bbbc60ca3d6424e18bd4b4afe8805605bd9b3", func := "cicerone/ciceronelaw18.ZoneTruths", spec := "zoneTruths", unfollowed := true, recurses := true, apart := false }
def ZoneTruthsSaid : Prop := zoneTruthsRow.holds Try.pinned (OpenSpec.ofChange zoneTruthsSpec)

/-- ITS FALSE NEIGHBOUR: 'it returns false'. Refute it at one input. -/
def zoneTruthsWrong : ChangeSpec := { name := "zoneTruths", fn := fun _ => fun
  | [d1, d2] => { results := [.lit (.bool false)], args := [d1, d2] }
  | _ => none }
def ZoneTruthsWrongFalsely : Prop := zoneTruthsRow.holds Try.pinned (OpenSpec.ofChange zoneTruthsWrong)

/-- 'ciceronelaw18.ZoneRefers': WHATEVER THE INPUT: true; the input reads as it did. -/
def zoneRefersSpec : ChangeSpec := { name := "zoneRefers", fn := fun _ => fun
  | [d1, d2, d3] => { results := [.lit (.bool true)], args := [d1, d2, d3] }
  | _ => none }
def zoneRefersRow : OpenClaim := { program := "ytokccoloholgaaa", sum := "4bcfc7bc7a2ff9f58de370b0098bbbc60ca3d6424e18bd4b4afe8805605bd9b3", func := "cicerone/ciceronelaw18.ZoneRefers", spec := "zoneRefers", unfollowed := true, recurses := true, apart := false }
def ZoneRefersSaid : Prop := zoneRefersRow.holds Try.pinned (OpenSpec.ofChange zoneRefersSpec)

/-- ITS FALSE NEIGHBOUR: 'it returns false'. Refute it at one input. -/
def zoneRefersWrong : ChangeSpec := { name := "zoneRefers", fn := fun _ => fun
  | [d1, d2, d3] => { results := [.lit (.bool false)], args := [d1, d2, d3] }
  | _ => none }
def ZoneRefersWrongFalsely : Prop := zoneRefersRow.holds Try.pinned (OpenSpec.ofChange zoneRefersWrong)

/-- 'ciceronelaw18.ZoneTrue': WHATEVER THE INPUT: true; the input reads as it did. -/
def zoneTrueSpec : ChangeSpec := { name := "zoneTrue", fn := fun _ => fun
  | [d1, d2] => { results := [.lit (.bool true)], args := [d1, d2] }
  | _ => none }
def zoneTrueRow : OpenClaim := { program := "ytokccoloholgaaa", sum := "4bcfc7bc7a2ff9f58de370b0098bbbc60ca3d6424e18bd4b4afe8805605bd9b3", func := "cicerone/ciceronelaw18.ZoneTrue", spec := "zoneTrue", unfollowed := true, recurses := true, apart := false }
def ZoneTrueSaid : Prop := zoneTrueRow.holds Try.pinned (OpenSpec.ofChange zoneTrueSpec)

/-- ITS FALSE NEIGHBOUR: 'it returns false'. Refute it at one input. -/
def zoneTrueWrong : ChangeSpec := { name := "zoneTrue", fn := fun _ => fun
  | [d1, d2] => { results := [.lit (.bool false)], args := [d1, d2] }
  | _ => none }
def ZoneTrueWrongFalsely : Prop := zoneTrueRow.holds Try.pinned (OpenSpec.ofChange zoneTrueWrong)

/-- 'ciceronelaw18.ZoneServes': WHATEVER THE INPUT: true; the input reads as it did. -/
def zoneServesSpec : ChangeSpec := { name := "zoneServes", fn := fun _ => fun
  | [d1, d2, d3] => { results := [.lit (.bool true)], args := [d1, d2, d3] }
  | _ => none }
def zoneServesRow : OpenClaim := { program := "ytokccoloholgaaa", sum := "4bcfc7bc7a2ff9f58de370b0098bbbc60ca3d6424e18bd4b4afe8805605bd9b3", func := "cicerone/ciceronelaw18.ZoneServes", spec := "zoneServes", unfollowed := true, recurses := true, apart := false }
def ZoneServesSaid : Prop := zoneServesRow.holds Try.pinned (OpenSpec.ofChange zoneServesSpec)

/-- ITS FALSE NEIGHBOUR: 'it returns false'. Refute it at one input. -/
def zoneServesWrong : ChangeSpec := { name := "zoneServes", fn := fun _ => fun
  | [d1, d2, d3] => { results := [.lit (.bool false)], args := [d1, d2, d3] }
  | _ => none }
def ZoneServesWrongFalsely : Prop := zoneServesRow.holds Try.pinned (OpenSpec.ofChange zoneServesWrong)

/-- 'ciceronelaw24.AuditTrue': WHATEVER THE INPUT: true; the input reads as it did. -/
def auditTrueSpec : ChangeSpec := { name := "auditTrue", fn := fun _ => fun
  | [d1, d2] => { results := [.lit (.bool true)], args := [d1, d2] }
  | _ => none }
def auditTrueRow : OpenClaim := { program := "ytokccoloholgaaa", sum := "4bcfc7bc7a2ff9f58de370b0098bbbc60ca3d6424e18bd4b4afe8805605bd9b3", func := "cicerone/ciceronelaw24.AuditTrue", spec := "auditTrue", unfollowed := true, recurses := true, apart := false }
def AuditTrueSaid : Prop := auditTrueRow.holds Try.pinned (OpenSpec.ofChange auditTrueSpec)

/-- ITS FALSE NEIGHBOUR: 'it returns false'. Refute it at one input. -/
def auditTrueWrong : ChangeSpec := { name := "auditTrue", fn := fun _ => fun
  | [d1, d2] => { results := [.lit (.bool false)], args := [d1, d2] }
  | _ => none }
def AuditTrueWrongFalsely : Prop := auditTrueRow.holds Try.pinned (OpenSpec.ofChange auditTrueWrong)

/-- 'ciceronelaw24.AuditTruth': WHATEVER THE INPUT: true; the input reads as it did. -/
def auditTruthSpec : ChangeSpec := { name := "auditTruth", fn := fun _ => fun
  | [d1, d2] => { results := [.lit (.bool true)], args := [d1, d2] }
  | _ => none }
def auditTruthRow : OpenClaim := { program := "ytokccoloholgaaa", sum := "4bcfc7bc7a2ff9f58de370b0098bbbc60ca3d6424e18bd4b4afe8805605bd9b3", func := "cicerone/ciceronelaw24.AuditTruth", spec := "auditTruth", unfollowed := true, recurses := true, apart := false }
def AuditTruthSaid : Prop := auditTruthRow.holds Try.pinned (OpenSpec.ofChange auditTruthSpec)

/-- ITS FALSE NEIGHBOUR: 'it returns false'. Refute it at one input. -/
def auditTruthWrong : ChangeSpec := { name := "auditTruth", fn := fun _ => fun
  | [d1, d2] => { results := [.lit (.bool false)], args := [d1, d2] }
  | _ => none }
def AuditTruthWrongFalsely : Prop := auditTruthRow.holds Try.pinned (OpenSpec.ofChange auditTruthWrong)

/- THE SECOND FORM. 'bulk': how many values and letters a reading holds, each counted each time it is reached (what is shared counts as often as it is met; a slice's spare places count too). A statement '..UptoSaid' is the law's where the arguments, and the package variables that the reading takes, are together of bulk at most 1048576: NARROWER than '..Said'. Prove '..Said' where nothing that the law and all that it calls make is longer than what came in: it says more and counts as full. Else prove '..UptoSaid'. A law counts once. -/
mutual
def uptoBulk {H : Type} : DataW H → Nat
  | .lit (.string bytes) => bytes.length + 1
  | .lit _ => 1
  | .nil => 1
  | .ptr d => uptoBulk d + 1
  | .slice elems spare => uptoBulkAll elems + uptoBulkAll spare + 1
  | .agg parts => uptoBulkAll parts + 1
  | .iface _ d => uptoBulk d + 1
  | .map entries => uptoBulkEntries entries + 1
  | .held _ => 1
def uptoBulkAll {H : Type} : List (DataW H) → Nat
  | [] => 0
  | d :: r => uptoBulk d + uptoBulkAll r
def uptoBulkEntries {H : Type} : List (Lit × DataW H) → Nat
  | [] => 0
  | x :: r => uptoBulkEntry x + uptoBulkEntries r
def uptoBulkEntry {H : Type} : Lit × DataW H → Nat
  | (.string bytes, d) => bytes.length + uptoBulk d + 1
  | (_, d) => uptoBulk d + 1
 end
def uptoSmall : (H : Type) → List (DataW H) → Bool := fun _ ds => decide (uptoBulkAll ds ≤ 1048576)
def OpenSpec.upto (s : _root_.Go.ChangeSpec) : _root_.Go.OpenSpec := { _root_.Go.OpenSpec.ofChange s with cond := some uptoSmall }

/-- 'ciceronelaw18.ZoneTells', WHERE WHAT IT READS IS OF BULK AT MOST 1048576: true; the input reads as it did. -/
def zoneTellsUptoRow : OpenClaim := { program := "ytokccoloholgaaa", sum := "4bcfc7bc7a2ff9f58de370b0098bbbc60ca3d6424e18bd4b4afe8805605bd9b3", func := "cicerone/ciceronelaw18.ZoneTells", spec := "zoneTells", unfollowed := true, recurses := true, apart := false, narrowed := true }
def ZoneTellsUptoSaid : Prop := zoneTellsUptoRow.holds Try.pinned (OpenSpec.upto zoneTellsSpec)

/-- 'ciceronelaw18.ZoneTruths', WHERE WHAT IT READS IS OF BULK AT MOST 1048576: true; the input reads as it did. -/
def zoneTruthsUptoRow : OpenClaim := { program := "ytokccoloholgaaa", sum := "4bcfc7bc7a2ff9f58de370b0098bbbc60ca3d6424e18bd4b4afe8805605bd9b3", func := "cicerone/ciceronelaw18.ZoneTruths", spec := "zoneTruths", unfollowed := true, recurses := true, apart := false, narrowed := true }
def ZoneTruthsUptoSaid : Prop := zoneTruthsUptoRow.holds Try.pinned (OpenSpec.upto zoneTruthsSpec)

/-- 'ciceronelaw18.ZoneRefers', WHERE WHAT IT READS IS OF BULK AT MOST 1048576: true; the input reads as it did. -/
def zoneRefersUptoRow : OpenClaim := { program := "ytokccoloholgaaa", sum := "4bcfc7bc7a2ff9f58de370b0098bbbc60ca3d6424e18bd4b4afe8805605bd9b3", func := "cicerone/ciceronelaw18.ZoneRefers", spec := "zoneRefers", unfollowed := true, recurses := true, apart := false, narrowed := true }
def ZoneRefersUptoSaid : Prop := zoneRefersUptoRow.holds Try.pinned (OpenSpec.upto zoneRefersSpec)

/-- 'ciceronelaw18.ZoneTrue', WHERE WHAT IT READS IS OF BULK AT MOST 1048576: true; the input reads as it did. -/
def zoneTrueUptoRow : OpenClaim := { program := "ytokccoloholgaaa", sum := "4bcfc7bc7a2ff9f58de370b0098bbbc60ca3d6424e18bd4b4afe8805605bd9b3", func := "cicerone/ciceronelaw18.ZoneTrue", spec := "zoneTrue", unfollowed := true, recurses := true, apart := false, narrowed := true }
def ZoneTrueUptoSaid : Prop := zoneTrueUptoRow.holds Try.pinned (OpenSpec.upto zoneTrueSpec)

/-- 'ciceronelaw18.ZoneServes', WHERE WHAT IT READS IS OF BULK AT MOST 1048576: true; the input reads as it did. -/
def zoneServesUptoRow : OpenClaim := { program := "ytokccoloholgaaa", sum := "4bcfc7bc7a2ff9f58de370b0098bbbc60ca3d6424e18bd4b4afe8805605bd9b3", func := "cicerone/ciceronelaw18.ZoneServes", spec := "zoneServes", unfollowed := true, recurses := true, apart := false, narrowed := true }
def ZoneServesUptoSaid : Prop := zoneServesUptoRow.holds Try.pinned (OpenSpec.upto zoneServesSpec)

/-- 'ciceronelaw24.AuditTrue', WHERE WHAT IT READS IS OF BULK AT MOST 1048576: true; the input reads as it did. -/
def auditTrueUptoRow : OpenClaim := { program := "ytokccoloholgaaa", sum := "4bcfc7bc7a2ff9f58de370b0098bbbc60ca3d6424e18bd4b4afe8805605bd9b3", func := "cicerone/ciceronelaw24.AuditTrue", spec := "auditTrue", unfollowed := true, recurses := true, apart := false, narrowed := true }
def AuditTrueUptoSaid : Prop := auditTrueUptoRow.holds Try.pinned (OpenSpec.upto auditTrueSpec)

/-- 'ciceronelaw24.AuditTruth', WHERE WHAT IT READS IS OF BULK AT MOST 1048576: true; the input reads as it did. -/
def auditTruthUptoRow : OpenClaim := { program := "ytokccoloholgaaa", sum := "4bcfc7bc7a2ff9f58de370b0098bbbc60ca3d6424e18bd4b4afe8805605bd9b3", func := "cicerone/ciceronelaw24.AuditTruth", spec := "auditTruth", unfollowed := true, recurses := true, apart := false, narrowed := true }
def AuditTruthUptoSaid : Prop := auditTruthUptoRow.holds Try.pinned (OpenSpec.upto auditTruthSpec)

end Rows
end Go.Proofs.Ytokccoloholgaaa
