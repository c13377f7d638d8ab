/-
  No cell of these rows narrows 'for every input' (looked for: loops, veiled, ifaces, maps, wideKeys, modest, calm, conditions, laid).
  DERIVED. THE GIVEN ROWS OF THIS SEAT. 8 by the template 'for every input the law returns true; each argument reads behind the call as it read before'; 0 by the template 'total and deterministic' (their statements: YtfojdjlhpejbpaaTotals.lean).
  GIVEN WITH THE SEED: the statements are not yours to turn. If you find one false, say at which input.
  Laid BY PROGRAM, IN A SANDBOX (cutbox-rows.mjs): the forced cells as the released guide's own fill.sh prints them over the translation 959ab0bb64fd8906… (all of the seat's roots in one cut). By AI agents, Wed Nov 11 2026. No macro, syntax, notation, axiom, sorry.
-/
import Derived.Test.YtfojdjlhpejbpaaChecked
import GoSem.Claim
import GoSem.ClaimJoined
import GoSem.ClaimMapViews
import Derived.JoinedTies
import Derived.KernelRfl
namespace Go.Proofs.Ytfojdjlhpejbpaa
/- THE CELL 'sum', in the pinned program and in every row, IS THE sha256 OF THE DUMP (.gsa) THAT YtfojdjlhpejbpaaProg.lean LOADS. Nothing in Lean hashes anything: it is a label: what it is worth is what the hold of that sum in a sandbox is worth. -/
noncomputable def Try.pinned : Pinned := { name := "ytfojdjlhpejbpaa", sum := "959ab0bb64fd89064fb14b485c25b36a1c7cf84bf5fa0ebfa75d85b53e754cd1", checked := Try.checked }
namespace Rows
def none {H : Type} : Left H := { results := [], args := [] }

/-- 'ciceronelaw01.NameParts': WHATEVER THE INPUT: true; the input reads as it did. -/
def namePartsSpec : ChangeSpec := { name := "nameParts", fn := fun _ => fun
  | [d1, d2, d3] => { results := [.lit (.bool true)], args := [d1, d2, d3] }
  | _ => none }
def namePartsRow : OpenClaim := { program := "ytfojdjlhpejbpaa", sum := "959ab0bb64fd89064fb14b485c25b36a1c7cf84bf5fa0ebfa75d85b53e754cd1", func := "cicerone/ciceronelaw01.NameParts", spec := "nameParts", apart := false }
def NamePartsSaid : Prop := namePartsRow.holds Try.pinned (OpenSpec.ofChange namePartsSpec)

/-- ITS FALSE NEIGHBOUR: 'it returns false'. Refute it at one input. -/
def namePartsWrong : ChangeSpec := { name := "nameParts", fn := fun _ => fun
  | [d1, d2, d3] => { results := [.lit (.bool false)], args := [d1, d2, d3] }
  | _ => none }
def NamePartsWrongFalsely : Prop := namePartsRow.holds Try.pinned (OpenSpec.ofChange namePartsWrong)

/-- 'ciceronelaw01.NameClimbs': WHATEVER THE INPUT: true; the input reads as it did. -/
def nameClimbsSpec : ChangeSpec := { name := "nameClimbs", fn := fun _ => fun
  | [d] => { results := [.lit (.bool true)], args := [d] }
  | _ => none }
def nameClimbsRow : OpenClaim := { program := "ytfojdjlhpejbpaa", sum := "959ab0bb64fd89064fb14b485c25b36a1c7cf84bf5fa0ebfa75d85b53e754cd1", func := "cicerone/ciceronelaw01.NameClimbs", spec := "nameClimbs", apart := false }
def NameClimbsSaid : Prop := nameClimbsRow.holds Try.pinned (OpenSpec.ofChange nameClimbsSpec)

/-- ITS FALSE NEIGHBOUR: 'it returns false'. Refute it at one input. -/
def nameClimbsWrong : ChangeSpec := { name := "nameClimbs", fn := fun _ => fun
  | [d] => { results := [.lit (.bool false)], args := [d] }
  | _ => none }
def NameClimbsWrongFalsely : Prop := nameClimbsRow.holds Try.pinned (OpenSpec.ofChange nameClimbsWrong)

/-- 'ciceronelaw01.NameCompares': WHATEVER THE INPUT: true; the input reads as it did. -/
def nameComparesSpec : ChangeSpec := { name := "nameCompares", fn := fun _ => fun
  | [d1, d2] => { results := [.lit (.bool true)], args := [d1, d2] }
  | _ => none }
def nameComparesRow : OpenClaim := { program := "ytfojdjlhpejbpaa", sum := "959ab0bb64fd89064fb14b485c25b36a1c7cf84bf5fa0ebfa75d85b53e754cd1", func := "cicerone/ciceronelaw01.NameCompares", spec := "nameCompares", unfollowed := true, recurses := true, apart := false }
def NameComparesSaid : Prop := nameComparesRow.holds Try.pinned (OpenSpec.ofChange nameComparesSpec)

/-- ITS FALSE NEIGHBOUR: 'it returns false'. Refute it at one input. -/
def nameComparesWrong : ChangeSpec := { name := "nameCompares", fn := fun _ => fun
  | [d1, d2] => { results := [.lit (.bool false)], args := [d1, d2] }
  | _ => none }
def NameComparesWrongFalsely : Prop := nameComparesRow.holds Try.pinned (OpenSpec.ofChange nameComparesWrong)

/-- 'ciceronelaw01.NameOrders': WHATEVER THE INPUT: true; the input reads as it did. -/
def nameOrdersSpec : ChangeSpec := { name := "nameOrders", fn := fun _ => fun
  | [d1, d2, d3] => { results := [.lit (.bool true)], args := [d1, d2, d3] }
  | _ => none }
def nameOrdersRow : OpenClaim := { program := "ytfojdjlhpejbpaa", sum := "959ab0bb64fd89064fb14b485c25b36a1c7cf84bf5fa0ebfa75d85b53e754cd1", func := "cicerone/ciceronelaw01.NameOrders", spec := "nameOrders", unfollowed := true, recurses := true, apart := false }
def NameOrdersSaid : Prop := nameOrdersRow.holds Try.pinned (OpenSpec.ofChange nameOrdersSpec)

/-- ITS FALSE NEIGHBOUR: 'it returns false'. Refute it at one input. -/
def nameOrdersWrong : ChangeSpec := { name := "nameOrders", fn := fun _ => fun
  | [d1, d2, d3] => { results := [.lit (.bool false)], args := [d1, d2, d3] }
  | _ => none }
def NameOrdersWrongFalsely : Prop := nameOrdersRow.holds Try.pinned (OpenSpec.ofChange nameOrdersWrong)

/-- 'ciceronelaw01.NameCases': WHATEVER THE INPUT: true; the input reads as it did. -/
def nameCasesSpec : ChangeSpec := { name := "nameCases", fn := fun _ => fun
  | [d1, d2] => { results := [.lit (.bool true)], args := [d1, d2] }
  | _ => none }
def nameCasesRow : OpenClaim := { program := "ytfojdjlhpejbpaa", sum := "959ab0bb64fd89064fb14b485c25b36a1c7cf84bf5fa0ebfa75d85b53e754cd1", func := "cicerone/ciceronelaw01.NameCases", spec := "nameCases", unfollowed := true, recurses := true, apart := false }
def NameCasesSaid : Prop := nameCasesRow.holds Try.pinned (OpenSpec.ofChange nameCasesSpec)

/-- ITS FALSE NEIGHBOUR: 'it returns false'. Refute it at one input. -/
def nameCasesWrong : ChangeSpec := { name := "nameCases", fn := fun _ => fun
  | [d1, d2] => { results := [.lit (.bool false)], args := [d1, d2] }
  | _ => none }
def NameCasesWrongFalsely : Prop := nameCasesRow.holds Try.pinned (OpenSpec.ofChange nameCasesWrong)

/-- 'ciceronelaw01.NameZones': WHATEVER THE INPUT: true; the input reads as it did. -/
def nameZonesSpec : ChangeSpec := { name := "nameZones", fn := fun _ => fun
  | [d1, d2] => { results := [.lit (.bool true)], args := [d1, d2] }
  | _ => none }
def nameZonesRow : OpenClaim := { program := "ytfojdjlhpejbpaa", sum := "959ab0bb64fd89064fb14b485c25b36a1c7cf84bf5fa0ebfa75d85b53e754cd1", func := "cicerone/ciceronelaw01.NameZones", spec := "nameZones", unfollowed := true, recurses := true, apart := false }
def NameZonesSaid : Prop := nameZonesRow.holds Try.pinned (OpenSpec.ofChange nameZonesSpec)

/-- ITS FALSE NEIGHBOUR: 'it returns false'. Refute it at one input. -/
def nameZonesWrong : ChangeSpec := { name := "nameZones", fn := fun _ => fun
  | [d1, d2] => { results := [.lit (.bool false)], args := [d1, d2] }
  | _ => none }
def NameZonesWrongFalsely : Prop := nameZonesRow.holds Try.pinned (OpenSpec.ofChange nameZonesWrong)

/-- 'ciceronelaw01.NameTells': WHATEVER THE INPUT: true; the input reads as it did. -/
def nameTellsSpec : ChangeSpec := { name := "nameTells", fn := fun _ => fun
  | [d1, d2] => { results := [.lit (.bool true)], args := [d1, d2] }
  | _ => none }
def nameTellsRow : OpenClaim := { program := "ytfojdjlhpejbpaa", sum := "959ab0bb64fd89064fb14b485c25b36a1c7cf84bf5fa0ebfa75d85b53e754cd1", func := "cicerone/ciceronelaw01.NameTells", spec := "nameTells", inPlace := ["internal/abi.NoEscape"], apart := false }
def NameTellsSaid : Prop := nameTellsRow.holds Try.pinned (OpenSpec.ofChange nameTellsSpec)

/-- ITS FALSE NEIGHBOUR: 'it returns false'. Refute it at one input. -/
def nameTellsWrong : ChangeSpec := { name := "nameTells", fn := fun _ => fun
  | [d1, d2] => { results := [.lit (.bool false)], args := [d1, d2] }
  | _ => none }
def NameTellsWrongFalsely : Prop := nameTellsRow.holds Try.pinned (OpenSpec.ofChange nameTellsWrong)

/-- 'ciceronelaw01.NameBack': WHATEVER THE INPUT: true; the input reads as it did. -/
def nameBackSpec : ChangeSpec := { name := "nameBack", fn := fun _ => fun
  | [d1, d2] => { results := [.lit (.bool true)], args := [d1, d2] }
  | _ => none }
def nameBackRow : OpenClaim := { program := "ytfojdjlhpejbpaa", sum := "959ab0bb64fd89064fb14b485c25b36a1c7cf84bf5fa0ebfa75d85b53e754cd1", func := "cicerone/ciceronelaw01.NameBack", spec := "nameBack", inPlace := ["internal/abi.NoEscape"], apart := false }
def NameBackSaid : Prop := nameBackRow.holds Try.pinned (OpenSpec.ofChange nameBackSpec)

/-- ITS FALSE NEIGHBOUR: 'it returns false'. Refute it at one input. -/
def nameBackWrong : ChangeSpec := { name := "nameBack", fn := fun _ => fun
  | [d1, d2] => { results := [.lit (.bool false)], args := [d1, d2] }
  | _ => none }
def NameBackWrongFalsely : Prop := nameBackRow.holds Try.pinned (OpenSpec.ofChange nameBackWrong)

/- THE SECOND FORM. 'bulk': how many values and letters a reading holds, each counted each time it is reached (what is shared counts as often as it is met; a slice's spare places count too). A statement '..UptoSaid' is the law's where the arguments, and the package variables that the reading takes, are together of bulk at most 1048576: NARROWER than '..Said'. Prove '..Said' where nothing that the law and all that it calls make is longer than what came in: it says more and counts as full. Else prove '..UptoSaid'. A law counts once. -/
mutual
def uptoBulk {H : Type} : DataW H → Nat
  | .lit (.string bytes) => bytes.length + 1
  | .lit _ => 1
  | .nil => 1
  | .ptr d => uptoBulk d + 1
  | .slice elems spare => uptoBulkAll elems + uptoBulkAll spare + 1
  | .agg parts => uptoBulkAll parts + 1
  | .iface _ d => uptoBulk d + 1
  | .map entries => uptoBulkEntries entries + 1
  | .held _ => 1
def uptoBulkAll {H : Type} : List (DataW H) → Nat
  | [] => 0
  | d :: r => uptoBulk d + uptoBulkAll r
def uptoBulkEntries {H : Type} : List (Lit × DataW H) → Nat
  | [] => 0
  | x :: r => uptoBulkEntry x + uptoBulkEntries r
def uptoBulkEntry {H : Type} : Lit × DataW H → Nat
  | (.string bytes, d) => bytes.length + uptoBulk d + 1
  | (_, d) => uptoBulk d + 1
 end
def uptoSmall : (H : Type) → List (DataW H) → Bool := fun _ ds => decide (uptoBulkAll ds ≤ 1048576)
def OpenSpec.upto (s : _root_.Go.ChangeSpec) : _root_.Go.OpenSpec := { _root_.Go.OpenSpec.ofChange s with cond := some uptoSmall }

/-- 'ciceronelaw01.NameParts', WHERE WHAT IT READS IS OF BULK AT MOST 1048576: true; the input reads as it did. -/
def namePartsUptoRow : OpenClaim := { program := "ytfojdjlhpejbpaa", sum := "959ab0bb64fd89064fb14b485c25b36a1c7cf84bf5fa0ebfa75d85b53e754cd1", func := "cicerone/ciceronelaw01.NameParts", spec := "nameParts", apart := false, narrowed := true }
def NamePartsUptoSaid : Prop := namePartsUptoRow.holds Try.pinned (OpenSpec.upto namePartsSpec)

/-- 'ciceronelaw01.NameClimbs', WHERE WHAT IT READS IS OF BULK AT MOST 1048576: true; the input reads as it did. -/
def nameClimbsUptoRow : OpenClaim := { program := "ytfojdjlhpejbpaa", sum := "959ab0bb64fd89064fb14b485c25b36a1c7cf84bf5fa0ebfa75d85b53e754cd1", func := "cicerone/ciceronelaw01.NameClimbs", spec := "nameClimbs", apart := false, narrowed := true }
def NameClimbsUptoSaid : Prop := nameClimbsUptoRow.holds Try.pinned (OpenSpec.upto nameClimbsSpec)

/-- 'ciceronelaw01.NameCompares', WHERE WHAT IT READS IS OF BULK AT MOST 1048576: true; the input reads as it did. -/
def nameComparesUptoRow : OpenClaim := { program := "ytfojdjlhpejbpaa", sum := "959ab0bb64fd89064fb14b485c25b36a1c7cf84bf5fa0ebfa75d85b53e754cd1", func := "cicerone/ciceronelaw01.NameCompares", spec := "nameCompares", unfollowed := true, recurses := true, apart := false, narrowed := true }
def NameComparesUptoSaid : Prop := nameComparesUptoRow.holds Try.pinned (OpenSpec.upto nameComparesSpec)

/-- 'ciceronelaw01.NameOrders', WHERE WHAT IT READS IS OF BULK AT MOST 1048576: true; the input reads as it did. -/
def nameOrdersUptoRow : OpenClaim := { program := "ytfojdjlhpejbpaa", sum := "959ab0bb64fd89064fb14b485c25b36a1c7cf84bf5fa0ebfa75d85b53e754cd1", func := "cicerone/ciceronelaw01.NameOrders", spec := "nameOrders", unfollowed := true, recurses := true, apart := false, narrowed := true }
def NameOrdersUptoSaid : Prop := nameOrdersUptoRow.holds Try.pinned (OpenSpec.upto nameOrdersSpec)

/-- 'ciceronelaw01.NameCases', WHERE WHAT IT READS IS OF BULK AT MOST 1048576: true; the input reads as it did. -/
def nameCasesUptoRow : OpenClaim := { program := "ytfojdjlhpejbpaa", sum := "959ab0bb64fd89064fb14b485c25b36a1c7cf84bf5fa0ebfa75d85b53e754cd1", func := "cicerone/ciceronelaw01.NameCases", spec := "nameCases", unfollowed := true, recurses := true, apart := false, narrowed := true }
def NameCasesUptoSaid : Prop := nameCasesUptoRow.holds Try.pinned (OpenSpec.upto nameCasesSpec)

/-- 'ciceronelaw01.NameZones', WHERE WHAT IT READS IS OF BULK AT MOST 1048576: true; the input reads as it did. -/
def nameZonesUptoRow : OpenClaim := { program := "ytfojdjlhpejbpaa", sum := "959ab0bb64fd89064fb14b485c25b36a1c7cf84bf5fa0ebfa75d85b53e754cd1", func := "cicerone/ciceronelaw01.NameZones", spec := "nameZones", unfollowed := true, recurses := true, apart := false, narrowed := true }
def NameZonesUptoSaid : Prop := nameZonesUptoRow.holds Try.pinned (OpenSpec.upto nameZonesSpec)

/-- 'ciceronelaw01.NameTells', WHERE WHAT IT READS IS OF BULK AT MOST 1048576: true; the input reads as it did. -/
def nameTellsUptoRow : OpenClaim := { program := "ytfojdjlhpejbpaa", sum := "959ab0bb64fd89064fb14b485c25b36a1c7cf84bf5fa0ebfa75d85b53e754cd1", func := "cicerone/ciceronelaw01.NameTells", spec := "nameTells", inPlace := ["internal/abi.NoEscape"], apart := false, narrowed := true }
def NameTellsUptoSaid : Prop := nameTellsUptoRow.holds Try.pinned (OpenSpec.upto nameTellsSpec)

/-- 'ciceronelaw01.NameBack', WHERE WHAT IT READS IS OF BULK AT MOST 1048576: true; the input reads as it did. -/
def nameBackUptoRow : OpenClaim := { program := "ytfojdjlhpejbpaa", sum := "959ab0bb64fd89064fb14b485c25b36a1c7cf84bf5fa0ebfa75d85b53e754cd1", func := "cicerone/ciceronelaw01.NameBack", spec := "nameBack", inPlace := ["internal/abi.NoEscape"], apart := false, narrowed := true }
def NameBackUptoSaid : Prop := nameBackUptoRow.holds Try.pinned (OpenSpec.upto nameBackSpec)

end Rows
end Go.Proofs.Ytfojdjlhpejbpaa
