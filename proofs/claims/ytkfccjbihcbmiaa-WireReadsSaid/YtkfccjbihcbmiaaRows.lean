/-
  No cell of these rows narrows 'for every input' (looked for: loops, veiled, ifaces, maps, wideKeys, modest, calm, conditions, laid).
  DERIVED. THE GIVEN ROWS OF THIS SEAT. 7 by the template 'for every input the law returns true; each argument reads behind the call as it read before'; 0 by the template 'total and deterministic' (their statements: YtkfccjbihcbmiaaTotals.lean).
  GIVEN WITH THE SEED: the statements are not yours to turn. If you find one false, say at which input.
  Laid BY PROGRAM, IN A SANDBOX (cutbox-rows.mjs): the forced cells as the released guide's own fill.sh prints them over the translation 875dfade97c598c4… (all of the seat's roots in one cut). By AI agents, Wed Nov 11 2026. No macro, syntax, notation, axiom, sorry.
-/
import Derived.Test.YtkfccjbihcbmiaaChecked
import GoSem.Claim
import GoSem.ClaimJoined
import GoSem.ClaimMapViews
import Derived.JoinedTies
import Derived.KernelRfl
namespace Go.Proofs.Ytkfccjbihcbmiaa
/- THE CELL 'sum', in the pinned program and in every row, IS THE sha256 OF THE DUMP (.gsa) THAT YtkfccjbihcbmiaaProg.lean LOADS. Nothing in Lean hashes anything: it is a label: what it is worth is what the hold of that sum in a sandbox is worth. -/
noncomputable def Try.pinned : Pinned := { name := "ytkfccjbihcbmiaa", sum := "875dfade97c598c4069e81b3ee25c1daa70ac668360574c38892747cf4f89abc", checked := Try.checked }
namespace Rows
def none {H : Type} : Left H := { results := [], args := [] }

/-- 'ciceronelaw04.WirePoints': WHATEVER THE INPUT: true; the input reads as it did. -/
def wirePointsSpec : ChangeSpec := { name := "wirePoints", fn := fun _ => fun
  | [d1, d2, d3] => { results := [.lit (.bool true)], args := [d1, d2, d3] }
  | _ => none }
def wirePointsRow : OpenClaim := { program := "ytkfccjbihcbmiaa", sum := "875dfade97c598c4069e81b3ee25c1daa70ac668360574c38892747cf4f89abc", func := "cicerone/ciceronelaw04.WirePoints", spec := "wirePoints", unfollowed := true, recurses := true, apart := false }
def WirePointsSaid : Prop := wirePointsRow.holds Try.pinned (OpenSpec.ofChange wirePointsSpec)

/-- ITS FALSE NEIGHBOUR: 'it returns false'. Refute it at one input. -/
def wirePointsWrong : ChangeSpec := { name := "wirePoints", fn := fun _ => fun
  | [d1, d2, d3] => { results := [.lit (.bool false)], args := [d1, d2, d3] }
  | _ => none }
def WirePointsWrongFalsely : Prop := wirePointsRow.holds Try.pinned (OpenSpec.ofChange wirePointsWrong)

/-- 'ciceronelaw04.WireTrail': WHATEVER THE INPUT: true; the input reads as it did. -/
def wireTrailSpec : ChangeSpec := { name := "wireTrail", fn := fun _ => fun
  | [d1, d2] => { results := [.lit (.bool true)], args := [d1, d2] }
  | _ => none }
def wireTrailRow : OpenClaim := { program := "ytkfccjbihcbmiaa", sum := "875dfade97c598c4069e81b3ee25c1daa70ac668360574c38892747cf4f89abc", func := "cicerone/ciceronelaw04.WireTrail", spec := "wireTrail", unfollowed := true, recurses := true, apart := false }
def WireTrailSaid : Prop := wireTrailRow.holds Try.pinned (OpenSpec.ofChange wireTrailSpec)

/-- ITS FALSE NEIGHBOUR: 'it returns false'. Refute it at one input. -/
def wireTrailWrong : ChangeSpec := { name := "wireTrail", fn := fun _ => fun
  | [d1, d2] => { results := [.lit (.bool false)], args := [d1, d2] }
  | _ => none }
def WireTrailWrongFalsely : Prop := wireTrailRow.holds Try.pinned (OpenSpec.ofChange wireTrailWrong)

/-- 'ciceronelaw04.WireReads': WHATEVER THE INPUT: true; the input reads as it did. -/
def wireReadsSpec : ChangeSpec := { name := "wireReads", fn := fun _ => fun
  | [d] => { results := [.lit (.bool true)], args := [d] }
  | _ => none }
def wireReadsRow : OpenClaim := { program := "ytkfccjbihcbmiaa", sum := "875dfade97c598c4069e81b3ee25c1daa70ac668360574c38892747cf4f89abc", func := "cicerone/ciceronelaw04.WireReads", spec := "wireReads", unfollowed := true, recurses := true, apart := false }
def WireReadsSaid : Prop := wireReadsRow.holds Try.pinned (OpenSpec.ofChange wireReadsSpec)

/-- ITS FALSE NEIGHBOUR: 'it returns false'. Refute it at one input. -/
def wireReadsWrong : ChangeSpec := { name := "wireReads", fn := fun _ => fun
  | [d] => { results := [.lit (.bool false)], args := [d] }
  | _ => none }
def WireReadsWrongFalsely : Prop := wireReadsRow.holds Try.pinned (OpenSpec.ofChange wireReadsWrong)

/-- 'ciceronelaw04.WireBack': WHATEVER THE INPUT: true; the input reads as it did. -/
def wireBackSpec : ChangeSpec := { name := "wireBack", fn := fun _ => fun
  | [d] => { results := [.lit (.bool true)], args := [d] }
  | _ => none }
def wireBackRow : OpenClaim := { program := "ytkfccjbihcbmiaa", sum := "875dfade97c598c4069e81b3ee25c1daa70ac668360574c38892747cf4f89abc", func := "cicerone/ciceronelaw04.WireBack", spec := "wireBack", unfollowed := true, recurses := true, apart := false }
def WireBackSaid : Prop := wireBackRow.holds Try.pinned (OpenSpec.ofChange wireBackSpec)

/-- ITS FALSE NEIGHBOUR: 'it returns false'. Refute it at one input. -/
def wireBackWrong : ChangeSpec := { name := "wireBack", fn := fun _ => fun
  | [d] => { results := [.lit (.bool false)], args := [d] }
  | _ => none }
def WireBackWrongFalsely : Prop := wireBackRow.holds Try.pinned (OpenSpec.ofChange wireBackWrong)

/-- 'ciceronelaw04.WireAgain': WHATEVER THE INPUT: true; the input reads as it did. -/
def wireAgainSpec : ChangeSpec := { name := "wireAgain", fn := fun _ => fun
  | [d] => { results := [.lit (.bool true)], args := [d] }
  | _ => none }
def wireAgainRow : OpenClaim := { program := "ytkfccjbihcbmiaa", sum := "875dfade97c598c4069e81b3ee25c1daa70ac668360574c38892747cf4f89abc", func := "cicerone/ciceronelaw04.WireAgain", spec := "wireAgain", unfollowed := true, recurses := true, apart := false }
def WireAgainSaid : Prop := wireAgainRow.holds Try.pinned (OpenSpec.ofChange wireAgainSpec)

/-- ITS FALSE NEIGHBOUR: 'it returns false'. Refute it at one input. -/
def wireAgainWrong : ChangeSpec := { name := "wireAgain", fn := fun _ => fun
  | [d] => { results := [.lit (.bool false)], args := [d] }
  | _ => none }
def WireAgainWrongFalsely : Prop := wireAgainRow.holds Try.pinned (OpenSpec.ofChange wireAgainWrong)

/-- 'ciceronelaw04.WireLoops': WHATEVER THE INPUT: true; the input reads as it did. -/
def wireLoopsSpec : ChangeSpec := { name := "wireLoops", fn := fun _ => fun
  | [d1, d2] => { results := [.lit (.bool true)], args := [d1, d2] }
  | _ => none }
def wireLoopsRow : OpenClaim := { program := "ytkfccjbihcbmiaa", sum := "875dfade97c598c4069e81b3ee25c1daa70ac668360574c38892747cf4f89abc", func := "cicerone/ciceronelaw04.WireLoops", spec := "wireLoops", unfollowed := true, recurses := true, apart := false }
def WireLoopsSaid : Prop := wireLoopsRow.holds Try.pinned (OpenSpec.ofChange wireLoopsSpec)

/-- ITS FALSE NEIGHBOUR: 'it returns false'. Refute it at one input. -/
def wireLoopsWrong : ChangeSpec := { name := "wireLoops", fn := fun _ => fun
  | [d1, d2] => { results := [.lit (.bool false)], args := [d1, d2] }
  | _ => none }
def WireLoopsWrongFalsely : Prop := wireLoopsRow.holds Try.pinned (OpenSpec.ofChange wireLoopsWrong)

/-- 'ciceronelaw04.WireWrites': WHATEVER THE INPUT: true; the input reads as it did. -/
def wireWritesSpec : ChangeSpec := { name := "wireWrites", fn := fun _ => fun
  | [d] => { results := [.lit (.bool true)], args := [d] }
  | _ => none }
def wireWritesRow : OpenClaim := { program := "ytkfccjbihcbmiaa", sum := "875dfade97c598c4069e81b3ee25c1daa70ac668360574c38892747cf4f89abc", func := "cicerone/ciceronelaw04.WireWrites", spec := "wireWrites", unfollowed := true, recurses := true, apart := false }
def WireWritesSaid : Prop := wireWritesRow.holds Try.pinned (OpenSpec.ofChange wireWritesSpec)

/-- ITS FALSE NEIGHBOUR: 'it returns false'. Refute it at one input. -/
def wireWritesWrong : ChangeSpec := { name := "wireWrites", fn := fun _ => fun
  | [d] => { results := [.lit (.bool false)], args := [d] }
  | _ => none }
def WireWritesWrongFalsely : Prop := wireWritesRow.holds Try.pinned (OpenSpec.ofChange wireWritesWrong)

/- THE SECOND FORM. 'bulk': how many values and letters a reading holds, each counted each time it is reached (what is shared counts as often as it is met; a slice's spare places count too). A statement '..UptoSaid' is the law's where the arguments, and the package variables that the reading takes, are together of bulk at most 1048576: NARROWER than '..Said'. Prove '..Said' where nothing that the law and all that it calls make is longer than what came in: it says more and counts as full. Else prove '..UptoSaid'. A law counts once. -/
mutual
def uptoBulk {H : Type} : DataW H → Nat
  | .lit (.string bytes) => bytes.length + 1
  | .lit _ => 1
  | .nil => 1
  | .ptr d => uptoBulk d + 1
  | .slice elems spare => uptoBulkAll elems + uptoBulkAll spare + 1
  | .agg parts => uptoBulkAll parts + 1
  | .iface _ d => uptoBulk d + 1
  | .map entries => uptoBulkEntries entries + 1
  | .held _ => 1
def uptoBulkAll {H : Type} : List (DataW H) → Nat
  | [] => 0
  | d :: r => uptoBulk d + uptoBulkAll r
def uptoBulkEntries {H : Type} : List (Lit × DataW H) → Nat
  | [] => 0
  | x :: r => uptoBulkEntry x + uptoBulkEntries r
def uptoBulkEntry {H : Type} : Lit × DataW H → Nat
  | (.string bytes, d) => bytes.length + uptoBulk d + 1
  | (_, d) => uptoBulk d + 1
 end
def uptoSmall : (H : Type) → List (DataW H) → Bool := fun _ ds => decide (uptoBulkAll ds ≤ 1048576)
def OpenSpec.upto (s : _root_.Go.ChangeSpec) : _root_.Go.OpenSpec := { _root_.Go.OpenSpec.ofChange s with cond := some uptoSmall }

/-- 'ciceronelaw04.WirePoints', WHERE WHAT IT READS IS OF BULK AT MOST 1048576: true; the input reads as it did. -/
def wirePointsUptoRow : OpenClaim := { program := "ytkfccjbihcbmiaa", sum := "875dfade97c598c4069e81b3ee25c1daa70ac668360574c38892747cf4f89abc", func := "cicerone/ciceronelaw04.WirePoints", spec := "wirePoints", unfollowed := true, recurses := true, apart := false, narrowed := true }
def WirePointsUptoSaid : Prop := wirePointsUptoRow.holds Try.pinned (OpenSpec.upto wirePointsSpec)

/-- 'ciceronelaw04.WireTrail', WHERE WHAT IT READS IS OF BULK AT MOST 1048576: true; the input reads as it did. -/
def wireTrailUptoRow : OpenClaim := { program := "ytkfccjbihcbmiaa", sum := "875dfade97c598c4069e81b3ee25c1daa70ac668360574c38892747cf4f89abc", func := "cicerone/ciceronelaw04.WireTrail", spec := "wireTrail", unfollowed := true, recurses := true, apart := false, narrowed := true }
def WireTrailUptoSaid : Prop := wireTrailUptoRow.holds Try.pinned (OpenSpec.upto wireTrailSpec)

/-- 'ciceronelaw04.WireReads', WHERE WHAT IT READS IS OF BULK AT MOST 1048576: true; the input reads as it did. -/
def wireReadsUptoRow : OpenClaim := { program := "ytkfccjbihcbmiaa", sum := "875dfade97c598c4069e81b3ee25c1daa70ac668360574c38892747cf4f89abc", func := "cicerone/ciceronelaw04.WireReads", spec := "wireReads", unfollowed := true, recurses := true, apart := false, narrowed := true }
def WireReadsUptoSaid : Prop := wireReadsUptoRow.holds Try.pinned (OpenSpec.upto wireReadsSpec)

/-- 'ciceronelaw04.WireBack', WHERE WHAT IT READS IS OF BULK AT MOST 1048576: true; the input reads as it did. -/
def wireBackUptoRow : OpenClaim := { program := "ytkfccjbihcbmiaa", sum := "875dfade97c598c4069e81b3ee25c1daa70ac668360574c38892747cf4f89abc", func := "cicerone/ciceronelaw04.WireBack", spec := "wireBack", unfollowed := true, recurses := true, apart := false, narrowed := true }
def WireBackUptoSaid : Prop := wireBackUptoRow.holds Try.pinned (OpenSpec.upto wireBackSpec)

/-- 'ciceronelaw04.WireAgain', WHERE WHAT IT READS IS OF BULK AT MOST 1048576: true; the input reads as it did. -/
def wireAgainUptoRow : OpenClaim := { program := "ytkfccjbihcbmiaa", sum := "875dfade97c598c4069e81b3ee25c1daa70ac668360574c38892747cf4f89abc", func := "cicerone/ciceronelaw04.WireAgain", spec := "wireAgain", unfollowed := true, recurses := true, apart := false, narrowed := true }
def WireAgainUptoSaid : Prop := wireAgainUptoRow.holds Try.pinned (OpenSpec.upto wireAgainSpec)

/-- 'ciceronelaw04.WireLoops', WHERE WHAT IT READS IS OF BULK AT MOST 1048576: true; the input reads as it did. -/
def wireLoopsUptoRow : OpenClaim := { program := "ytkfccjbihcbmiaa", sum := "875dfade97c598c4069e81b3ee25c1daa70ac668360574c38892747cf4f89abc", func := "cicerone/ciceronelaw04.WireLoops", spec := "wireLoops", unfollowed := true, recurses := true, apart := false, narrowed := true }
def WireLoopsUptoSaid : Prop := wireLoopsUptoRow.holds Try.pinned (OpenSpec.upto wireLoopsSpec)

/-- 'ciceronelaw04.WireWrites', WHERE WHAT IT READS IS OF BULK AT MOST 1048576: true; the input reads as it did. -/
def wireWritesUptoRow : OpenClaim := { program := "ytkfccjbihcbmiaa", sum := "875dfade97c598c4069e81b3ee25c1daa70ac668360574c38892747cf4f89abc", func := "cicerone/ciceronelaw04.WireWrites", spec := "wireWrites", unfollowed := true, recurses := true, apart := false, narrowed := true }
def WireWritesUptoSaid : Prop := wireWritesUptoRow.holds Try.pinned (OpenSpec.upto wireWritesSpec)

end Rows
end Go.Proofs.Ytkfccjbihcbmiaa
