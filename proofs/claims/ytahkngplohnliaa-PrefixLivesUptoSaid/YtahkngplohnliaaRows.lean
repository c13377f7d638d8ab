/-
  No cell of these rows narrows 'for every input' (looked for: loops, veiled, ifaces, maps, wideKeys, modest, calm, conditions, laid).
  DERIVED. THE GIVEN ROWS OF THIS SEAT. 10 by the template 'for every input the law returns true; each argument reads behind the call as it read before'; 0 by the template 'total and deterministic' (their statements: YtahkngplohnliaaTotals.lean).
  GIVEN WITH THE SEED: the statements are not yours to turn. If you find one false, say at which input.
  Laid BY PROGRAM, IN A SANDBOX (cutbox-rows.mjs): the forced cells as the released guide's own fill.sh prints them over the translation b07f2addf88d01d0… (all of the seat's roots in one cut). By AI agents, Wed Nov 11 2026. No macro, syntax, notation, axiom, sorry.
-/
import Derived.Test.YtahkngplohnliaaChecked
import GoSem.Claim
import GoSem.ClaimJoined
import GoSem.ClaimMapViews
import Derived.JoinedTies
import Derived.KernelRfl
namespace Go.Proofs.Ytahkngplohnliaa
/- THE CELL 'sum', in the pinned program and in every row, IS THE sha256 OF THE DUMP (.gsa) THAT YtahkngplohnliaaProg.lean LOADS. Nothing in Lean hashes anything: it is a label: what it is worth is what the hold of that sum in a sandbox is worth. -/
noncomputable def Try.pinned : Pinned := { name := "ytahkngplohnliaa", sum := "b07f2addf88d01d0320c677ead18ffb98ae3e8c9f44f25daf1a5fe9dbb8e4d1a", checked := Try.checked }
namespace Rows
def none {H : Type} : Left H := { results := [], args := [] }

/-- 'ciceronelaw11.PrefixWrites': WHATEVER THE INPUT: true; the input reads as it did. -/
def prefixWritesSpec : ChangeSpec := { name := "prefixWrites", fn := fun _ => fun
  | [d] => { results := [.lit (.bool true)], args := [d] }
  | _ => none }
def prefixWritesRow : OpenClaim := { program := "ytahkngplohnliaa", sum := "b07f2addf88d01d0320c677ead18ffb98ae3e8c9f44f25daf1a5fe9dbb8e4d1a", func := "cicerone/ciceronelaw11.PrefixWrites", spec := "prefixWrites", apart := false }
def PrefixWritesSaid : Prop := prefixWritesRow.holds Try.pinned (OpenSpec.ofChange prefixWritesSpec)

/-- ITS FALSE NEIGHBOUR: 'it returns false'. Refute it at one input. -/
def prefixWritesWrong : ChangeSpec := { name := "prefixWrites", fn := fun _ => fun
  | [d] => { results := [.lit (.bool false)], args := [d] }
  | _ => none }
def PrefixWritesWrongFalsely : Prop := prefixWritesRow.holds Try.pinned (OpenSpec.ofChange prefixWritesWrong)

/-- 'ciceronelaw02.HeaderWrites': WHATEVER THE INPUT: true; the input reads as it did. -/
def headerWritesSpec : ChangeSpec := { name := "headerWrites", fn := fun _ => fun
  | [d1, d2] => { results := [.lit (.bool true)], args := [d1, d2] }
  | _ => none }
def headerWritesRow : OpenClaim := { program := "ytahkngplohnliaa", sum := "b07f2addf88d01d0320c677ead18ffb98ae3e8c9f44f25daf1a5fe9dbb8e4d1a", func := "cicerone/ciceronelaw02.HeaderWrites", spec := "headerWrites", unfollowed := true, recurses := true, apart := false }
def HeaderWritesSaid : Prop := headerWritesRow.holds Try.pinned (OpenSpec.ofChange headerWritesSpec)

/-- ITS FALSE NEIGHBOUR: 'it returns false'. Refute it at one input. -/
def headerWritesWrong : ChangeSpec := { name := "headerWrites", fn := fun _ => fun
  | [d1, d2] => { results := [.lit (.bool false)], args := [d1, d2] }
  | _ => none }
def HeaderWritesWrongFalsely : Prop := headerWritesRow.holds Try.pinned (OpenSpec.ofChange headerWritesWrong)

/-- 'ciceronelaw02.HeaderFlags': WHATEVER THE INPUT: true; the input reads as it did. -/
def headerFlagsSpec : ChangeSpec := { name := "headerFlags", fn := fun _ => fun
  | [d1, d2] => { results := [.lit (.bool true)], args := [d1, d2] }
  | _ => none }
def headerFlagsRow : OpenClaim := { program := "ytahkngplohnliaa", sum := "b07f2addf88d01d0320c677ead18ffb98ae3e8c9f44f25daf1a5fe9dbb8e4d1a", func := "cicerone/ciceronelaw02.HeaderFlags", spec := "headerFlags", unfollowed := true, recurses := true, apart := false }
def HeaderFlagsSaid : Prop := headerFlagsRow.holds Try.pinned (OpenSpec.ofChange headerFlagsSpec)

/-- ITS FALSE NEIGHBOUR: 'it returns false'. Refute it at one input. -/
def headerFlagsWrong : ChangeSpec := { name := "headerFlags", fn := fun _ => fun
  | [d1, d2] => { results := [.lit (.bool false)], args := [d1, d2] }
  | _ => none }
def HeaderFlagsWrongFalsely : Prop := headerFlagsRow.holds Try.pinned (OpenSpec.ofChange headerFlagsWrong)

/-- 'ciceronelaw11.PrefixWaits': WHATEVER THE INPUT: true; the input reads as it did. -/
def prefixWaitsSpec : ChangeSpec := { name := "prefixWaits", fn := fun _ => fun
  | [d1, d2] => { results := [.lit (.bool true)], args := [d1, d2] }
  | _ => none }
def prefixWaitsRow : OpenClaim := { program := "ytahkngplohnliaa", sum := "b07f2addf88d01d0320c677ead18ffb98ae3e8c9f44f25daf1a5fe9dbb8e4d1a", func := "cicerone/ciceronelaw11.PrefixWaits", spec := "prefixWaits", apart := false }
def PrefixWaitsSaid : Prop := prefixWaitsRow.holds Try.pinned (OpenSpec.ofChange prefixWaitsSpec)

/-- ITS FALSE NEIGHBOUR: 'it returns false'. Refute it at one input. -/
def prefixWaitsWrong : ChangeSpec := { name := "prefixWaits", fn := fun _ => fun
  | [d1, d2] => { results := [.lit (.bool false)], args := [d1, d2] }
  | _ => none }
def PrefixWaitsWrongFalsely : Prop := prefixWaitsRow.holds Try.pinned (OpenSpec.ofChange prefixWaitsWrong)

/-- 'ciceronelaw11.PrefixLives': WHATEVER THE INPUT: true; the input reads as it did. -/
def prefixLivesSpec : ChangeSpec := { name := "prefixLives", fn := fun _ => fun
  | [d] => { results := [.lit (.bool true)], args := [d] }
  | _ => none }
def prefixLivesRow : OpenClaim := { program := "ytahkngplohnliaa", sum := "b07f2addf88d01d0320c677ead18ffb98ae3e8c9f44f25daf1a5fe9dbb8e4d1a", func := "cicerone/ciceronelaw11.PrefixLives", spec := "prefixLives", unfollowed := true, recurses := true, apart := false }
def PrefixLivesSaid : Prop := prefixLivesRow.holds Try.pinned (OpenSpec.ofChange prefixLivesSpec)

/-- ITS FALSE NEIGHBOUR: 'it returns false'. Refute it at one input. -/
def prefixLivesWrong : ChangeSpec := { name := "prefixLives", fn := fun _ => fun
  | [d] => { results := [.lit (.bool false)], args := [d] }
  | _ => none }
def PrefixLivesWrongFalsely : Prop := prefixLivesRow.holds Try.pinned (OpenSpec.ofChange prefixLivesWrong)

/-- 'ciceronelaw02.HeaderOnce': WHATEVER THE INPUT: true; the input reads as it did. -/
def headerOnceSpec : ChangeSpec := { name := "headerOnce", fn := fun _ => fun
  | [d] => { results := [.lit (.bool true)], args := [d] }
  | _ => none }
def headerOnceRow : OpenClaim := { program := "ytahkngplohnliaa", sum := "b07f2addf88d01d0320c677ead18ffb98ae3e8c9f44f25daf1a5fe9dbb8e4d1a", func := "cicerone/ciceronelaw02.HeaderOnce", spec := "headerOnce", unfollowed := true, recurses := true, apart := false }
def HeaderOnceSaid : Prop := headerOnceRow.holds Try.pinned (OpenSpec.ofChange headerOnceSpec)

/-- ITS FALSE NEIGHBOUR: 'it returns false'. Refute it at one input. -/
def headerOnceWrong : ChangeSpec := { name := "headerOnce", fn := fun _ => fun
  | [d] => { results := [.lit (.bool false)], args := [d] }
  | _ => none }
def HeaderOnceWrongFalsely : Prop := headerOnceRow.holds Try.pinned (OpenSpec.ofChange headerOnceWrong)

/-- 'ciceronelaw11.PrefixBack': WHATEVER THE INPUT: true; the input reads as it did. -/
def prefixBackSpec : ChangeSpec := { name := "prefixBack", fn := fun _ => fun
  | [d1, d2] => { results := [.lit (.bool true)], args := [d1, d2] }
  | _ => none }
def prefixBackRow : OpenClaim := { program := "ytahkngplohnliaa", sum := "b07f2addf88d01d0320c677ead18ffb98ae3e8c9f44f25daf1a5fe9dbb8e4d1a", func := "cicerone/ciceronelaw11.PrefixBack", spec := "prefixBack", unfollowed := true, recurses := true, apart := false }
def PrefixBackSaid : Prop := prefixBackRow.holds Try.pinned (OpenSpec.ofChange prefixBackSpec)

/-- ITS FALSE NEIGHBOUR: 'it returns false'. Refute it at one input. -/
def prefixBackWrong : ChangeSpec := { name := "prefixBack", fn := fun _ => fun
  | [d1, d2] => { results := [.lit (.bool false)], args := [d1, d2] }
  | _ => none }
def PrefixBackWrongFalsely : Prop := prefixBackRow.holds Try.pinned (OpenSpec.ofChange prefixBackWrong)

/-- 'ciceronelaw11.PrefixNobody': WHATEVER THE INPUT: true; the input reads as it did. -/
def prefixNobodySpec : ChangeSpec := { name := "prefixNobody", fn := fun _ => fun
  | [d] => { results := [.lit (.bool true)], args := [d] }
  | _ => none }
def prefixNobodyRow : OpenClaim := { program := "ytahkngplohnliaa", sum := "b07f2addf88d01d0320c677ead18ffb98ae3e8c9f44f25daf1a5fe9dbb8e4d1a", func := "cicerone/ciceronelaw11.PrefixNobody", spec := "prefixNobody", unfollowed := true, recurses := true, apart := false }
def PrefixNobodySaid : Prop := prefixNobodyRow.holds Try.pinned (OpenSpec.ofChange prefixNobodySpec)

/-- ITS FALSE NEIGHBOUR: 'it returns false'. Refute it at one input. -/
def prefixNobodyWrong : ChangeSpec := { name := "prefixNobody", fn := fun _ => fun
  | [d] => { results := [.lit (.bool false)], args := [d] }
  | _ => none }
def PrefixNobodyWrongFalsely : Prop := prefixNobodyRow.holds Try.pinned (OpenSpec.ofChange prefixNobodyWrong)

/-- 'ciceronelaw02.HeaderReads': WHATEVER THE INPUT: true; the input reads as it did. -/
def headerReadsSpec : ChangeSpec := { name := "headerReads", fn := fun _ => fun
  | [d] => { results := [.lit (.bool true)], args := [d] }
  | _ => none }
def headerReadsRow : OpenClaim := { program := "ytahkngplohnliaa", sum := "b07f2addf88d01d0320c677ead18ffb98ae3e8c9f44f25daf1a5fe9dbb8e4d1a", func := "cicerone/ciceronelaw02.HeaderReads", spec := "headerReads", unfollowed := true, recurses := true, apart := false }
def HeaderReadsSaid : Prop := headerReadsRow.holds Try.pinned (OpenSpec.ofChange headerReadsSpec)

/-- ITS FALSE NEIGHBOUR: 'it returns false'. Refute it at one input. -/
def headerReadsWrong : ChangeSpec := { name := "headerReads", fn := fun _ => fun
  | [d] => { results := [.lit (.bool false)], args := [d] }
  | _ => none }
def HeaderReadsWrongFalsely : Prop := headerReadsRow.holds Try.pinned (OpenSpec.ofChange headerReadsWrong)

/-- 'ciceronelaw02.HeaderBack': WHATEVER THE INPUT: true; the input reads as it did. -/
def headerBackSpec : ChangeSpec := { name := "headerBack", fn := fun _ => fun
  | [d1, d2, d3] => { results := [.lit (.bool true)], args := [d1, d2, d3] }
  | _ => none }
def headerBackRow : OpenClaim := { program := "ytahkngplohnliaa", sum := "b07f2addf88d01d0320c677ead18ffb98ae3e8c9f44f25daf1a5fe9dbb8e4d1a", func := "cicerone/ciceronelaw02.HeaderBack", spec := "headerBack", unfollowed := true, recurses := true, apart := false }
def HeaderBackSaid : Prop := headerBackRow.holds Try.pinned (OpenSpec.ofChange headerBackSpec)

/-- ITS FALSE NEIGHBOUR: 'it returns false'. Refute it at one input. -/
def headerBackWrong : ChangeSpec := { name := "headerBack", fn := fun _ => fun
  | [d1, d2, d3] => { results := [.lit (.bool false)], args := [d1, d2, d3] }
  | _ => none }
def HeaderBackWrongFalsely : Prop := headerBackRow.holds Try.pinned (OpenSpec.ofChange headerBackWrong)

/- THE SECOND FORM. 'bulk': how many values and letters a reading holds, each counted each time it is reached (what is shared counts as often as it is met; a slice's spare places count too). A statement '..UptoSaid' is the law's where the arguments, and the package variables that the reading takes, are together of bulk at most 1048576: NARROWER than '..Said'. Prove '..Said' where nothing that the law and all that it calls make is longer than what came in: it says more and counts as full. Else prove '..UptoSaid'. A law counts once. -/
mutual
def uptoBulk {H : Type} : DataW H → Nat
  | .lit (.string bytes) => bytes.length + 1
  | .lit _ => 1
  | .nil => 1
  | .ptr d => uptoBulk d + 1
  | .slice elems spare => uptoBulkAll elems + uptoBulkAll spare + 1
  | .agg parts => uptoBulkAll parts + 1
  | .iface _ d => uptoBulk d + 1
  | .map entries => uptoBulkEntries entries + 1
  | .held _ => 1
def uptoBulkAll {H : Type} : List (DataW H) → Nat
  | [] => 0
  | d :: r => uptoBulk d + uptoBulkAll r
def uptoBulkEntries {H : Type} : List (Lit × DataW H) → Nat
  | [] => 0
  | x :: r => uptoBulkEntry x + uptoBulkEntries r
def uptoBulkEntry {H : Type} : Lit × DataW H → Nat
  | (.string bytes, d) => bytes.length + uptoBulk d + 1
  | (_, d) => uptoBulk d + 1
 end
def uptoSmall : (H : Type) → List (DataW H) → Bool := fun _ ds => decide (uptoBulkAll ds ≤ 1048576)
def OpenSpec.upto (s : _root_.Go.ChangeSpec) : _root_.Go.OpenSpec := { _root_.Go.OpenSpec.ofChange s with cond := some uptoSmall }

/-- 'ciceronelaw11.PrefixWrites', WHERE WHAT IT READS IS OF BULK AT MOST 1048576: true; the input reads as it did. -/
def prefixWritesUptoRow : OpenClaim := { program := "ytahkngplohnliaa", sum := "b07f2addf88d01d0320c677ead18ffb98ae3e8c9f44f25daf1a5fe9dbb8e4d1a", func := "cicerone/ciceronelaw11.PrefixWrites", spec := "prefixWrites", apart := false, narrowed := true }
def PrefixWritesUptoSaid : Prop := prefixWritesUptoRow.holds Try.pinned (OpenSpec.upto prefixWritesSpec)

/-- 'ciceronelaw02.HeaderWrites', WHERE WHAT IT READS IS OF BULK AT MOST 1048576: true; the input reads as it did. -/
def headerWritesUptoRow : OpenClaim := { program := "ytahkngplohnliaa", sum := "b07f2addf88d01d0320c677ead18ffb98ae3e8c9f44f25daf1a5fe9dbb8e4d1a", func := "cicerone/ciceronelaw02.HeaderWrites", spec := "headerWrites", unfollowed := true, recurses := true, apart := false, narrowed := true }
def HeaderWritesUptoSaid : Prop := headerWritesUptoRow.holds Try.pinned (OpenSpec.upto headerWritesSpec)

/-- 'ciceronelaw02.HeaderFlags', WHERE WHAT IT READS IS OF BULK AT MOST 1048576: true; the input reads as it did. -/
def headerFlagsUptoRow : OpenClaim := { program := "ytahkngplohnliaa", sum := "b07f2addf88d01d0320c677ead18ffb98ae3e8c9f44f25daf1a5fe9dbb8e4d1a", func := "cicerone/ciceronelaw02.HeaderFlags", spec := "headerFlags", unfollowed := true, recurses := true, apart := false, narrowed := true }
def HeaderFlagsUptoSaid : Prop := headerFlagsUptoRow.holds Try.pinned (OpenSpec.upto headerFlagsSpec)

/-- 'ciceronelaw11.PrefixWaits', WHERE WHAT IT READS IS OF BULK AT MOST 1048576: true; the input reads as it did. -/
def prefixWaitsUptoRow : OpenClaim := { program := "ytahkngplohnliaa", sum := "b07f2addf88d01d0320c677ead18ffb98ae3e8c9f44f25daf1a5fe9dbb8e4d1a", func := "cicerone/ciceronelaw11.PrefixWaits", spec := "prefixWaits", apart := false, narrowed := true }
def PrefixWaitsUptoSaid : Prop := prefixWaitsUptoRow.holds Try.pinned (OpenSpec.upto prefixWaitsSpec)

/-- 'ciceronelaw11.PrefixLives', WHERE WHAT IT READS IS OF BULK AT MOST 1048576: true; the input reads as it did. -/
def prefixLivesUptoRow : OpenClaim := { program := "ytahkngplohnliaa", sum := "b07f2addf88d01d0320c677ead18ffb98ae3e8c9f44f25daf1a5fe9dbb8e4d1a", func := "cicerone/ciceronelaw11.PrefixLives", spec := "prefixLives", unfollowed := true, recurses := true, apart := false, narrowed := true }
def PrefixLivesUptoSaid : Prop := prefixLivesUptoRow.holds Try.pinned (OpenSpec.upto prefixLivesSpec)

/-- 'ciceronelaw02.HeaderOnce', WHERE WHAT IT READS IS OF BULK AT MOST 1048576: true; the input reads as it did. -/
def headerOnceUptoRow : OpenClaim := { program := "ytahkngplohnliaa", sum := "b07f2addf88d01d0320c677ead18ffb98ae3e8c9f44f25daf1a5fe9dbb8e4d1a", func := "cicerone/ciceronelaw02.HeaderOnce", spec := "headerOnce", unfollowed := true, recurses := true, apart := false, narrowed := true }
def HeaderOnceUptoSaid : Prop := headerOnceUptoRow.holds Try.pinned (OpenSpec.upto headerOnceSpec)

/-- 'ciceronelaw11.PrefixBack', WHERE WHAT IT READS IS OF BULK AT MOST 1048576: true; the input reads as it did. -/
def prefixBackUptoRow : OpenClaim := { program := "ytahkngplohnliaa", sum := "b07f2addf88d01d0320c677ead18ffb98ae3e8c9f44f25daf1a5fe9dbb8e4d1a", func := "cicerone/ciceronelaw11.PrefixBack", spec := "prefixBack", unfollowed := true, recurses := true, apart := false, narrowed := true }
def PrefixBackUptoSaid : Prop := prefixBackUptoRow.holds Try.pinned (OpenSpec.upto prefixBackSpec)

/-- 'ciceronelaw11.PrefixNobody', WHERE WHAT IT READS IS OF BULK AT MOST 1048576: true; the input reads as it did. -/
def prefixNobodyUptoRow : OpenClaim := { program := "ytahkngplohnliaa", sum := "b07f2addf88d01d0320c677ead18ffb98ae3e8c9f44f25daf1a5fe9dbb8e4d1a", func := "cicerone/ciceronelaw11.PrefixNobody", spec := "prefixNobody", unfollowed := true, recurses := true, apart := false, narrowed := true }
def PrefixNobodyUptoSaid : Prop := prefixNobodyUptoRow.holds Try.pinned (OpenSpec.upto prefixNobodySpec)

/-- 'ciceronelaw02.HeaderReads', WHERE WHAT IT READS IS OF BULK AT MOST 1048576: true; the input reads as it did. -/
def headerReadsUptoRow : OpenClaim := { program := "ytahkngplohnliaa", sum := "b07f2addf88d01d0320c677ead18ffb98ae3e8c9f44f25daf1a5fe9dbb8e4d1a", func := "cicerone/ciceronelaw02.HeaderReads", spec := "headerReads", unfollowed := true, recurses := true, apart := false, narrowed := true }
def HeaderReadsUptoSaid : Prop := headerReadsUptoRow.holds Try.pinned (OpenSpec.upto headerReadsSpec)

/-- 'ciceronelaw02.HeaderBack', WHERE WHAT IT READS IS OF BULK AT MOST 1048576: true; the input reads as it did. -/
def headerBackUptoRow : OpenClaim := { program := "ytahkngplohnliaa", sum := "b07f2addf88d01d0320c677ead18ffb98ae3e8c9f44f25daf1a5fe9dbb8e4d1a", func := "cicerone/ciceronelaw02.HeaderBack", spec := "headerBack", unfollowed := true, recurses := true, apart := false, narrowed := true }
def HeaderBackUptoSaid : Prop := headerBackUptoRow.holds Try.pinned (OpenSpec.upto headerBackSpec)

end Rows
end Go.Proofs.Ytahkngplohnliaa
