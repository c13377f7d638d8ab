/-
  No cell of these rows narrows 'for every input' (looked for: loops, veiled, ifaces, maps, wideKeys, modest, calm, conditions, laid).
  DERIVED. THE GIVEN ROWS OF THIS SEAT. 7 by the template 'for every input the law returns true; each argument reads behind the call as it read before'; 0 by the template 'total and deterministic' (their statements: YtaemmklgofddmaaTotals.lean).
  GIVEN WITH THE SEED: the statements are not yours to turn. If you find one false, say at which input.
  Laid BY PROGRAM, IN A SANDBOX (cutbox-rows.mjs): the forced cells as the released guide's own fill.sh prints them over the translation 2f1e21ec8d2ccca2… (all of the seat's roots in one cut). By AI agents, Wed Nov 11 2026. No macro, syntax, notation, axiom, sorry.
-/
import Derived.Test.YtaemmklgofddmaaChecked
import GoSem.Claim
import GoSem.ClaimJoined
import GoSem.ClaimMapViews
import Derived.JoinedTies
import Derived.KernelRfl
namespace Go.Proofs.Ytaemmklgofddmaa
/- THE CELL 'sum', in the pinned program and in every row, IS THE sha256 OF THE DUMP (.gsa) THAT YtaemmklgofddmaaProg.lean LOADS. Nothing in Lean hashes anything: it is a label: what it is worth is what the hold of that sum in a sandbox is worth. -/
noncomputable def Try.pinned : Pinned := { name := "ytaemmklgofddmaa", sum := "2f1e21ec8d2ccca20d43890c5ef37453951f866067b0bec9d184b5024dc7e636", checked := Try.checked }
namespace Rows
def none {H : Type} : Left H := { results := [], args := [] }

/-- 'ciceronelaw24.AuditBare': WHATEVER THE INPUT: true; the input reads as it did. -/
def auditBareSpec : ChangeSpec := { name := "auditBare", fn := fun _ => fun
  | [d1, d2] => { results := [.lit (.bool true)], args := [d1, d2] }
  | _ => none }
def auditBareRow : OpenClaim := { program := "ytaemmklgofddmaa", sum := "2f1e21ec8d2ccca20d43890c5ef37453951f866067b0bec9d184b5024dc7e636", func := "cicerone/ciceronelaw24.AuditBare", spec := "auditBare", unfollowed := true, recurses := true, apart := false }
def AuditBareSaid : Prop := auditBareRow.holds Try.pinned (OpenSpec.ofChange auditBareSpec)

/-- ITS FALSE NEIGHBOUR: 'it returns false'. Refute it at one input. -/
def auditBareWrong : ChangeSpec := { name := "auditBare", fn := fun _ => fun
  | [d1, d2] => { results := [.lit (.bool false)], args := [d1, d2] }
  | _ => none }
def AuditBareWrongFalsely : Prop := auditBareRow.holds Try.pinned (OpenSpec.ofChange auditBareWrong)

/-- 'ciceronelaw08.EntryTells': WHATEVER THE INPUT: true; the input reads as it did. -/
def entryTellsSpec : ChangeSpec := { name := "entryTells", fn := fun _ => fun
  | [d] => { results := [.lit (.bool true)], args := [d] }
  | _ => none }
def entryTellsRow : OpenClaim := { program := "ytaemmklgofddmaa", sum := "2f1e21ec8d2ccca20d43890c5ef37453951f866067b0bec9d184b5024dc7e636", func := "cicerone/ciceronelaw08.EntryTells", spec := "entryTells", unfollowed := true, recurses := true, apart := false }
def EntryTellsSaid : Prop := entryTellsRow.holds Try.pinned (OpenSpec.ofChange entryTellsSpec)

/-- ITS FALSE NEIGHBOUR: 'it returns false'. Refute it at one input. -/
def entryTellsWrong : ChangeSpec := { name := "entryTells", fn := fun _ => fun
  | [d] => { results := [.lit (.bool false)], args := [d] }
  | _ => none }
def EntryTellsWrongFalsely : Prop := entryTellsRow.holds Try.pinned (OpenSpec.ofChange entryTellsWrong)

/-- 'ciceronelaw08.EntrySame': WHATEVER THE INPUT: true; the input reads as it did. -/
def entrySameSpec : ChangeSpec := { name := "entrySame", fn := fun _ => fun
  | [d1, d2] => { results := [.lit (.bool true)], args := [d1, d2] }
  | _ => none }
def entrySameRow : OpenClaim := { program := "ytaemmklgofddmaa", sum := "2f1e21ec8d2ccca20d43890c5ef37453951f866067b0bec9d184b5024dc7e636", func := "cicerone/ciceronelaw08.EntrySame", spec := "entrySame", unfollowed := true, recurses := true, apart := false }
def EntrySameSaid : Prop := entrySameRow.holds Try.pinned (OpenSpec.ofChange entrySameSpec)

/-- ITS FALSE NEIGHBOUR: 'it returns false'. Refute it at one input. -/
def entrySameWrong : ChangeSpec := { name := "entrySame", fn := fun _ => fun
  | [d1, d2] => { results := [.lit (.bool false)], args := [d1, d2] }
  | _ => none }
def EntrySameWrongFalsely : Prop := entrySameRow.holds Try.pinned (OpenSpec.ofChange entrySameWrong)

/-- 'ciceronelaw08.EntryReads': WHATEVER THE INPUT: true; the input reads as it did. -/
def entryReadsSpec : ChangeSpec := { name := "entryReads", fn := fun _ => fun
  | [d] => { results := [.lit (.bool true)], args := [d] }
  | _ => none }
def entryReadsRow : OpenClaim := { program := "ytaemmklgofddmaa", sum := "2f1e21ec8d2ccca20d43890c5ef37453951f866067b0bec9d184b5024dc7e636", func := "cicerone/ciceronelaw08.EntryReads", spec := "entryReads", unfollowed := true, recurses := true, apart := false }
def EntryReadsSaid : Prop := entryReadsRow.holds Try.pinned (OpenSpec.ofChange entryReadsSpec)

/-- ITS FALSE NEIGHBOUR: 'it returns false'. Refute it at one input. -/
def entryReadsWrong : ChangeSpec := { name := "entryReads", fn := fun _ => fun
  | [d] => { results := [.lit (.bool false)], args := [d] }
  | _ => none }
def EntryReadsWrongFalsely : Prop := entryReadsRow.holds Try.pinned (OpenSpec.ofChange entryReadsWrong)

/-- 'ciceronelaw08.EntryBack': WHATEVER THE INPUT: true; the input reads as it did. -/
def entryBackSpec : ChangeSpec := { name := "entryBack", fn := fun _ => fun
  | [d1, d2] => { results := [.lit (.bool true)], args := [d1, d2] }
  | _ => none }
def entryBackRow : OpenClaim := { program := "ytaemmklgofddmaa", sum := "2f1e21ec8d2ccca20d43890c5ef37453951f866067b0bec9d184b5024dc7e636", func := "cicerone/ciceronelaw08.EntryBack", spec := "entryBack", unfollowed := true, recurses := true, apart := false }
def EntryBackSaid : Prop := entryBackRow.holds Try.pinned (OpenSpec.ofChange entryBackSpec)

/-- ITS FALSE NEIGHBOUR: 'it returns false'. Refute it at one input. -/
def entryBackWrong : ChangeSpec := { name := "entryBack", fn := fun _ => fun
  | [d1, d2] => { results := [.lit (.bool false)], args := [d1, d2] }
  | _ => none }
def EntryBackWrongFalsely : Prop := entryBackRow.holds Try.pinned (OpenSpec.ofChange entryBackWrong)

/-- 'ciceronelaw08.EntryShort': WHATEVER THE INPUT: true; the input reads as it did. -/
def entryShortSpec : ChangeSpec := { name := "entryShort", fn := fun _ => fun
  | [d1, d2, d3] => { results := [.lit (.bool true)], args := [d1, d2, d3] }
  | _ => none }
def entryShortRow : OpenClaim := { program := "ytaemmklgofddmaa", sum := "2f1e21ec8d2ccca20d43890c5ef37453951f866067b0bec9d184b5024dc7e636", func := "cicerone/ciceronelaw08.EntryShort", spec := "entryShort", unfollowed := true, recurses := true, apart := false }
def EntryShortSaid : Prop := entryShortRow.holds Try.pinned (OpenSpec.ofChange entryShortSpec)

/-- ITS FALSE NEIGHBOUR: 'it returns false'. Refute it at one input. -/
def entryShortWrong : ChangeSpec := { name := "entryShort", fn := fun _ => fun
  | [d1, d2, d3] => { results := [.lit (.bool false)], args := [d1, d2, d3] }
  | _ => none }
def EntryShortWrongFalsely : Prop := entryShortRow.holds Try.pinned (OpenSpec.ofChange entryShortWrong)

/-- 'ciceronelaw08.EntryKeys': WHATEVER THE INPUT: true; the input reads as it did. -/
def entryKeysSpec : ChangeSpec := { name := "entryKeys", fn := fun _ => fun
  | [d] => { results := [.lit (.bool true)], args := [d] }
  | _ => none }
def entryKeysRow : OpenClaim := { program := "ytaemmklgofddmaa", sum := "2f1e21ec8d2ccca20d43890c5ef37453951f866067b0bec9d184b5024dc7e636", func := "cicerone/ciceronelaw08.EntryKeys", spec := "entryKeys", unfollowed := true, recurses := true, apart := false }
def EntryKeysSaid : Prop := entryKeysRow.holds Try.pinned (OpenSpec.ofChange entryKeysSpec)

/-- ITS FALSE NEIGHBOUR: 'it returns false'. Refute it at one input. -/
def entryKeysWrong : ChangeSpec := { name := "entryKeys", fn := fun _ => fun
  | [d] => { results := [.lit (.bool false)], args := [d] }
  | _ => none }
def EntryKeysWrongFalsely : Prop := entryKeysRow.holds Try.pinned (OpenSpec.ofChange entryKeysWrong)

/- THE SECOND FORM. 'bulk': how many values and letters a reading holds, each counted each time it is reached (what is shared counts as often as it is met; a slice's spare places count too). A statement '..UptoSaid' is the law's where the arguments, and the package variables that the reading takes, are together of bulk at most 1048576: NARROWER than '..Said'. Prove '..Said' where nothing that the law and all that it calls make is longer than what came in: it says more and counts as full. Else prove '..UptoSaid'. A law counts once. -/
mutual
def uptoBulk {H : Type} : DataW H → Nat
  | .lit (.string bytes) => bytes.length + 1
  | .lit _ => 1
  | .nil => 1
  | .ptr d => uptoBulk d + 1
  | .slice elems spare => uptoBulkAll elems + uptoBulkAll spare + 1
  | .agg parts => uptoBulkAll parts + 1
  | .iface _ d => uptoBulk d + 1
  | .map entries => uptoBulkEntries entries + 1
  | .held _ => 1
def uptoBulkAll {H : Type} : List (DataW H) → Nat
  | [] => 0
  | d :: r => uptoBulk d + uptoBulkAll r
def uptoBulkEntries {H : Type} : List (Lit × DataW H) → Nat
  | [] => 0
  | x :: r => uptoBulkEntry x + uptoBulkEntries r
def uptoBulkEntry {H : Type} : Lit × DataW H → Nat
  | (.string bytes, d) => bytes.length + uptoBulk d + 1
  | (_, d) => uptoBulk d + 1
 end
def uptoSmall : (H : Type) → List (DataW H) → Bool := fun _ ds => decide (uptoBulkAll ds ≤ 1048576)
def OpenSpec.upto (s : _root_.Go.ChangeSpec) : _root_.Go.OpenSpec := { _root_.Go.OpenSpec.ofChange s with cond := some uptoSmall }

/-- 'ciceronelaw24.AuditBare', WHERE WHAT IT READS IS OF BULK AT MOST 1048576: true; the input reads as it did. -/
def auditBareUptoRow : OpenClaim := { program := "ytaemmklgofddmaa", sum := "2f1e21ec8d2ccca20d43890c5ef37453951f866067b0bec9d184b5024dc7e636", func := "cicerone/ciceronelaw24.AuditBare", spec := "auditBare", unfollowed := true, recurses := true, apart := false, narrowed := true }
def AuditBareUptoSaid : Prop := auditBareUptoRow.holds Try.pinned (OpenSpec.upto auditBareSpec)

/-- 'ciceronelaw08.EntryTells', WHERE WHAT IT READS IS OF BULK AT MOST 1048576: true; the input reads as it did. -/
def entryTellsUptoRow : OpenClaim := { program := "ytaemmklgofddmaa", sum := "2f1e21ec8d2ccca20d43890c5ef37453951f866067b0bec9d184b5024dc7e636", func := "cicerone/ciceronelaw08.EntryTells", spec := "entryTells", unfollowed := true, recurses := true, apart := false, narrowed := true }
def EntryTellsUptoSaid : Prop := entryTellsUptoRow.holds Try.pinned (OpenSpec.upto entryTellsSpec)

/-- 'ciceronelaw08.EntrySame', WHERE WHAT IT READS IS OF BULK AT MOST 1048576: true; the input reads as it did. -/
def entrySameUptoRow : OpenClaim := { program := "ytaemmklgofddmaa", sum := "2f1e21ec8d2ccca20d43890c5ef37453951f866067b0bec9d184b5024dc7e636", func := "cicerone/ciceronelaw08.EntrySame", spec := "entrySame", unfollowed := true, recurses := true, apart := false, narrowed := true }
def EntrySameUptoSaid : Prop := entrySameUptoRow.holds Try.pinned (OpenSpec.upto entrySameSpec)

/-- 'ciceronelaw08.EntryReads', WHERE WHAT IT READS IS OF BULK AT MOST 1048576: true; the input reads as it did. -/
def entryReadsUptoRow : OpenClaim := { program := "ytaemmklgofddmaa", sum := "2f1e21ec8d2ccca20d43890c5ef37453951f866067b0bec9d184b5024dc7e636", func := "cicerone/ciceronelaw08.EntryReads", spec := "entryReads", unfollowed := true, recurses := true, apart := false, narrowed := true }
def EntryReadsUptoSaid : Prop := entryReadsUptoRow.holds Try.pinned (OpenSpec.upto entryReadsSpec)

/-- 'ciceronelaw08.EntryBack', WHERE WHAT IT READS IS OF BULK AT MOST 1048576: true; the input reads as it did. -/
def entryBackUptoRow : OpenClaim := { program := "ytaemmklgofddmaa", sum := "2f1e21ec8d2ccca20d43890c5ef37453951f866067b0bec9d184b5024dc7e636", func := "cicerone/ciceronelaw08.EntryBack", spec := "entryBack", unfollowed := true, recurses := true, apart := false, narrowed := true }
def EntryBackUptoSaid : Prop := entryBackUptoRow.holds Try.pinned (OpenSpec.upto entryBackSpec)

/-- 'ciceronelaw08.EntryShort', WHERE WHAT IT READS IS OF BULK AT MOST 1048576: true; the input reads as it did. -/
def entryShortUptoRow : OpenClaim := { program := "ytaemmklgofddmaa", sum := "2f1e21ec8d2ccca20d43890c5ef37453951f866067b0bec9d184b5024dc7e636", func := "cicerone/ciceronelaw08.EntryShort", spec := "entryShort", unfollowed := true, recurses := true, apart := false, narrowed := true }
def EntryShortUptoSaid : Prop := entryShortUptoRow.holds Try.pinned (OpenSpec.upto entryShortSpec)

/-- 'ciceronelaw08.EntryKeys', WHERE WHAT IT READS IS OF BULK AT MOST 1048576: true; the input reads as it did. -/
def entryKeysUptoRow : OpenClaim := { program := "ytaemmklgofddmaa", sum := "2f1e21ec8d2ccca20d43890c5ef37453951f866067b0bec9d184b5024dc7e636", func := "cicerone/ciceronelaw08.EntryKeys", spec := "entryKeys", unfollowed := true, recurses := true, apart := false, narrowed := true }
def EntryKeysUptoSaid : Prop := entryKeysUptoRow.holds Try.pinned (OpenSpec.upto entryKeysSpec)

end Rows
end Go.Proofs.Ytaemmklgofddmaa
