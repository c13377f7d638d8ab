/-
  No cell of these rows narrows 'for every input' (looked for: loops, veiled, ifaces, maps, wideKeys, modest, calm, conditions, laid).
  DERIVED. THE GIVEN ROWS OF THIS SEAT. 9 by the template 'for every input the law returns true; each argument reads behind the call as it read before'; 0 by the template 'total and deterministic' (their statements: YtolaeondhhnfoaaTotals.lean).
  GIVEN WITH THE SEED: the statements are not yours to turn. If you find one false, say at which input.
  Laid BY PROGRAM, IN A SANDBOX (cutbox-rows.mjs): the forced cells as the released guide's own fill.sh prints them over the translation a12f6e58b7642883… (all of the seat's roots in one cut). By AI agents, Wed Nov 11 2026. No macro, syntax, notation, axiom, sorry.
-/
import Derived.Test.YtolaeondhhnfoaaChecked
import GoSem.Claim
import GoSem.ClaimJoined
import GoSem.ClaimMapViews
import Derived.JoinedTies
import Derived.KernelRfl
namespace Go.Proofs.Ytolaeondhhnfoaa
/- THE CELL 'sum', in the pinned program and in every row, IS THE sha256 OF THE DUMP (.gsa) THAT YtolaeondhhnfoaaProg.lean LOADS. Nothing in Lean hashes anything: it is a label: what it is worth is what the hold of that sum in a sandbox is worth. -/
noncomputable def Try.pinned : Pinned := { name := "ytolaeondhhnfoaa", sum := "a12f6e58b76428835943f23f5ea194b3bf1771b4aba8c48832b698545b839d06", checked := Try.checked }
namespace Rows
def none {H : Type} : Left H := { results := [], args := [] }

/-- 'ciceronelaw24.AuditPairs': WHATEVER THE INPUT: true; the input reads as it did. -/
def auditPairsSpec : ChangeSpec := { name := "auditPairs", fn := fun _ => fun
  | [d] => { results := [.lit (.bool true)], args := [d] }
  | _ => none }
def auditPairsRow : OpenClaim := { program := "ytolaeondhhnfoaa", sum := "a12f6e58b76428835943f23f5ea194b3bf1771b4aba8c48832b698545b839d06", func := "cicerone/ciceronelaw24.AuditPairs", spec := "auditPairs", apart := false }
def AuditPairsSaid : Prop := auditPairsRow.holds Try.pinned (OpenSpec.ofChange auditPairsSpec)

/-- ITS FALSE NEIGHBOUR: 'it returns false'. Refute it at one input. -/
def auditPairsWrong : ChangeSpec := { name := "auditPairs", fn := fun _ => fun
  | [d] => { results := [.lit (.bool false)], args := [d] }
  | _ => none }
def AuditPairsWrongFalsely : Prop := auditPairsRow.holds Try.pinned (OpenSpec.ofChange auditPairsWrong)

/-- 'ciceronelaw24.AuditOnce': WHATEVER THE INPUT: true; the input reads as it did. -/
def auditOnceSpec : ChangeSpec := { name := "auditOnce", fn := fun _ => fun
  | [d1, d2] => { results := [.lit (.bool true)], args := [d1, d2] }
  | _ => none }
def auditOnceRow : OpenClaim := { program := "ytolaeondhhnfoaa", sum := "a12f6e58b76428835943f23f5ea194b3bf1771b4aba8c48832b698545b839d06", func := "cicerone/ciceronelaw24.AuditOnce", spec := "auditOnce", apart := false }
def AuditOnceSaid : Prop := auditOnceRow.holds Try.pinned (OpenSpec.ofChange auditOnceSpec)

/-- ITS FALSE NEIGHBOUR: 'it returns false'. Refute it at one input. -/
def auditOnceWrong : ChangeSpec := { name := "auditOnce", fn := fun _ => fun
  | [d1, d2] => { results := [.lit (.bool false)], args := [d1, d2] }
  | _ => none }
def AuditOnceWrongFalsely : Prop := auditOnceRow.holds Try.pinned (OpenSpec.ofChange auditOnceWrong)

/-- 'ciceronelaw04.WireSame': WHATEVER THE INPUT: true; the input reads as it did. -/
def wireSameSpec : ChangeSpec := { name := "wireSame", fn := fun _ => fun
  | [d1, d2] => { results := [.lit (.bool true)], args := [d1, d2] }
  | _ => none }
def wireSameRow : OpenClaim := { program := "ytolaeondhhnfoaa", sum := "a12f6e58b76428835943f23f5ea194b3bf1771b4aba8c48832b698545b839d06", func := "cicerone/ciceronelaw04.WireSame", spec := "wireSame", unfollowed := true, recurses := true, apart := false }
def WireSameSaid : Prop := wireSameRow.holds Try.pinned (OpenSpec.ofChange wireSameSpec)

/-- ITS FALSE NEIGHBOUR: 'it returns false'. Refute it at one input. -/
def wireSameWrong : ChangeSpec := { name := "wireSame", fn := fun _ => fun
  | [d1, d2] => { results := [.lit (.bool false)], args := [d1, d2] }
  | _ => none }
def WireSameWrongFalsely : Prop := wireSameRow.holds Try.pinned (OpenSpec.ofChange wireSameWrong)

/-- 'ciceronelaw03.RdataTexts': WHATEVER THE INPUT: true; the input reads as it did. -/
def rdataTextsSpec : ChangeSpec := { name := "rdataTexts", fn := fun _ => fun
  | [d] => { results := [.lit (.bool true)], args := [d] }
  | _ => none }
def rdataTextsRow : OpenClaim := { program := "ytolaeondhhnfoaa", sum := "a12f6e58b76428835943f23f5ea194b3bf1771b4aba8c48832b698545b839d06", func := "cicerone/ciceronelaw03.RdataTexts", spec := "rdataTexts", apart := false }
def RdataTextsSaid : Prop := rdataTextsRow.holds Try.pinned (OpenSpec.ofChange rdataTextsSpec)

/-- ITS FALSE NEIGHBOUR: 'it returns false'. Refute it at one input. -/
def rdataTextsWrong : ChangeSpec := { name := "rdataTexts", fn := fun _ => fun
  | [d] => { results := [.lit (.bool false)], args := [d] }
  | _ => none }
def RdataTextsWrongFalsely : Prop := rdataTextsRow.holds Try.pinned (OpenSpec.ofChange rdataTextsWrong)

/-- 'ciceronelaw03.RdataOthers': WHATEVER THE INPUT: true; the input reads as it did. -/
def rdataOthersSpec : ChangeSpec := { name := "rdataOthers", fn := fun _ => fun
  | [d1, d2] => { results := [.lit (.bool true)], args := [d1, d2] }
  | _ => none }
def rdataOthersRow : OpenClaim := { program := "ytolaeondhhnfoaa", sum := "a12f6e58b76428835943f23f5ea194b3bf1771b4aba8c48832b698545b839d06", func := "cicerone/ciceronelaw03.RdataOthers", spec := "rdataOthers", apart := false }
def RdataOthersSaid : Prop := rdataOthersRow.holds Try.pinned (OpenSpec.ofChange rdataOthersSpec)

/-- ITS FALSE NEIGHBOUR: 'it returns false'. Refute it at one input. -/
def rdataOthersWrong : ChangeSpec := { name := "rdataOthers", fn := fun _ => fun
  | [d1, d2] => { results := [.lit (.bool false)], args := [d1, d2] }
  | _ => none }
def RdataOthersWrongFalsely : Prop := rdataOthersRow.holds Try.pinned (OpenSpec.ofChange rdataOthersWrong)

/-- 'ciceronelaw03.RdataSOAs': WHATEVER THE INPUT: true; the input reads as it did. -/
def rdataSOAsSpec : ChangeSpec := { name := "rdataSOAs", fn := fun _ => fun
  | [d1, d2] => { results := [.lit (.bool true)], args := [d1, d2] }
  | _ => none }
def rdataSOAsRow : OpenClaim := { program := "ytolaeondhhnfoaa", sum := "a12f6e58b76428835943f23f5ea194b3bf1771b4aba8c48832b698545b839d06", func := "cicerone/ciceronelaw03.RdataSOAs", spec := "rdataSOAs", apart := false }
def RdataSOAsSaid : Prop := rdataSOAsRow.holds Try.pinned (OpenSpec.ofChange rdataSOAsSpec)

/-- ITS FALSE NEIGHBOUR: 'it returns false'. Refute it at one input. -/
def rdataSOAsWrong : ChangeSpec := { name := "rdataSOAs", fn := fun _ => fun
  | [d1, d2] => { results := [.lit (.bool false)], args := [d1, d2] }
  | _ => none }
def RdataSOAsWrongFalsely : Prop := rdataSOAsRow.holds Try.pinned (OpenSpec.ofChange rdataSOAsWrong)

/-- 'ciceronelaw03.RdataBack': WHATEVER THE INPUT: true; the input reads as it did. -/
def rdataBackSpec : ChangeSpec := { name := "rdataBack", fn := fun _ => fun
  | [d1, d2] => { results := [.lit (.bool true)], args := [d1, d2] }
  | _ => none }
def rdataBackRow : OpenClaim := { program := "ytolaeondhhnfoaa", sum := "a12f6e58b76428835943f23f5ea194b3bf1771b4aba8c48832b698545b839d06", func := "cicerone/ciceronelaw03.RdataBack", spec := "rdataBack", apart := false }
def RdataBackSaid : Prop := rdataBackRow.holds Try.pinned (OpenSpec.ofChange rdataBackSpec)

/-- ITS FALSE NEIGHBOUR: 'it returns false'. Refute it at one input. -/
def rdataBackWrong : ChangeSpec := { name := "rdataBack", fn := fun _ => fun
  | [d1, d2] => { results := [.lit (.bool false)], args := [d1, d2] }
  | _ => none }
def RdataBackWrongFalsely : Prop := rdataBackRow.holds Try.pinned (OpenSpec.ofChange rdataBackWrong)

/-- 'ciceronelaw03.RdataNamed': WHATEVER THE INPUT: true; the input reads as it did. -/
def rdataNamedSpec : ChangeSpec := { name := "rdataNamed", fn := fun _ => fun
  | [d1, d2] => { results := [.lit (.bool true)], args := [d1, d2] }
  | _ => none }
def rdataNamedRow : OpenClaim := { program := "ytolaeondhhnfoaa", sum := "a12f6e58b76428835943f23f5ea194b3bf1771b4aba8c48832b698545b839d06", func := "cicerone/ciceronelaw03.RdataNamed", spec := "rdataNamed", apart := false }
def RdataNamedSaid : Prop := rdataNamedRow.holds Try.pinned (OpenSpec.ofChange rdataNamedSpec)

/-- ITS FALSE NEIGHBOUR: 'it returns false'. Refute it at one input. -/
def rdataNamedWrong : ChangeSpec := { name := "rdataNamed", fn := fun _ => fun
  | [d1, d2] => { results := [.lit (.bool false)], args := [d1, d2] }
  | _ => none }
def RdataNamedWrongFalsely : Prop := rdataNamedRow.holds Try.pinned (OpenSpec.ofChange rdataNamedWrong)

/-- 'ciceronelaw03.RdataTells': WHATEVER THE INPUT: true; the input reads as it did. -/
def rdataTellsSpec : ChangeSpec := { name := "rdataTells", fn := fun _ => fun
  | [d1, d2] => { results := [.lit (.bool true)], args := [d1, d2] }
  | _ => none }
def rdataTellsRow : OpenClaim := { program := "ytolaeondhhnfoaa", sum := "a12f6e58b76428835943f23f5ea194b3bf1771b4aba8c48832b698545b839d06", func := "cicerone/ciceronelaw03.RdataTells", spec := "rdataTells", apart := false }
def RdataTellsSaid : Prop := rdataTellsRow.holds Try.pinned (OpenSpec.ofChange rdataTellsSpec)

/-- ITS FALSE NEIGHBOUR: 'it returns false'. Refute it at one input. -/
def rdataTellsWrong : ChangeSpec := { name := "rdataTells", fn := fun _ => fun
  | [d1, d2] => { results := [.lit (.bool false)], args := [d1, d2] }
  | _ => none }
def RdataTellsWrongFalsely : Prop := rdataTellsRow.holds Try.pinned (OpenSpec.ofChange rdataTellsWrong)

/- THE SECOND FORM. 'bulk': how many values and letters a reading holds, each counted each time it is reached (what is shared counts as often as it is met; a slice's spare places count too). A statement '..UptoSaid' is the law's where the arguments, and the package variables that the reading takes, are together of bulk at most 1048576: NARROWER than '..Said'. Prove '..Said' where nothing that the law and all that it calls make is longer than what came in: it says more and counts as full. Else prove '..UptoSaid'. A law counts once. -/
mutual
def uptoBulk {H : Type} : DataW H → Nat
  | .lit (.string bytes) => bytes.length + 1
  | .lit _ => 1
  | .nil => 1
  | .ptr d => uptoBulk d + 1
  | .slice elems spare => uptoBulkAll elems + uptoBulkAll spare + 1
  | .agg parts => uptoBulkAll parts + 1
  | .iface _ d => uptoBulk d + 1
  | .map entries => uptoBulkEntries entries + 1
  | .held _ => 1
def uptoBulkAll {H : Type} : List (DataW H) → Nat
  | [] => 0
  | d :: r => uptoBulk d + uptoBulkAll r
def uptoBulkEntries {H : Type} : List (Lit × DataW H) → Nat
  | [] => 0
  | x :: r => uptoBulkEntry x + uptoBulkEntries r
def uptoBulkEntry {H : Type} : Lit × DataW H → Nat
  | (.string bytes, d) => bytes.length + uptoBulk d + 1
  | (_, d) => uptoBulk d + 1
 end
def uptoSmall : (H : Type) → List (DataW H) → Bool := fun _ ds => decide (uptoBulkAll ds ≤ 1048576)
def OpenSpec.upto (s : _root_.Go.ChangeSpec) : _root_.Go.OpenSpec := { _root_.Go.OpenSpec.ofChange s with cond := some uptoSmall }

/-- 'ciceronelaw24.AuditPairs', WHERE WHAT IT READS IS OF BULK AT MOST 1048576: true; the input reads as it did. -/
def auditPairsUptoRow : OpenClaim := { program := "ytolaeondhhnfoaa", sum := "a12f6e58b76428835943f23f5ea194b3bf1771b4aba8c48832b698545b839d06", func := "cicerone/ciceronelaw24.AuditPairs", spec := "auditPairs", apart := false, narrowed := true }
def AuditPairsUptoSaid : Prop := auditPairsUptoRow.holds Try.pinned (OpenSpec.upto auditPairsSpec)

/-- 'ciceronelaw24.AuditOnce', WHERE WHAT IT READS IS OF BULK AT MOST 1048576: true; the input reads as it did. -/
def auditOnceUptoRow : OpenClaim := { program := "ytolaeondhhnfoaa", sum := "a12f6e58b76428835943f23f5ea194b3bf1771b4aba8c48832b698545b839d06", func := "cicerone/ciceronelaw24.AuditOnce", spec := "auditOnce", apart := false, narrowed := true }
def AuditOnceUptoSaid : Prop := auditOnceUptoRow.holds Try.pinned (OpenSpec.upto auditOnceSpec)

/-- 'ciceronelaw04.WireSame', WHERE WHAT IT READS IS OF BULK AT MOST 1048576: true; the input reads as it did. -/
def wireSameUptoRow : OpenClaim := { program := "ytolaeondhhnfoaa", sum := "a12f6e58b76428835943f23f5ea194b3bf1771b4aba8c48832b698545b839d06", func := "cicerone/ciceronelaw04.WireSame", spec := "wireSame", unfollowed := true, recurses := true, apart := false, narrowed := true }
def WireSameUptoSaid : Prop := wireSameUptoRow.holds Try.pinned (OpenSpec.upto wireSameSpec)

/-- 'ciceronelaw03.RdataTexts', WHERE WHAT IT READS IS OF BULK AT MOST 1048576: true; the input reads as it did. -/
def rdataTextsUptoRow : OpenClaim := { program := "ytolaeondhhnfoaa", sum := "a12f6e58b76428835943f23f5ea194b3bf1771b4aba8c48832b698545b839d06", func := "cicerone/ciceronelaw03.RdataTexts", spec := "rdataTexts", apart := false, narrowed := true }
def RdataTextsUptoSaid : Prop := rdataTextsUptoRow.holds Try.pinned (OpenSpec.upto rdataTextsSpec)

/-- 'ciceronelaw03.RdataOthers', WHERE WHAT IT READS IS OF BULK AT MOST 1048576: true; the input reads as it did. -/
def rdataOthersUptoRow : OpenClaim := { program := "ytolaeondhhnfoaa", sum := "a12f6e58b76428835943f23f5ea194b3bf1771b4aba8c48832b698545b839d06", func := "cicerone/ciceronelaw03.RdataOthers", spec := "rdataOthers", apart := false, narrowed := true }
def RdataOthersUptoSaid : Prop := rdataOthersUptoRow.holds Try.pinned (OpenSpec.upto rdataOthersSpec)

/-- 'ciceronelaw03.RdataSOAs', WHERE WHAT IT READS IS OF BULK AT MOST 1048576: true; the input reads as it did. -/
def rdataSOAsUptoRow : OpenClaim := { program := "ytolaeondhhnfoaa", sum := "a12f6e58b76428835943f23f5ea194b3bf1771b4aba8c48832b698545b839d06", func := "cicerone/ciceronelaw03.RdataSOAs", spec := "rdataSOAs", apart := false, narrowed := true }
def RdataSOAsUptoSaid : Prop := rdataSOAsUptoRow.holds Try.pinned (OpenSpec.upto rdataSOAsSpec)

/-- 'ciceronelaw03.RdataBack', WHERE WHAT IT READS IS OF BULK AT MOST 1048576: true; the input reads as it did. -/
def rdataBackUptoRow : OpenClaim := { program := "ytolaeondhhnfoaa", sum := "a12f6e58b76428835943f23f5ea194b3bf1771b4aba8c48832b698545b839d06", func := "cicerone/ciceronelaw03.RdataBack", spec := "rdataBack", apart := false, narrowed := true }
def RdataBackUptoSaid : Prop := rdataBackUptoRow.holds Try.pinned (OpenSpec.upto rdataBackSpec)

/-- 'ciceronelaw03.RdataNamed', WHERE WHAT IT READS IS OF BULK AT MOST 1048576: true; the input reads as it did. -/
def rdataNamedUptoRow : OpenClaim := { program := "ytolaeondhhnfoaa", sum := "a12f6e58b76428835943f23f5ea194b3bf1771b4aba8c48832b698545b839d06", func := "cicerone/ciceronelaw03.RdataNamed", spec := "rdataNamed", apart := false, narrowed := true }
def RdataNamedUptoSaid : Prop := rdataNamedUptoRow.holds Try.pinned (OpenSpec.upto rdataNamedSpec)

/-- 'ciceronelaw03.RdataTells', WHERE WHAT IT READS IS OF BULK AT MOST 1048576: true; the input reads as it did. -/
def rdataTellsUptoRow : OpenClaim := { program := "ytolaeondhhnfoaa", sum := "a12f6e58b76428835943f23f5ea194b3bf1771b4aba8c48832b698545b839d06", func := "cicerone/ciceronelaw03.RdataTells", spec := "rdataTells", apart := false, narrowed := true }
def RdataTellsUptoSaid : Prop := rdataTellsUptoRow.holds Try.pinned (OpenSpec.upto rdataTellsSpec)

end Rows
end Go.Proofs.Ytolaeondhhnfoaa
