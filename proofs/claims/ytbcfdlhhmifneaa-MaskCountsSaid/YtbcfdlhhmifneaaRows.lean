/-
  No cell of these rows narrows 'for every input' (looked for: loops, veiled, ifaces, maps, wideKeys, modest, calm, conditions, laid).
  DERIVED. THE GIVEN ROWS OF THIS SEAT. 7 by the template 'for every input the law returns true; each argument reads behind the call as it read before'; 0 by the template 'total and deterministic' (their statements: YtbcfdlhhmifneaaTotals.lean).
  GIVEN WITH THE SEED: the statements are not yours to turn. If you find one false, say at which input.
  Laid BY PROGRAM, IN A SANDBOX (cutbox-rows.mjs): the forced cells as the released guide's own fill.sh prints them over the translation 1132e4c18a5cca1d… (all of the seat's roots in one cut). By AI agents, Wed Nov 11 2026. No macro, syntax, notation, axiom, sorry.
-/
import Derived.Test.YtbcfdlhhmifneaaChecked
import GoSem.Claim
import GoSem.ClaimJoined
import GoSem.ClaimMapViews
import Derived.JoinedTies
import Derived.KernelRfl
namespace Go.Proofs.Ytbcfdlhhmifneaa
/- THE CELL 'sum', in the pinned program and in every row, IS THE sha256 OF THE DUMP (.gsa) THAT YtbcfdlhhmifneaaProg.lean LOADS. Nothing in Lean hashes anything: it is a label: what it is worth is what the hold of that sum in a sandbox is worth. -/
noncomputable def Try.pinned : Pinned := { name := "ytbcfdlhhmifneaa", sum := "1132e4c18a5cca1d76845212b46077a06ec1dbcea1da2b76e2fa5ca6a38b1719", checked := Try.checked }
namespace Rows
def none {H : Type} : Left H := { results := [], args := [] }

/-- 'millstreamlaw14.MaskPacks': WHATEVER THE INPUT: true; the input reads as it did. -/
def maskPacksSpec : ChangeSpec := { name := "maskPacks", fn := fun _ => fun
  | [d1, d2] => { results := [.lit (.bool true)], args := [d1, d2] }
  | _ => none }
def maskPacksRow : OpenClaim := { program := "ytbcfdlhhmifneaa", sum := "1132e4c18a5cca1d76845212b46077a06ec1dbcea1da2b76e2fa5ca6a38b1719", func := "millstream/millstreamlaw14.MaskPacks", spec := "maskPacks", apart := false }
def MaskPacksSaid : Prop := maskPacksRow.holds Try.pinned (OpenSpec.ofChange maskPacksSpec)

/-- ITS FALSE NEIGHBOUR: 'it returns false'. Refute it at one input. -/
def maskPacksWrong : ChangeSpec := { name := "maskPacks", fn := fun _ => fun
  | [d1, d2] => { results := [.lit (.bool false)], args := [d1, d2] }
  | _ => none }
def MaskPacksWrongFalsely : Prop := maskPacksRow.holds Try.pinned (OpenSpec.ofChange maskPacksWrong)

/-- 'millstreamlaw14.MaskReads': WHATEVER THE INPUT: true; the input reads as it did. -/
def maskReadsSpec : ChangeSpec := { name := "maskReads", fn := fun _ => fun
  | [d1, d2] => { results := [.lit (.bool true)], args := [d1, d2] }
  | _ => none }
def maskReadsRow : OpenClaim := { program := "ytbcfdlhhmifneaa", sum := "1132e4c18a5cca1d76845212b46077a06ec1dbcea1da2b76e2fa5ca6a38b1719", func := "millstream/millstreamlaw14.MaskReads", spec := "maskReads", apart := false }
def MaskReadsSaid : Prop := maskReadsRow.holds Try.pinned (OpenSpec.ofChange maskReadsSpec)

/-- ITS FALSE NEIGHBOUR: 'it returns false'. Refute it at one input. -/
def maskReadsWrong : ChangeSpec := { name := "maskReads", fn := fun _ => fun
  | [d1, d2] => { results := [.lit (.bool false)], args := [d1, d2] }
  | _ => none }
def MaskReadsWrongFalsely : Prop := maskReadsRow.holds Try.pinned (OpenSpec.ofChange maskReadsWrong)

/-- 'millstreamlaw14.MaskBack': WHATEVER THE INPUT: true; the input reads as it did. -/
def maskBackSpec : ChangeSpec := { name := "maskBack", fn := fun _ => fun
  | [d1, d2] => { results := [.lit (.bool true)], args := [d1, d2] }
  | _ => none }
def maskBackRow : OpenClaim := { program := "ytbcfdlhhmifneaa", sum := "1132e4c18a5cca1d76845212b46077a06ec1dbcea1da2b76e2fa5ca6a38b1719", func := "millstream/millstreamlaw14.MaskBack", spec := "maskBack", apart := false }
def MaskBackSaid : Prop := maskBackRow.holds Try.pinned (OpenSpec.ofChange maskBackSpec)

/-- ITS FALSE NEIGHBOUR: 'it returns false'. Refute it at one input. -/
def maskBackWrong : ChangeSpec := { name := "maskBack", fn := fun _ => fun
  | [d1, d2] => { results := [.lit (.bool false)], args := [d1, d2] }
  | _ => none }
def MaskBackWrongFalsely : Prop := maskBackRow.holds Try.pinned (OpenSpec.ofChange maskBackWrong)

/-- 'millstreamlaw14.MaskOnly': WHATEVER THE INPUT: true; the input reads as it did. -/
def maskOnlySpec : ChangeSpec := { name := "maskOnly", fn := fun _ => fun
  | [d1, d2] => { results := [.lit (.bool true)], args := [d1, d2] }
  | _ => none }
def maskOnlyRow : OpenClaim := { program := "ytbcfdlhhmifneaa", sum := "1132e4c18a5cca1d76845212b46077a06ec1dbcea1da2b76e2fa5ca6a38b1719", func := "millstream/millstreamlaw14.MaskOnly", spec := "maskOnly", apart := false }
def MaskOnlySaid : Prop := maskOnlyRow.holds Try.pinned (OpenSpec.ofChange maskOnlySpec)

/-- ITS FALSE NEIGHBOUR: 'it returns false'. Refute it at one input. -/
def maskOnlyWrong : ChangeSpec := { name := "maskOnly", fn := fun _ => fun
  | [d1, d2] => { results := [.lit (.bool false)], args := [d1, d2] }
  | _ => none }
def MaskOnlyWrongFalsely : Prop := maskOnlyRow.holds Try.pinned (OpenSpec.ofChange maskOnlyWrong)

/-- 'millstreamlaw14.MaskJoins': WHATEVER THE INPUT: true; the input reads as it did. -/
def maskJoinsSpec : ChangeSpec := { name := "maskJoins", fn := fun _ => fun
  | [d1, d2] => { results := [.lit (.bool true)], args := [d1, d2] }
  | _ => none }
def maskJoinsRow : OpenClaim := { program := "ytbcfdlhhmifneaa", sum := "1132e4c18a5cca1d76845212b46077a06ec1dbcea1da2b76e2fa5ca6a38b1719", func := "millstream/millstreamlaw14.MaskJoins", spec := "maskJoins", apart := false }
def MaskJoinsSaid : Prop := maskJoinsRow.holds Try.pinned (OpenSpec.ofChange maskJoinsSpec)

/-- ITS FALSE NEIGHBOUR: 'it returns false'. Refute it at one input. -/
def maskJoinsWrong : ChangeSpec := { name := "maskJoins", fn := fun _ => fun
  | [d1, d2] => { results := [.lit (.bool false)], args := [d1, d2] }
  | _ => none }
def MaskJoinsWrongFalsely : Prop := maskJoinsRow.holds Try.pinned (OpenSpec.ofChange maskJoinsWrong)

/-- 'millstreamlaw14.MaskCounts': WHATEVER THE INPUT: true; the input reads as it did. -/
def maskCountsSpec : ChangeSpec := { name := "maskCounts", fn := fun _ => fun
  | [d1, d2] => { results := [.lit (.bool true)], args := [d1, d2] }
  | _ => none }
def maskCountsRow : OpenClaim := { program := "ytbcfdlhhmifneaa", sum := "1132e4c18a5cca1d76845212b46077a06ec1dbcea1da2b76e2fa5ca6a38b1719", func := "millstream/millstreamlaw14.MaskCounts", spec := "maskCounts", apart := false }
def MaskCountsSaid : Prop := maskCountsRow.holds Try.pinned (OpenSpec.ofChange maskCountsSpec)

/-- ITS FALSE NEIGHBOUR: 'it returns false'. Refute it at one input. -/
def maskCountsWrong : ChangeSpec := { name := "maskCounts", fn := fun _ => fun
  | [d1, d2] => { results := [.lit (.bool false)], args := [d1, d2] }
  | _ => none }
def MaskCountsWrongFalsely : Prop := maskCountsRow.holds Try.pinned (OpenSpec.ofChange maskCountsWrong)

/-- 'millstreamlaw14.MaskKnown': WHATEVER THE INPUT: true; the input reads as it did. -/
def maskKnownSpec : ChangeSpec := { name := "maskKnown", fn := fun _ => fun
  | [] => { results := [.lit (.bool true)], args := [] }
  | _ => none }
def maskKnownRow : OpenClaim := { program := "ytbcfdlhhmifneaa", sum := "1132e4c18a5cca1d76845212b46077a06ec1dbcea1da2b76e2fa5ca6a38b1719", func := "millstream/millstreamlaw14.MaskKnown", spec := "maskKnown", apart := false }
def MaskKnownSaid : Prop := maskKnownRow.holds Try.pinned (OpenSpec.ofChange maskKnownSpec)

/-- ITS FALSE NEIGHBOUR: 'it returns false'. Refute it at one input. -/
def maskKnownWrong : ChangeSpec := { name := "maskKnown", fn := fun _ => fun
  | [] => { results := [.lit (.bool false)], args := [] }
  | _ => none }
def MaskKnownWrongFalsely : Prop := maskKnownRow.holds Try.pinned (OpenSpec.ofChange maskKnownWrong)

/- THE SECOND FORM. 'bulk': how many values and letters a reading holds, each counted each time it is reached (what is shared counts as often as it is met; a slice's spare places count too). A statement '..UptoSaid' is the law's where the arguments, and the package variables that the reading takes, are together of bulk at most 1048576: NARROWER than '..Said'. Prove '..Said' where nothing that the law and all that it calls make is longer than what came in: it says more and counts as full. Else prove '..UptoSaid'. A law counts once. -/
mutual
def uptoBulk {H : Type} : DataW H → Nat
  | .lit (.string bytes) => bytes.length + 1
  | .lit _ => 1
  | .nil => 1
  | .ptr d => uptoBulk d + 1
  | .slice elems spare => uptoBulkAll elems + uptoBulkAll spare + 1
  | .agg parts => uptoBulkAll parts + 1
  | .iface _ d => uptoBulk d + 1
  | .map entries => uptoBulkEntries entries + 1
  | .held _ => 1
def uptoBulkAll {H : Type} : List (DataW H) → Nat
  | [] => 0
  | d :: r => uptoBulk d + uptoBulkAll r
def uptoBulkEntries {H : Type} : List (Lit × DataW H) → Nat
  | [] => 0
  | x :: r => uptoBulkEntry x + uptoBulkEntries r
def uptoBulkEntry {H : Type} : Lit × DataW H → Nat
  | (.string bytes, d) => bytes.length + uptoBulk d + 1
  | (_, d) => uptoBulk d + 1
 end
def uptoSmall : (H : Type) → List (DataW H) → Bool := fun _ ds => decide (uptoBulkAll ds ≤ 1048576)
def OpenSpec.upto (s : _root_.Go.ChangeSpec) : _root_.Go.OpenSpec := { _root_.Go.OpenSpec.ofChange s with cond := some uptoSmall }

/-- 'millstreamlaw14.MaskPacks', WHERE WHAT IT READS IS OF BULK AT MOST 1048576: true; the input reads as it did. -/
def maskPacksUptoRow : OpenClaim := { program := "ytbcfdlhhmifneaa", sum := "1132e4c18a5cca1d76845212b46077a06ec1dbcea1da2b76e2fa5ca6a38b1719", func := "millstream/millstreamlaw14.MaskPacks", spec := "maskPacks", apart := false, narrowed := true }
def MaskPacksUptoSaid : Prop := maskPacksUptoRow.holds Try.pinned (OpenSpec.upto maskPacksSpec)

/-- 'millstreamlaw14.MaskReads', WHERE WHAT IT READS IS OF BULK AT MOST 1048576: true; the input reads as it did. -/
def maskReadsUptoRow : OpenClaim := { program := "ytbcfdlhhmifneaa", sum := "1132e4c18a5cca1d76845212b46077a06ec1dbcea1da2b76e2fa5ca6a38b1719", func := "millstream/millstreamlaw14.MaskReads", spec := "maskReads", apart := false, narrowed := true }
def MaskReadsUptoSaid : Prop := maskReadsUptoRow.holds Try.pinned (OpenSpec.upto maskReadsSpec)

/-- 'millstreamlaw14.MaskBack', WHERE WHAT IT READS IS OF BULK AT MOST 1048576: true; the input reads as it did. -/
def maskBackUptoRow : OpenClaim := { program := "ytbcfdlhhmifneaa", sum := "1132e4c18a5cca1d76845212b46077a06ec1dbcea1da2b76e2fa5ca6a38b1719", func := "millstream/millstreamlaw14.MaskBack", spec := "maskBack", apart := false, narrowed := true }
def MaskBackUptoSaid : Prop := maskBackUptoRow.holds Try.pinned (OpenSpec.upto maskBackSpec)

/-- 'millstreamlaw14.MaskOnly', WHERE WHAT IT READS IS OF BULK AT MOST 1048576: true; the input reads as it did. -/
def maskOnlyUptoRow : OpenClaim := { program := "ytbcfdlhhmifneaa", sum := "1132e4c18a5cca1d76845212b46077a06ec1dbcea1da2b76e2fa5ca6a38b1719", func := "millstream/millstreamlaw14.MaskOnly", spec := "maskOnly", apart := false, narrowed := true }
def MaskOnlyUptoSaid : Prop := maskOnlyUptoRow.holds Try.pinned (OpenSpec.upto maskOnlySpec)

/-- 'millstreamlaw14.MaskJoins', WHERE WHAT IT READS IS OF BULK AT MOST 1048576: true; the input reads as it did. -/
def maskJoinsUptoRow : OpenClaim := { program := "ytbcfdlhhmifneaa", sum := "1132e4c18a5cca1d76845212b46077a06ec1dbcea1da2b76e2fa5ca6a38b1719", func := "millstream/millstreamlaw14.MaskJoins", spec := "maskJoins", apart := false, narrowed := true }
def MaskJoinsUptoSaid : Prop := maskJoinsUptoRow.holds Try.pinned (OpenSpec.upto maskJoinsSpec)

/-- 'millstreamlaw14.MaskCounts', WHERE WHAT IT READS IS OF BULK AT MOST 1048576: true; the input reads as it did. -/
def maskCountsUptoRow : OpenClaim := { program := "ytbcfdlhhmifneaa", sum := "1132e4c18a5cca1d76845212b46077a06ec1dbcea1da2b76e2fa5ca6a38b1719", func := "millstream/millstreamlaw14.MaskCounts", spec := "maskCounts", apart := false, narrowed := true }
def MaskCountsUptoSaid : Prop := maskCountsUptoRow.holds Try.pinned (OpenSpec.upto maskCountsSpec)

/-- 'millstreamlaw14.MaskKnown', WHERE WHAT IT READS IS OF BULK AT MOST 1048576: true; the input reads as it did. -/
def maskKnownUptoRow : OpenClaim := { program := "ytbcfdlhhmifneaa", sum := "1132e4c18a5cca1d76845212b46077a06ec1dbcea1da2b76e2fa5ca6a38b1719", func := "millstream/millstreamlaw14.MaskKnown", spec := "maskKnown", apart := false, narrowed := true }
def MaskKnownUptoSaid : Prop := maskKnownUptoRow.holds Try.pinned (OpenSpec.upto maskKnownSpec)

end Rows
end Go.Proofs.Ytbcfdlhhmifneaa
