/-
  No cell of these rows narrows 'for every input' (looked for: loops, veiled, ifaces, maps, wideKeys, modest, calm, conditions, laid).
  DERIVED. THE GIVEN ROWS OF THIS SEAT. 8 by the template 'for every input the law returns true; each argument reads behind the call as it read before'; 0 by the template 'total and deterministic' (their statements: YtckaohkhknoocaaTotals.lean).
  GIVEN WITH THE SEED: the statements are not yours to turn. If you find one false, say at which input.
  Laid BY PROGRAM, IN A SANDBOX (cutbox-rows.mjs): the forced cells as the released guide's own fill.sh prints them over the translation 8f93ddb64047fe7d… (all of the seat's roots in one cut). By AI agents, Wed Nov 11 2026. No macro, syntax, notation, axiom, sorry.
-/
import Derived.Test.YtckaohkhknoocaaChecked
import GoSem.Claim
import GoSem.ClaimJoined
import GoSem.ClaimMapViews
import Derived.JoinedTies
import Derived.KernelRfl
namespace Go.Proofs.Ytckaohkhknoocaa
/- THE CELL 'sum', in the pinned program and in every row, IS THE sha256 OF THE DUMP (.gsa) THAT YtckaohkhknoocaaProg.lean LOADS. Nothing in Lean hashes anything: it is a label: what it is worth is what the hold of that sum in a sandbox is worth. -/
noncomputable def Try.pinned : Pinned := { name := "ytckaohkhknoocaa", sum := "8f93ddb64047fe7d63e3825d15b14f54a8ec5193f043926b0479c0a404bc1f20", checked := Try.checked }
namespace Rows
def none {H : Type} : Left H := { results := [], args := [] }

/-- 'millstreamlaw15.DictSplits': WHATEVER THE INPUT: true; the input reads as it did. -/
def dictSplitsSpec : ChangeSpec := { name := "dictSplits", fn := fun _ => fun
  | [d1, d2] => { results := [.lit (.bool true)], args := [d1, d2] }
  | _ => none }
def dictSplitsRow : OpenClaim := { program := "ytckaohkhknoocaa", sum := "8f93ddb64047fe7d63e3825d15b14f54a8ec5193f043926b0479c0a404bc1f20", func := "millstream/millstreamlaw15.DictSplits", spec := "dictSplits", apart := false }
def DictSplitsSaid : Prop := dictSplitsRow.holds Try.pinned (OpenSpec.ofChange dictSplitsSpec)

/-- ITS FALSE NEIGHBOUR: 'it returns false'. Refute it at one input. -/
def dictSplitsWrong : ChangeSpec := { name := "dictSplits", fn := fun _ => fun
  | [d1, d2] => { results := [.lit (.bool false)], args := [d1, d2] }
  | _ => none }
def DictSplitsWrongFalsely : Prop := dictSplitsRow.holds Try.pinned (OpenSpec.ofChange dictSplitsWrong)

/-- 'millstreamlaw15.DictJoins': WHATEVER THE INPUT: true; the input reads as it did. -/
def dictJoinsSpec : ChangeSpec := { name := "dictJoins", fn := fun _ => fun
  | [d1, d2] => { results := [.lit (.bool true)], args := [d1, d2] }
  | _ => none }
def dictJoinsRow : OpenClaim := { program := "ytckaohkhknoocaa", sum := "8f93ddb64047fe7d63e3825d15b14f54a8ec5193f043926b0479c0a404bc1f20", func := "millstream/millstreamlaw15.DictJoins", spec := "dictJoins", apart := false }
def DictJoinsSaid : Prop := dictJoinsRow.holds Try.pinned (OpenSpec.ofChange dictJoinsSpec)

/-- ITS FALSE NEIGHBOUR: 'it returns false'. Refute it at one input. -/
def dictJoinsWrong : ChangeSpec := { name := "dictJoins", fn := fun _ => fun
  | [d1, d2] => { results := [.lit (.bool false)], args := [d1, d2] }
  | _ => none }
def DictJoinsWrongFalsely : Prop := dictJoinsRow.holds Try.pinned (OpenSpec.ofChange dictJoinsWrong)

/-- 'millstreamlaw15.DictReads': WHATEVER THE INPUT: true; the input reads as it did. -/
def dictReadsSpec : ChangeSpec := { name := "dictReads", fn := fun _ => fun
  | [d1, d2, d3] => { results := [.lit (.bool true)], args := [d1, d2, d3] }
  | _ => none }
def dictReadsRow : OpenClaim := { program := "ytckaohkhknoocaa", sum := "8f93ddb64047fe7d63e3825d15b14f54a8ec5193f043926b0479c0a404bc1f20", func := "millstream/millstreamlaw15.DictReads", spec := "dictReads", apart := false }
def DictReadsSaid : Prop := dictReadsRow.holds Try.pinned (OpenSpec.ofChange dictReadsSpec)

/-- ITS FALSE NEIGHBOUR: 'it returns false'. Refute it at one input. -/
def dictReadsWrong : ChangeSpec := { name := "dictReads", fn := fun _ => fun
  | [d1, d2, d3] => { results := [.lit (.bool false)], args := [d1, d2, d3] }
  | _ => none }
def DictReadsWrongFalsely : Prop := dictReadsRow.holds Try.pinned (OpenSpec.ofChange dictReadsWrong)

/-- 'millstreamlaw15.DictBack': WHATEVER THE INPUT: true; the input reads as it did. -/
def dictBackSpec : ChangeSpec := { name := "dictBack", fn := fun _ => fun
  | [d] => { results := [.lit (.bool true)], args := [d] }
  | _ => none }
def dictBackRow : OpenClaim := { program := "ytckaohkhknoocaa", sum := "8f93ddb64047fe7d63e3825d15b14f54a8ec5193f043926b0479c0a404bc1f20", func := "millstream/millstreamlaw15.DictBack", spec := "dictBack", apart := false }
def DictBackSaid : Prop := dictBackRow.holds Try.pinned (OpenSpec.ofChange dictBackSpec)

/-- ITS FALSE NEIGHBOUR: 'it returns false'. Refute it at one input. -/
def dictBackWrong : ChangeSpec := { name := "dictBack", fn := fun _ => fun
  | [d] => { results := [.lit (.bool false)], args := [d] }
  | _ => none }
def DictBackWrongFalsely : Prop := dictBackRow.holds Try.pinned (OpenSpec.ofChange dictBackWrong)

/-- 'millstreamlaw15.DictOnly': WHATEVER THE INPUT: true; the input reads as it did. -/
def dictOnlySpec : ChangeSpec := { name := "dictOnly", fn := fun _ => fun
  | [d1, d2] => { results := [.lit (.bool true)], args := [d1, d2] }
  | _ => none }
def dictOnlyRow : OpenClaim := { program := "ytckaohkhknoocaa", sum := "8f93ddb64047fe7d63e3825d15b14f54a8ec5193f043926b0479c0a404bc1f20", func := "millstream/millstreamlaw15.DictOnly", spec := "dictOnly", apart := false }
def DictOnlySaid : Prop := dictOnlyRow.holds Try.pinned (OpenSpec.ofChange dictOnlySpec)

/-- ITS FALSE NEIGHBOUR: 'it returns false'. Refute it at one input. -/
def dictOnlyWrong : ChangeSpec := { name := "dictOnly", fn := fun _ => fun
  | [d1, d2] => { results := [.lit (.bool false)], args := [d1, d2] }
  | _ => none }
def DictOnlyWrongFalsely : Prop := dictOnlyRow.holds Try.pinned (OpenSpec.ofChange dictOnlyWrong)

/-- 'millstreamlaw15.DictBytes': WHATEVER THE INPUT: true; the input reads as it did. -/
def dictBytesSpec : ChangeSpec := { name := "dictBytes", fn := fun _ => fun
  | [d1, d2, d3] => { results := [.lit (.bool true)], args := [d1, d2, d3] }
  | _ => none }
def dictBytesRow : OpenClaim := { program := "ytckaohkhknoocaa", sum := "8f93ddb64047fe7d63e3825d15b14f54a8ec5193f043926b0479c0a404bc1f20", func := "millstream/millstreamlaw15.DictBytes", spec := "dictBytes", apart := false }
def DictBytesSaid : Prop := dictBytesRow.holds Try.pinned (OpenSpec.ofChange dictBytesSpec)

/-- ITS FALSE NEIGHBOUR: 'it returns false'. Refute it at one input. -/
def dictBytesWrong : ChangeSpec := { name := "dictBytes", fn := fun _ => fun
  | [d1, d2, d3] => { results := [.lit (.bool false)], args := [d1, d2, d3] }
  | _ => none }
def DictBytesWrongFalsely : Prop := dictBytesRow.holds Try.pinned (OpenSpec.ofChange dictBytesWrong)

/-- 'millstreamlaw15.DictOnlyBytes': WHATEVER THE INPUT: true; the input reads as it did. -/
def dictOnlyBytesSpec : ChangeSpec := { name := "dictOnlyBytes", fn := fun _ => fun
  | [d1, d2, d3] => { results := [.lit (.bool true)], args := [d1, d2, d3] }
  | _ => none }
def dictOnlyBytesRow : OpenClaim := { program := "ytckaohkhknoocaa", sum := "8f93ddb64047fe7d63e3825d15b14f54a8ec5193f043926b0479c0a404bc1f20", func := "millstream/millstreamlaw15.DictOnlyBytes", spec := "dictOnlyBytes", apart := false }
def DictOnlyBytesSaid : Prop := dictOnlyBytesRow.holds Try.pinned (OpenSpec.ofChange dictOnlyBytesSpec)

/-- ITS FALSE NEIGHBOUR: 'it returns false'. Refute it at one input. -/
def dictOnlyBytesWrong : ChangeSpec := { name := "dictOnlyBytes", fn := fun _ => fun
  | [d1, d2, d3] => { results := [.lit (.bool false)], args := [d1, d2, d3] }
  | _ => none }
def DictOnlyBytesWrongFalsely : Prop := dictOnlyBytesRow.holds Try.pinned (OpenSpec.ofChange dictOnlyBytesWrong)

/-- 'millstreamlaw15.DictKnown': WHATEVER THE INPUT: true; the input reads as it did. -/
def dictKnownSpec : ChangeSpec := { name := "dictKnown", fn := fun _ => fun
  | [] => { results := [.lit (.bool true)], args := [] }
  | _ => none }
def dictKnownRow : OpenClaim := { program := "ytckaohkhknoocaa", sum := "8f93ddb64047fe7d63e3825d15b14f54a8ec5193f043926b0479c0a404bc1f20", func := "millstream/millstreamlaw15.DictKnown", spec := "dictKnown", apart := false }
def DictKnownSaid : Prop := dictKnownRow.holds Try.pinned (OpenSpec.ofChange dictKnownSpec)

/-- ITS FALSE NEIGHBOUR: 'it returns false'. Refute it at one input. -/
def dictKnownWrong : ChangeSpec := { name := "dictKnown", fn := fun _ => fun
  | [] => { results := [.lit (.bool false)], args := [] }
  | _ => none }
def DictKnownWrongFalsely : Prop := dictKnownRow.holds Try.pinned (OpenSpec.ofChange dictKnownWrong)

/- THE SECOND FORM. 'bulk': how many values and letters a reading holds, each counted each time it is reached (what is shared counts as often as it is met; a slice's spare places count too). A statement '..UptoSaid' is the law's where the arguments, and the package variables that the reading takes, are together of bulk at most 1048576: NARROWER than '..Said'. Prove '..Said' where nothing that the law and all that it calls make is longer than what came in: it says more and counts as full. Else prove '..UptoSaid'. A law counts once. -/
mutual
def uptoBulk {H : Type} : DataW H → Nat
  | .lit (.string bytes) => bytes.length + 1
  | .lit _ => 1
  | .nil => 1
  | .ptr d => uptoBulk d + 1
  | .slice elems spare => uptoBulkAll elems + uptoBulkAll spare + 1
  | .agg parts => uptoBulkAll parts + 1
  | .iface _ d => uptoBulk d + 1
  | .map entries => uptoBulkEntries entries + 1
  | .held _ => 1
def uptoBulkAll {H : Type} : List (DataW H) → Nat
  | [] => 0
  | d :: r => uptoBulk d + uptoBulkAll r
def uptoBulkEntries {H : Type} : List (Lit × DataW H) → Nat
  | [] => 0
  | x :: r => uptoBulkEntry x + uptoBulkEntries r
def uptoBulkEntry {H : Type} : Lit × DataW H → Nat
  | (.string bytes, d) => bytes.length + uptoBulk d + 1
  | (_, d) => uptoBulk d + 1
 end
def uptoSmall : (H : Type) → List (DataW H) → Bool := fun _ ds => decide (uptoBulkAll ds ≤ 1048576)
def OpenSpec.upto (s : _root_.Go.ChangeSpec) : _root_.Go.OpenSpec := { _root_.Go.OpenSpec.ofChange s with cond := some uptoSmall }

/-- 'millstreamlaw15.DictSplits', WHERE WHAT IT READS IS OF BULK AT MOST 1048576: true; the input reads as it did. -/
def dictSplitsUptoRow : OpenClaim := { program := "ytckaohkhknoocaa", sum := "8f93ddb64047fe7d63e3825d15b14f54a8ec5193f043926b0479c0a404bc1f20", func := "millstream/millstreamlaw15.DictSplits", spec := "dictSplits", apart := false, narrowed := true }
def DictSplitsUptoSaid : Prop := dictSplitsUptoRow.holds Try.pinned (OpenSpec.upto dictSplitsSpec)

/-- 'millstreamlaw15.DictJoins', WHERE WHAT IT READS IS OF BULK AT MOST 1048576: true; the input reads as it did. -/
def dictJoinsUptoRow : OpenClaim := { program := "ytckaohkhknoocaa", sum := "8f93ddb64047fe7d63e3825d15b14f54a8ec5193f043926b0479c0a404bc1f20", func := "millstream/millstreamlaw15.DictJoins", spec := "dictJoins", apart := false, narrowed := true }
def DictJoinsUptoSaid : Prop := dictJoinsUptoRow.holds Try.pinned (OpenSpec.upto dictJoinsSpec)

/-- 'millstreamlaw15.DictReads', WHERE WHAT IT READS IS OF BULK AT MOST 1048576: true; the input reads as it did. -/
def dictReadsUptoRow : OpenClaim := { program := "ytckaohkhknoocaa", sum := "8f93ddb64047fe7d63e3825d15b14f54a8ec5193f043926b0479c0a404bc1f20", func := "millstream/millstreamlaw15.DictReads", spec := "dictReads", apart := false, narrowed := true }
def DictReadsUptoSaid : Prop := dictReadsUptoRow.holds Try.pinned (OpenSpec.upto dictReadsSpec)

/-- 'millstreamlaw15.DictBack', WHERE WHAT IT READS IS OF BULK AT MOST 1048576: true; the input reads as it did. -/
def dictBackUptoRow : OpenClaim := { program := "ytckaohkhknoocaa", sum := "8f93ddb64047fe7d63e3825d15b14f54a8ec5193f043926b0479c0a404bc1f20", func := "millstream/millstreamlaw15.DictBack", spec := "dictBack", apart := false, narrowed := true }
def DictBackUptoSaid : Prop := dictBackUptoRow.holds Try.pinned (OpenSpec.upto dictBackSpec)

/-- 'millstreamlaw15.DictOnly', WHERE WHAT IT READS IS OF BULK AT MOST 1048576: true; the input reads as it did. -/
def dictOnlyUptoRow : OpenClaim := { program := "ytckaohkhknoocaa", sum := "8f93ddb64047fe7d63e3825d15b14f54a8ec5193f043926b0479c0a404bc1f20", func := "millstream/millstreamlaw15.DictOnly", spec := "dictOnly", apart := false, narrowed := true }
def DictOnlyUptoSaid : Prop := dictOnlyUptoRow.holds Try.pinned (OpenSpec.upto dictOnlySpec)

/-- 'millstreamlaw15.DictBytes', WHERE WHAT IT READS IS OF BULK AT MOST 1048576: true; the input reads as it did. -/
def dictBytesUptoRow : OpenClaim := { program := "ytckaohkhknoocaa", sum := "8f93ddb64047fe7d63e3825d15b14f54a8ec5193f043926b0479c0a404bc1f20", func := "millstream/millstreamlaw15.DictBytes", spec := "dictBytes", apart := false, narrowed := true }
def DictBytesUptoSaid : Prop := dictBytesUptoRow.holds Try.pinned (OpenSpec.upto dictBytesSpec)

/-- 'millstreamlaw15.DictOnlyBytes', WHERE WHAT IT READS IS OF BULK AT MOST 1048576: true; the input reads as it did. -/
def dictOnlyBytesUptoRow : OpenClaim := { program := "ytckaohkhknoocaa", sum := "8f93ddb64047fe7d63e3825d15b14f54a8ec5193f043926b0479c0a404bc1f20", func := "millstream/millstreamlaw15.DictOnlyBytes", spec := "dictOnlyBytes", apart := false, narrowed := true }
def DictOnlyBytesUptoSaid : Prop := dictOnlyBytesUptoRow.holds Try.pinned (OpenSpec.upto dictOnlyBytesSpec)

/-- 'millstreamlaw15.DictKnown', WHERE WHAT IT READS IS OF BULK AT MOST 1048576: true; the input reads as it did. -/
def dictKnownUptoRow : OpenClaim := { program := "ytckaohkhknoocaa", sum := "8f93ddb64047fe7d63e3825d15b14f54a8ec5193f043926b0479c0a404bc1f20", func := "millstream/millstreamlaw15.DictKnown", spec := "dictKnown", apart := false, narrowed := true }
def DictKnownUptoSaid : Prop := dictKnownUptoRow.holds Try.pinned (OpenSpec.upto dictKnownSpec)

end Rows
end Go.Proofs.Ytckaohkhknoocaa
