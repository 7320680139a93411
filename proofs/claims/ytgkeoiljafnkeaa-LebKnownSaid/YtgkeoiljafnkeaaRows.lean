/-
  No cell of these rows narrows 'for every input' (looked for: loops, veiled, ifaces, maps, wideKeys, modest, calm, conditions, laid).
  DERIVED. THE GIVEN ROWS OF THIS SEAT. 8 by the template 'for every input the law returns true; each argument reads behind the call as it read before'; 0 by the template 'total and deterministic' (their statements: YtgkeoiljafnkeaaTotals.lean).
  GIVEN WITH THE SEED: the statements are not yours to turn. If you find one false, say at which input.
  Laid BY PROGRAM, IN A SANDBOX (cutbox-rows.mjs): the forced cells as the released guide's own fill.sh prints them over the translation ddaf7ad4e81dc9af… (all of the seat's roots in one cut). By AI agents, Wed Nov 11 2026. No macro, syntax, notation, axiom, sorry.
-/
import Derived.Test.YtgkeoiljafnkeaaChecked
import GoSem.Claim
import GoSem.ClaimJoined
import GoSem.ClaimMapViews
import Derived.JoinedTies
import Derived.KernelRfl
namespace Go.Proofs.Ytgkeoiljafnkeaa
/- THE CELL 'sum', in the pinned program and in every row, IS THE sha256 OF THE DUMP (.gsa) THAT YtgkeoiljafnkeaaProg.lean LOADS. Nothing in Lean hashes anything: it is a label: what it is worth is what the hold of that sum in a sandbox is worth. -/
noncomputable def Try.pinned : Pinned := { name := "ytgkeoiljafnkeaa", sum := "ddaf7ad4e81dc9af3942ca6cbc957aa44a020fc27eafaca4fe29b21e6232c5d2", checked := Try.checked }
namespace Rows
def none {H : Type} : Left H := { results := [], args := [] }

/-- 'millstreamlaw01.LebWrites': WHATEVER THE INPUT: true; the input reads as it did. -/
def lebWritesSpec : ChangeSpec := { name := "lebWrites", fn := fun _ => fun
  | [d1, d2, d3] => { results := [.lit (.bool true)], args := [d1, d2, d3] }
  | _ => none }
def lebWritesRow : OpenClaim := { program := "ytgkeoiljafnkeaa", sum := "ddaf7ad4e81dc9af3942ca6cbc957aa44a020fc27eafaca4fe29b21e6232c5d2", func := "millstream/millstreamlaw01.LebWrites", spec := "lebWrites", apart := false }
def LebWritesSaid : Prop := lebWritesRow.holds Try.pinned (OpenSpec.ofChange lebWritesSpec)

/-- ITS FALSE NEIGHBOUR: 'it returns false'. Refute it at one input. -/
def lebWritesWrong : ChangeSpec := { name := "lebWrites", fn := fun _ => fun
  | [d1, d2, d3] => { results := [.lit (.bool false)], args := [d1, d2, d3] }
  | _ => none }
def LebWritesWrongFalsely : Prop := lebWritesRow.holds Try.pinned (OpenSpec.ofChange lebWritesWrong)

/-- 'millstreamlaw01.LebReads': WHATEVER THE INPUT: true; the input reads as it did. -/
def lebReadsSpec : ChangeSpec := { name := "lebReads", fn := fun _ => fun
  | [d] => { results := [.lit (.bool true)], args := [d] }
  | _ => none }
def lebReadsRow : OpenClaim := { program := "ytgkeoiljafnkeaa", sum := "ddaf7ad4e81dc9af3942ca6cbc957aa44a020fc27eafaca4fe29b21e6232c5d2", func := "millstream/millstreamlaw01.LebReads", spec := "lebReads", apart := false }
def LebReadsSaid : Prop := lebReadsRow.holds Try.pinned (OpenSpec.ofChange lebReadsSpec)

/-- ITS FALSE NEIGHBOUR: 'it returns false'. Refute it at one input. -/
def lebReadsWrong : ChangeSpec := { name := "lebReads", fn := fun _ => fun
  | [d] => { results := [.lit (.bool false)], args := [d] }
  | _ => none }
def LebReadsWrongFalsely : Prop := lebReadsRow.holds Try.pinned (OpenSpec.ofChange lebReadsWrong)

/-- 'millstreamlaw01.LebBack': WHATEVER THE INPUT: true; the input reads as it did. -/
def lebBackSpec : ChangeSpec := { name := "lebBack", fn := fun _ => fun
  | [d1, d2, d3] => { results := [.lit (.bool true)], args := [d1, d2, d3] }
  | _ => none }
def lebBackRow : OpenClaim := { program := "ytgkeoiljafnkeaa", sum := "ddaf7ad4e81dc9af3942ca6cbc957aa44a020fc27eafaca4fe29b21e6232c5d2", func := "millstream/millstreamlaw01.LebBack", spec := "lebBack", apart := false }
def LebBackSaid : Prop := lebBackRow.holds Try.pinned (OpenSpec.ofChange lebBackSpec)

/-- ITS FALSE NEIGHBOUR: 'it returns false'. Refute it at one input. -/
def lebBackWrong : ChangeSpec := { name := "lebBack", fn := fun _ => fun
  | [d1, d2, d3] => { results := [.lit (.bool false)], args := [d1, d2, d3] }
  | _ => none }
def LebBackWrongFalsely : Prop := lebBackRow.holds Try.pinned (OpenSpec.ofChange lebBackWrong)

/-- 'millstreamlaw01.LebOnly': WHATEVER THE INPUT: true; the input reads as it did. -/
def lebOnlySpec : ChangeSpec := { name := "lebOnly", fn := fun _ => fun
  | [d] => { results := [.lit (.bool true)], args := [d] }
  | _ => none }
def lebOnlyRow : OpenClaim := { program := "ytgkeoiljafnkeaa", sum := "ddaf7ad4e81dc9af3942ca6cbc957aa44a020fc27eafaca4fe29b21e6232c5d2", func := "millstream/millstreamlaw01.LebOnly", spec := "lebOnly", apart := false }
def LebOnlySaid : Prop := lebOnlyRow.holds Try.pinned (OpenSpec.ofChange lebOnlySpec)

/-- ITS FALSE NEIGHBOUR: 'it returns false'. Refute it at one input. -/
def lebOnlyWrong : ChangeSpec := { name := "lebOnly", fn := fun _ => fun
  | [d] => { results := [.lit (.bool false)], args := [d] }
  | _ => none }
def LebOnlyWrongFalsely : Prop := lebOnlyRow.holds Try.pinned (OpenSpec.ofChange lebOnlyWrong)

/-- 'millstreamlaw01.LebApart': WHATEVER THE INPUT: true; the input reads as it did. -/
def lebApartSpec : ChangeSpec := { name := "lebApart", fn := fun _ => fun
  | [d1, d2] => { results := [.lit (.bool true)], args := [d1, d2] }
  | _ => none }
def lebApartRow : OpenClaim := { program := "ytgkeoiljafnkeaa", sum := "ddaf7ad4e81dc9af3942ca6cbc957aa44a020fc27eafaca4fe29b21e6232c5d2", func := "millstream/millstreamlaw01.LebApart", spec := "lebApart", apart := false }
def LebApartSaid : Prop := lebApartRow.holds Try.pinned (OpenSpec.ofChange lebApartSpec)

/-- ITS FALSE NEIGHBOUR: 'it returns false'. Refute it at one input. -/
def lebApartWrong : ChangeSpec := { name := "lebApart", fn := fun _ => fun
  | [d1, d2] => { results := [.lit (.bool false)], args := [d1, d2] }
  | _ => none }
def LebApartWrongFalsely : Prop := lebApartRow.holds Try.pinned (OpenSpec.ofChange lebApartWrong)

/-- 'millstreamlaw01.LebZigs': WHATEVER THE INPUT: true; the input reads as it did. -/
def lebZigsSpec : ChangeSpec := { name := "lebZigs", fn := fun _ => fun
  | [d1, d2, d3] => { results := [.lit (.bool true)], args := [d1, d2, d3] }
  | _ => none }
def lebZigsRow : OpenClaim := { program := "ytgkeoiljafnkeaa", sum := "ddaf7ad4e81dc9af3942ca6cbc957aa44a020fc27eafaca4fe29b21e6232c5d2", func := "millstream/millstreamlaw01.LebZigs", spec := "lebZigs", apart := false }
def LebZigsSaid : Prop := lebZigsRow.holds Try.pinned (OpenSpec.ofChange lebZigsSpec)

/-- ITS FALSE NEIGHBOUR: 'it returns false'. Refute it at one input. -/
def lebZigsWrong : ChangeSpec := { name := "lebZigs", fn := fun _ => fun
  | [d1, d2, d3] => { results := [.lit (.bool false)], args := [d1, d2, d3] }
  | _ => none }
def LebZigsWrongFalsely : Prop := lebZigsRow.holds Try.pinned (OpenSpec.ofChange lebZigsWrong)

/-- 'millstreamlaw01.LebSizes': WHATEVER THE INPUT: true; the input reads as it did. -/
def lebSizesSpec : ChangeSpec := { name := "lebSizes", fn := fun _ => fun
  | [d1, d2] => { results := [.lit (.bool true)], args := [d1, d2] }
  | _ => none }
def lebSizesRow : OpenClaim := { program := "ytgkeoiljafnkeaa", sum := "ddaf7ad4e81dc9af3942ca6cbc957aa44a020fc27eafaca4fe29b21e6232c5d2", func := "millstream/millstreamlaw01.LebSizes", spec := "lebSizes", apart := false }
def LebSizesSaid : Prop := lebSizesRow.holds Try.pinned (OpenSpec.ofChange lebSizesSpec)

/-- ITS FALSE NEIGHBOUR: 'it returns false'. Refute it at one input. -/
def lebSizesWrong : ChangeSpec := { name := "lebSizes", fn := fun _ => fun
  | [d1, d2] => { results := [.lit (.bool false)], args := [d1, d2] }
  | _ => none }
def LebSizesWrongFalsely : Prop := lebSizesRow.holds Try.pinned (OpenSpec.ofChange lebSizesWrong)

/-- 'millstreamlaw01.LebKnown': WHATEVER THE INPUT: true; the input reads as it did. -/
def lebKnownSpec : ChangeSpec := { name := "lebKnown", fn := fun _ => fun
  | [] => { results := [.lit (.bool true)], args := [] }
  | _ => none }
def lebKnownRow : OpenClaim := { program := "ytgkeoiljafnkeaa", sum := "ddaf7ad4e81dc9af3942ca6cbc957aa44a020fc27eafaca4fe29b21e6232c5d2", func := "millstream/millstreamlaw01.LebKnown", spec := "lebKnown", apart := false }
def LebKnownSaid : Prop := lebKnownRow.holds Try.pinned (OpenSpec.ofChange lebKnownSpec)

/-- ITS FALSE NEIGHBOUR: 'it returns false'. Refute it at one input. -/
def lebKnownWrong : ChangeSpec := { name := "lebKnown", fn := fun _ => fun
  | [] => { results := [.lit (.bool false)], args := [] }
  | _ => none }
def LebKnownWrongFalsely : Prop := lebKnownRow.holds Try.pinned (OpenSpec.ofChange lebKnownWrong)

/- THE SECOND FORM. 'bulk': how many values and letters a reading holds, each counted each time it is reached (what is shared counts as often as it is met; a slice's spare places count too). A statement '..UptoSaid' is the law's where the arguments, and the package variables that the reading takes, are together of bulk at most 1048576: NARROWER than '..Said'. Prove '..Said' where nothing that the law and all that it calls make is longer than what came in: it says more and counts as full. Else prove '..UptoSaid'. A law counts once. -/
mutual
def uptoBulk {H : Type} : DataW H → Nat
  | .lit (.string bytes) => bytes.length + 1
  | .lit _ => 1
  | .nil => 1
  | .ptr d => uptoBulk d + 1
  | .slice elems spare => uptoBulkAll elems + uptoBulkAll spare + 1
  | .agg parts => uptoBulkAll parts + 1
  | .iface _ d => uptoBulk d + 1
  | .map entries => uptoBulkEntries entries + 1
  | .held _ => 1
def uptoBulkAll {H : Type} : List (DataW H) → Nat
  | [] => 0
  | d :: r => uptoBulk d + uptoBulkAll r
def uptoBulkEntries {H : Type} : List (Lit × DataW H) → Nat
  | [] => 0
  | x :: r => uptoBulkEntry x + uptoBulkEntries r
def uptoBulkEntry {H : Type} : Lit × DataW H → Nat
  | (.string bytes, d) => bytes.length + uptoBulk d + 1
  | (_, d) => uptoBulk d + 1
 end
def uptoSmall : (H : Type) → List (DataW H) → Bool := fun _ ds => decide (uptoBulkAll ds ≤ 1048576)
def OpenSpec.upto (s : _root_.Go.ChangeSpec) : _root_.Go.OpenSpec := { _root_.Go.OpenSpec.ofChange s with cond := some uptoSmall }

/-- 'millstreamlaw01.LebWrites', WHERE WHAT IT READS IS OF BULK AT MOST 1048576: true; the input reads as it did. -/
def lebWritesUptoRow : OpenClaim := { program := "ytgkeoiljafnkeaa", sum := "ddaf7ad4e81dc9af3942ca6cbc957aa44a020fc27eafaca4fe29b21e6232c5d2", func := "millstream/millstreamlaw01.LebWrites", spec := "lebWrites", apart := false, narrowed := true }
def LebWritesUptoSaid : Prop := lebWritesUptoRow.holds Try.pinned (OpenSpec.upto lebWritesSpec)

/-- 'millstreamlaw01.LebReads', WHERE WHAT IT READS IS OF BULK AT MOST 1048576: true; the input reads as it did. -/
def lebReadsUptoRow : OpenClaim := { program := "ytgkeoiljafnkeaa", sum := "ddaf7ad4e81dc9af3942ca6cbc957aa44a020fc27eafaca4fe29b21e6232c5d2", func := "millstream/millstreamlaw01.LebReads", spec := "lebReads", apart := false, narrowed := true }
def LebReadsUptoSaid : Prop := lebReadsUptoRow.holds Try.pinned (OpenSpec.upto lebReadsSpec)

/-- 'millstreamlaw01.LebBack', WHERE WHAT IT READS IS OF BULK AT MOST 1048576: true; the input reads as it did. -/
def lebBackUptoRow : OpenClaim := { program := "ytgkeoiljafnkeaa", sum := "ddaf7ad4e81dc9af3942ca6cbc957aa44a020fc27eafaca4fe29b21e6232c5d2", func := "millstream/millstreamlaw01.LebBack", spec := "lebBack", apart := false, narrowed := true }
def LebBackUptoSaid : Prop := lebBackUptoRow.holds Try.pinned (OpenSpec.upto lebBackSpec)

/-- 'millstreamlaw01.LebOnly', WHERE WHAT IT READS IS OF BULK AT MOST 1048576: true; the input reads as it did. -/
def lebOnlyUptoRow : OpenClaim := { program := "ytgkeoiljafnkeaa", sum := "ddaf7ad4e81dc9af3942ca6cbc957aa44a020fc27eafaca4fe29b21e6232c5d2", func := "millstream/millstreamlaw01.LebOnly", spec := "lebOnly", apart := false, narrowed := true }
def LebOnlyUptoSaid : Prop := lebOnlyUptoRow.holds Try.pinned (OpenSpec.upto lebOnlySpec)

/-- 'millstreamlaw01.LebApart', WHERE WHAT IT READS IS OF BULK AT MOST 1048576: true; the input reads as it did. -/
def lebApartUptoRow : OpenClaim := { program := "ytgkeoiljafnkeaa", sum := "ddaf7ad4e81dc9af3942ca6cbc957aa44a020fc27eafaca4fe29b21e6232c5d2", func := "millstream/millstreamlaw01.LebApart", spec := "lebApart", apart := false, narrowed := true }
def LebApartUptoSaid : Prop := lebApartUptoRow.holds Try.pinned (OpenSpec.upto lebApartSpec)

/-- 'millstreamlaw01.LebZigs', WHERE WHAT IT READS IS OF BULK AT MOST 1048576: true; the input reads as it did. -/
def lebZigsUptoRow : OpenClaim := { program := "ytgkeoiljafnkeaa", sum := "ddaf7ad4e81dc9af3942ca6cbc957aa44a020fc27eafaca4fe29b21e6232c5d2", func := "millstream/millstreamlaw01.LebZigs", spec := "lebZigs", apart := false, narrowed := true }
def LebZigsUptoSaid : Prop := lebZigsUptoRow.holds Try.pinned (OpenSpec.upto lebZigsSpec)

/-- 'millstreamlaw01.LebSizes', WHERE WHAT IT READS IS OF BULK AT MOST 1048576: true; the input reads as it did. -/
def lebSizesUptoRow : OpenClaim := { program := "ytgkeoiljafnkeaa", sum := "ddaf7ad4e81dc9af3942ca6cbc957aa44a020fc27eafaca4fe29b21e6232c5d2", func := "millstream/millstreamlaw01.LebSizes", spec := "lebSizes", apart := false, narrowed := true }
def LebSizesUptoSaid : Prop := lebSizesUptoRow.holds Try.pinned (OpenSpec.upto lebSizesSpec)

/-- 'millstreamlaw01.LebKnown', WHERE WHAT IT READS IS OF BULK AT MOST 1048576: true; the input reads as it did. -/
def lebKnownUptoRow : OpenClaim := { program := "ytgkeoiljafnkeaa", sum := "ddaf7ad4e81dc9af3942ca6cbc957aa44a020fc27eafaca4fe29b21e6232c5d2", func := "millstream/millstreamlaw01.LebKnown", spec := "lebKnown", apart := false, narrowed := true }
def LebKnownUptoSaid : Prop := lebKnownUptoRow.holds Try.pinned (OpenSpec.upto lebKnownSpec)

end Rows
end Go.Proofs.Ytgkeoiljafnkeaa
