/- The library's strings.Repeat at this dump: its contract of the shelf. -/
import Derived.Test.YtfgpbnfobpfacaaGreatDoorRepeatLay
import Derived.Below
import Derived.WalkKit
set_option linter.unusedVariables false
namespace Go.Proofs.YtfgpbnfobpfacaaGreatDoor
open Go.RowKit Go.Shelf
theorem rep_extra : Builder.Extra Tryz.prog Tryz.laysRepeat_ren where
  sizeBuilder := by kernel_rfl
  liesBuilder := by kernel_rfl
  t5 := Tryz.laysRepeat.t5
  a5 := Tryz.laysRepeat.a5
  z5 := Tryz.laysRepeat.z5
  v5 := Tryz.laysRepeat.v5
  infoByte := by kernel_rfl
  cellsByte := by kernel_rfl
  sizeByte := by kernel_rfl
  neB5 := by decide
theorem repeat_any (s : ByteArray) (c : Nat) (w : World) (hc : c ≤ 9223372036854775807) (hl : s.size * c ≤ 140737488355328) :
    Calls Tryz.prog 23 #[.string s, .int .i64 (c : Int)] w fun e w' => e = .returned (.string ⟨(Lib.repeatL s.data.toList c).toArray⟩) ∧ Below w.heap.size w w' :=
  Any.strings_Repeat Tryz.laysRepeat rep_extra s c w hc hl
end Go.Proofs.YtfgpbnfobpfacaaGreatDoor
