/- Arguments of layer 3's laws opened: lists of pieces, and of what is asked. -/
import Derived.Test.YtnkkhplddjopnaaPackLaw
import Derived.Deep.Fields
set_option linter.unusedVariables false
set_option linter.unusedSimpArgs false
namespace Go.Proofs.Ytnkkhplddjopnaa
open Go.RowKit Go.Deep Go.ChangeShapes Go.WideShapes
theorem u64_in {a : Int} (h : (Lit.int .u64 a).wf = true) : ∃ n : Nat, a = (n : Int) ∧ n < 18446744073709551616 := nat_of_u64 h
theorem pieces_of {H : Type} {enc : TypeId × Value → H} {w : World} {held : Bool} {a : Option Addr} {len cap : Nat} {d : DataW H} {p : List MemPlace} (h : DataW.Trod enc Try.prog w 0 (fun _ => true) held 22 (.slice a len cap) d p) :
    ∃ xs : List Pc, Reads w w.heap.size 3 a len (pcs xs) ∧ len ≤ cap ∧ cap ≤ maxLen ∧ PcOk xs := by
  haveI : Inhabited Pc := ⟨(0, 0, ⟨#[]⟩)⟩
  refine structs_of 3 (fun p : Pc => [.int .i64 p.1, .int .u64 (p.2.1 : Int), .string p.2.2]) (fun p => -9223372036854775808 ≤ p.1 ∧ p.1 ≤ 9223372036854775807 ∧ p.2.1 < 18446744073709551616 ∧ p.2.2.size ≤ maxLen) (by decide) (fun _ => rfl)
    Try.underlying22 (by kernel_rfl) (fun n cs y hy => ?_) h
  obtain ⟨m, hl, hc⟩ := struct_cells Try.underlying30 (by kernel_rfl) (by kernel_rfl) hy
  match cs, hl with
  | [v0, v1, v2], _ =>
    obtain ⟨y0, g0⟩ := hc 0 _ _ rfl rfl
    obtain ⟨y1, g1⟩ := hc 1 _ _ rfl rfl
    obtain ⟨y2, g2⟩ := hc 2 _ _ rfl rfl
    obtain ⟨k, e0, _, b0⟩ := DataW.trod_int Try.underlying3 g0
    obtain ⟨u, e1, _, b1⟩ := DataW.trod_int Try.underlying28 g1
    obtain ⟨s, e2, _, b2⟩ := DataW.trod_string Try.underlying9 g2
    obtain ⟨j, rfl, hj⟩ := nat_of_u64 b1
    cases e0
    cases e1
    cases e2
    exact ⟨(k, j, s), rfl, (bounds_i64 b0).1, (bounds_i64 b0).2, hj, b2⟩
theorem asks_of {H : Type} {enc : TypeId × Value → H} {w : World} {held : Bool} {a : Option Addr} {len cap : Nat} {d : DataW H} {p : List MemPlace} (h : DataW.Trod enc Try.prog w 0 (fun _ => true) held 43 (.slice a len cap) d p) :
    ∃ xs : List (Int × Int), Reads w w.heap.size 2 a len (aks xs) ∧ len ≤ cap ∧ cap ≤ maxLen ∧ AkOk xs := by
  refine structs_of 2 (fun p : Int × Int => [.int .i64 p.1, .int .i64 p.2]) (fun p => -9223372036854775808 ≤ p.1 ∧ p.1 ≤ 9223372036854775807 ∧ -9223372036854775808 ≤ p.2 ∧ p.2 ≤ 9223372036854775807) (by decide) (fun _ => rfl)
    Try.underlying43 (by kernel_rfl) (fun n cs y hy => ?_) h
  obtain ⟨m, hl, hc⟩ := struct_cells Try.underlying52 (by kernel_rfl) (by kernel_rfl) hy
  match cs, hl with
  | [v0, v1], _ =>
    obtain ⟨y0, g0⟩ := hc 0 _ _ rfl rfl
    obtain ⟨y1, g1⟩ := hc 1 _ _ rfl rfl
    obtain ⟨k, e0, _, b0⟩ := DataW.trod_int Try.underlying3 g0
    obtain ⟨u, e1, _, b1⟩ := DataW.trod_int Try.underlying3 g1
    cases e0
    cases e1
    exact ⟨(k, u), rfl, (bounds_i64 b0).1, (bounds_i64 b0).2, (bounds_i64 b1).1, (bounds_i64 b1).2⟩
end Go.Proofs.Ytnkkhplddjopnaa
