/- Bring, walked. -/
import Derived.Test.YtnkkhplddjopnaaBase
set_option linter.unusedVariables false
set_option linter.unusedSimpArgs false
namespace Go.Proofs.Ytnkkhplddjopnaa
open Go.RowKit

set_option maxRecDepth 100000 in
set_option maxHeartbeats 400000 in
theorem bring_any (i n : Int) (w : World) (h1 : -9223372036854775808 ≤ i) (h2 : i ≤ 9223372036854775807) (hn : 0 < n) (hn2 : n ≤ 9223372036854775807) :
    Calls Try.prog 33 #[.int .i64 i, .int .i64 n] w fun e w' => e = .returned (.int .i64 (i % n)) ∧ w = w' := by
  have hb := Int.emod_nonneg i (by omega : n ≠ 0)
  have hlt := Int.emod_lt_of_pos i hn
  have ht : i.tmod n = i % n ∨ (i.tmod n < 0 ∧ i.tmod n + n = i % n) := by
    rw [Int.tmod_eq_emod]
    split
    · left; omega
    · rename_i h
      rw [Int.natAbs_of_nonneg (by omega)]
      right; omega
  have hz : ¬ n = 0 := by omega
  have hm1 : -9223372036854775808 ≤ i.tmod n ∧ i.tmod n ≤ 9223372036854775807 := by rcases ht with h | ⟨h, h'⟩ <;> omega
  rcases ht with h | ⟨h, h'⟩
  · have h0 : 0 ≤ i.tmod n := by omega
    have H := Lib.hid h
    clear h
    go_enter Try.func33, Try.ntmps33
    go_wp2
    go_ret
    exact ⟨congrArg (fun x => Ending.returned (.int .i64 x)) H.out, rfl⟩
  · have H := Lib.hid h'
    clear h'
    go_enter Try.func33, Try.ntmps33
    go_wp2
    go_ret
    refine ⟨congrArg (fun x => Ending.returned (.int .i64 x)) ?_, rfl⟩
    have := H.out
    first | omega | (simp only [wrap64]; omega)

end Go.Proofs.Ytnkkhplddjopnaa
