/- The law MaskReads, walked. -/
import Derived.Test.YtbcfdlhhmifneaaMaskLaw
set_option linter.unusedVariables false
set_option linter.unusedSimpArgs false
namespace Go.Proofs.Ytbcfdlhhmifneaa
open Go.RowKit
set_option maxRecDepth 100000 in
set_option maxHeartbeats 2000000 in
theorem maskReads_any (A : Option Addr) (l c : Nat) (n : Int) (xs : List UInt8) (w : World) (hr : Reads w w.heap.size 1 A l (u8s xs)) (hl : l ≤ c) (hc : c ≤ maxLen) (h1 : -9223372036854775808 ≤ n) (h2 : n ≤ 9223372036854775807) :
    Calls Try.prog 4 #[.slice A l c, .int .i64 n] w fun e w' => e = .returned (.bool true) ∧ Below w.heap.size w w' := by
  have H1 := Lib.hid h1
  have H2 := Lib.hid h2
  clear h1 h2
  have hlen := reads_len hr
  have hr0 := hr.head (k := min l 60) (Nat.min_le_left _ _)
  rw [Nat.mul_one, u8s_take] at hr0
  have hmin : min l 60 ≤ l := Nat.min_le_left _ _
  have hmin2 : min l 60 ≤ 60 := Nat.min_le_right _ _
  have hcast : min (l : Int) 60 = ((min l 60 : Nat) : Int) := by omega
  clear hlen
  generalize min l 60 = m at hr0 hmin hmin2 hcast
  generalize xs.take m = zs at hr0
  unfold maxLen at hc
  have hB := Below.refl w.heap.size w
  go_enter Try.func4, Try.ntmps4
  go_wp2_with fail
  with_reducible refine (copyBytes_any A m c zs _ hr0 (by omega)).mono ?_
  rintro e w1 ⟨A1, c1, rfl, hc1, hd1, o1, hb⟩
  replace hr0 := hr0.on hb
  replace hB := bon hB hb
  have r1 := own_reads o1
  clear hb
  go_wp2_with fail
  with_reducible refine (munpack_any A1 _ c1 zs n _ r1 hc1 hd1 H1.out H2.out).mono ?_
  rintro e w2 ⟨A2, c2, rfl, hc2, hd2, r2, hb⟩
  replace hr0 := hr0.on hb
  replace r1 := r1.on hb
  replace hB := bon hB hb
  clear hb
  go_wp2_with fail
  with_reducible refine (refmunpack_any A1 _ c1 zs n _ r1 hc1 hd1 H1.out H2.out).mono ?_
  rintro e w3 ⟨A3, c3, rfl, hc3, hd3, r3, hb⟩
  replace hr0 := hr0.on hb
  replace r1 := r1.on hb
  replace r2 := r2.on hb
  replace hB := bon hB hb
  clear hb
  go_wp2_with fail
  with_reducible refine (same_yes _ _ _ _ _ _ _ _ _ r2 r3 hc2 hd2 hc3 hd3 rfl).mono ?_
  rintro e w4 ⟨rfl, hb⟩
  replace hr0 := hr0.on hb
  replace r1 := r1.on hb
  replace r2 := r2.on hb
  replace r3 := r3.on hb
  replace hB := bon hB hb
  clear hb
  go_wp2_with fail
  with_reducible refine (eq_yes _ _ _ _ _ _ _ _ _ r1 hr0 rfl).mono ?_
  rintro e w' ⟨rfl, rfl⟩
  go_wp2_with fail
  with_reducible refine (mworks_any _).mono ?_
  rintro e w5 ⟨rfl, hb⟩
  replace hr0 := hr0.on hb
  replace r1 := r1.on hb
  replace r2 := r2.on hb
  replace r3 := r3.on hb
  replace hB := bon hB hb
  clear hb
  go_wp2
  go_ret
  exact ⟨rfl, hB⟩
end Go.Proofs.Ytbcfdlhhmifneaa
