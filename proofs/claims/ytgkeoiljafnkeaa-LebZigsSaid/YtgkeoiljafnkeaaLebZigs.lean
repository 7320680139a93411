/- The law LebZigs, walked. -/
import Derived.Test.YtgkeoiljafnkeaaLebLaw
set_option linter.unusedVariables false
set_option linter.unusedSimpArgs false
namespace Go.Proofs.Ytgkeoiljafnkeaa
open Go.RowKit
set_option maxRecDepth 100000 in
set_option maxHeartbeats 2000000 in
theorem lebZigs_a (n m : Int) (u : Nat) (w : World) (h1 : -9223372036854775808 ≤ n) (h2 : n ≤ 9223372036854775807) (h3 : -9223372036854775808 ≤ m) (h4 : m ≤ 9223372036854775807) (hn : u < 18446744073709551616) (ha : 0 ≤ n) (hb : 0 ≤ m) (hc : n < m) :
    Calls Try.prog 8 #[.int .i64 n, .int .i64 m, .int .u64 (u : Int)] w fun e w' => e = .returned (.bool true) ∧ Below w.heap.size w w' := by
  have Z := Lib.hid (zag_zig n)
  have ZU := Lib.hid (zig_zag u)
  have Bu := Lib.hid (zag_bounds u hn)
  have Zl := Lib.hid (zig_lt n h1 h2)
  have N1 := Lib.hid h1
  have N2 := Lib.hid h2
  have M1 := Lib.hid h3
  have M2 := Lib.hid h4
  have Hn := Lib.hid hn
  have q1 : ((zig n : Nat) : Int) % 2 = 0 := by unfold zig; split <;> omega
  have q2 : IntKind.u64.wrap n / 9223372036854775808 = 0 := by rw [IntKind.wrap_u64]; omega
  have d1 : decide (0 ≤ n) = true := by simp; omega
  have d2 : decide (0 ≤ m) = true := by simp; omega
  have d3 : decide (n < 0) = false := by simp; omega
  have d4 : decide (m < 0) = false := by simp; omega
  have d5 : decide (n < m) = true := by simp; omega
  have d6 : decide (zig n < zig m) = true := by simp; unfold zig; rw [if_neg (by omega), if_neg (by omega)]; omega
  clear h1 h2 h3 h4 hn ha hb hc
  have hB := Below.refl w.heap.size w
  go_enter Try.func8, Try.ntmps8
  go_wp2_with fail
  with_reducible refine (zig_any n _ N1.out N2.out).mono ?_
  rintro e w' ⟨rfl, rfl⟩
  go_wp2_with fail
  with_reducible refine (zag_lit _ n _ Zl.out Z.out).mono ?_
  rintro e w' ⟨rfl, rfl⟩
  go_wp2_with fail
  with_reducible refine (zag_any u _ Hn.out).mono ?_
  rintro e w' ⟨rfl, rfl⟩
  go_wp2_with fail
  with_reducible refine (zig_lit _ (u : Int) _ Bu.out.1 Bu.out.2 (by rw [ZU.out])).mono ?_
  rintro e w' ⟨rfl, rfl⟩
  go_wp2_with fail
  with_reducible refine (zig_any n _ N1.out N2.out).mono ?_
  rintro e w' ⟨rfl, rfl⟩
  go_wp2_with fail
  with_reducible refine (zig_any n _ N1.out N2.out).mono ?_
  rintro e w' ⟨rfl, rfl⟩
  go_wp2_with fail
  with_reducible refine (zig_any m _ M1.out M2.out).mono ?_
  rintro e w' ⟨rfl, rfl⟩
  go_wp2_with fail
  with_reducible refine (works_any _).mono ?_
  rintro e w3 ⟨rfl, hb⟩
  replace hB := bon hB hb
  clear hb
  go_wp2
  go_ret
  exact ⟨rfl, hB⟩
set_option maxRecDepth 100000 in
set_option maxHeartbeats 2000000 in
theorem lebZigs_b (n m : Int) (u : Nat) (w : World) (h1 : -9223372036854775808 ≤ n) (h2 : n ≤ 9223372036854775807) (h3 : -9223372036854775808 ≤ m) (h4 : m ≤ 9223372036854775807) (hn : u < 18446744073709551616) (ha : 0 ≤ n) (hb : 0 ≤ m) (hc : ¬ n < m) :
    Calls Try.prog 8 #[.int .i64 n, .int .i64 m, .int .u64 (u : Int)] w fun e w' => e = .returned (.bool true) ∧ Below w.heap.size w w' := by
  have Z := Lib.hid (zag_zig n)
  have ZU := Lib.hid (zig_zag u)
  have Bu := Lib.hid (zag_bounds u hn)
  have Zl := Lib.hid (zig_lt n h1 h2)
  have N1 := Lib.hid h1
  have N2 := Lib.hid h2
  have M1 := Lib.hid h3
  have M2 := Lib.hid h4
  have Hn := Lib.hid hn
  have q1 : ((zig n : Nat) : Int) % 2 = 0 := by unfold zig; split <;> omega
  have q2 : IntKind.u64.wrap n / 9223372036854775808 = 0 := by rw [IntKind.wrap_u64]; omega
  have d1 : decide (0 ≤ n) = true := by simp; omega
  have d2 : decide (0 ≤ m) = true := by simp; omega
  have d3 : decide (n < 0) = false := by simp; omega
  have d4 : decide (m < 0) = false := by simp; omega
  have d5 : decide (n < m) = false := by simp; omega
  have d6 : decide (zig n < zig m) = false := by simp; unfold zig; rw [if_neg (by omega), if_neg (by omega)]; omega
  clear h1 h2 h3 h4 hn ha hb hc
  have hB := Below.refl w.heap.size w
  go_enter Try.func8, Try.ntmps8
  go_wp2_with fail
  with_reducible refine (zig_any n _ N1.out N2.out).mono ?_
  rintro e w' ⟨rfl, rfl⟩
  go_wp2_with fail
  with_reducible refine (zag_lit _ n _ Zl.out Z.out).mono ?_
  rintro e w' ⟨rfl, rfl⟩
  go_wp2_with fail
  with_reducible refine (zag_any u _ Hn.out).mono ?_
  rintro e w' ⟨rfl, rfl⟩
  go_wp2_with fail
  with_reducible refine (zig_lit _ (u : Int) _ Bu.out.1 Bu.out.2 (by rw [ZU.out])).mono ?_
  rintro e w' ⟨rfl, rfl⟩
  go_wp2_with fail
  with_reducible refine (zig_any n _ N1.out N2.out).mono ?_
  rintro e w' ⟨rfl, rfl⟩
  go_wp2_with fail
  with_reducible refine (zig_any n _ N1.out N2.out).mono ?_
  rintro e w' ⟨rfl, rfl⟩
  go_wp2_with fail
  with_reducible refine (zig_any m _ M1.out M2.out).mono ?_
  rintro e w' ⟨rfl, rfl⟩
  go_wp2_with fail
  with_reducible refine (works_any _).mono ?_
  rintro e w3 ⟨rfl, hb⟩
  replace hB := bon hB hb
  clear hb
  go_wp2
  go_ret
  exact ⟨rfl, hB⟩
set_option maxRecDepth 100000 in
set_option maxHeartbeats 2000000 in
theorem lebZigs_c (n m : Int) (u : Nat) (w : World) (h1 : -9223372036854775808 ≤ n) (h2 : n ≤ 9223372036854775807) (h3 : -9223372036854775808 ≤ m) (h4 : m ≤ 9223372036854775807) (hn : u < 18446744073709551616) (ha : 0 ≤ n) (hb : m < 0) :
    Calls Try.prog 8 #[.int .i64 n, .int .i64 m, .int .u64 (u : Int)] w fun e w' => e = .returned (.bool true) ∧ Below w.heap.size w w' := by
  have Z := Lib.hid (zag_zig n)
  have ZU := Lib.hid (zig_zag u)
  have Bu := Lib.hid (zag_bounds u hn)
  have Zl := Lib.hid (zig_lt n h1 h2)
  have N1 := Lib.hid h1
  have N2 := Lib.hid h2
  have M1 := Lib.hid h3
  have M2 := Lib.hid h4
  have Hn := Lib.hid hn
  have q1 : ((zig n : Nat) : Int) % 2 = 0 := by unfold zig; split <;> omega
  have q2 : IntKind.u64.wrap n / 9223372036854775808 = 0 := by rw [IntKind.wrap_u64]; omega
  have d1 : decide (0 ≤ n) = true := by simp; omega
  have d2 : decide (0 ≤ m) = false := by simp; omega
  have d3 : decide (n < 0) = false := by simp; omega
  have d4 : decide (m < 0) = true := by simp; omega
  clear h1 h2 h3 h4 hn ha hb
  have hB := Below.refl w.heap.size w
  go_enter Try.func8, Try.ntmps8
  go_wp2_with fail
  with_reducible refine (zig_any n _ N1.out N2.out).mono ?_
  rintro e w' ⟨rfl, rfl⟩
  go_wp2_with fail
  with_reducible refine (zag_lit _ n _ Zl.out Z.out).mono ?_
  rintro e w' ⟨rfl, rfl⟩
  go_wp2_with fail
  with_reducible refine (zag_any u _ Hn.out).mono ?_
  rintro e w' ⟨rfl, rfl⟩
  go_wp2_with fail
  with_reducible refine (zig_lit _ (u : Int) _ Bu.out.1 Bu.out.2 (by rw [ZU.out])).mono ?_
  rintro e w' ⟨rfl, rfl⟩
  go_wp2_with fail
  with_reducible refine (zig_any n _ N1.out N2.out).mono ?_
  rintro e w' ⟨rfl, rfl⟩
  go_wp2_with fail
  with_reducible refine (works_any _).mono ?_
  rintro e w3 ⟨rfl, hb⟩
  replace hB := bon hB hb
  clear hb
  go_wp2
  go_ret
  exact ⟨rfl, hB⟩
set_option maxRecDepth 100000 in
set_option maxHeartbeats 2000000 in
theorem lebZigs_d (n m : Int) (u : Nat) (w : World) (h1 : -9223372036854775808 ≤ n) (h2 : n ≤ 9223372036854775807) (h3 : -9223372036854775808 ≤ m) (h4 : m ≤ 9223372036854775807) (hn : u < 18446744073709551616) (ha : n < 0) (hb : 0 ≤ m) :
    Calls Try.prog 8 #[.int .i64 n, .int .i64 m, .int .u64 (u : Int)] w fun e w' => e = .returned (.bool true) ∧ Below w.heap.size w w' := by
  have Z := Lib.hid (zag_zig n)
  have ZU := Lib.hid (zig_zag u)
  have Bu := Lib.hid (zag_bounds u hn)
  have Zl := Lib.hid (zig_lt n h1 h2)
  have N1 := Lib.hid h1
  have N2 := Lib.hid h2
  have M1 := Lib.hid h3
  have M2 := Lib.hid h4
  have Hn := Lib.hid hn
  have q1 : ((zig n : Nat) : Int) % 2 = 1 := by unfold zig; split <;> omega
  have q2 : IntKind.u64.wrap n / 9223372036854775808 = 1 := by rw [IntKind.wrap_u64]; omega
  have d1 : decide (0 ≤ n) = false := by simp; omega
  have d2 : decide (0 ≤ m) = true := by simp; omega
  have d3 : decide (n < 0) = true := by simp; omega
  have d4 : decide (m < 0) = false := by simp; omega
  clear h1 h2 h3 h4 hn ha hb
  have hB := Below.refl w.heap.size w
  go_enter Try.func8, Try.ntmps8
  go_wp2_with fail
  with_reducible refine (zig_any n _ N1.out N2.out).mono ?_
  rintro e w' ⟨rfl, rfl⟩
  go_wp2_with fail
  with_reducible refine (zag_lit _ n _ Zl.out Z.out).mono ?_
  rintro e w' ⟨rfl, rfl⟩
  go_wp2_with fail
  with_reducible refine (zag_any u _ Hn.out).mono ?_
  rintro e w' ⟨rfl, rfl⟩
  go_wp2_with fail
  with_reducible refine (zig_lit _ (u : Int) _ Bu.out.1 Bu.out.2 (by rw [ZU.out])).mono ?_
  rintro e w' ⟨rfl, rfl⟩
  go_wp2_with fail
  with_reducible refine (zig_any n _ N1.out N2.out).mono ?_
  rintro e w' ⟨rfl, rfl⟩
  go_wp2_with fail
  with_reducible refine (works_any _).mono ?_
  rintro e w3 ⟨rfl, hb⟩
  replace hB := bon hB hb
  clear hb
  go_wp2
  go_ret
  exact ⟨rfl, hB⟩
set_option maxRecDepth 100000 in
set_option maxHeartbeats 2000000 in
theorem lebZigs_e (n m : Int) (u : Nat) (w : World) (h1 : -9223372036854775808 ≤ n) (h2 : n ≤ 9223372036854775807) (h3 : -9223372036854775808 ≤ m) (h4 : m ≤ 9223372036854775807) (hn : u < 18446744073709551616) (ha : n < 0) (hb : m < 0) (hc : n < m) :
    Calls Try.prog 8 #[.int .i64 n, .int .i64 m, .int .u64 (u : Int)] w fun e w' => e = .returned (.bool true) ∧ Below w.heap.size w w' := by
  have Z := Lib.hid (zag_zig n)
  have ZU := Lib.hid (zig_zag u)
  have Bu := Lib.hid (zag_bounds u hn)
  have Zl := Lib.hid (zig_lt n h1 h2)
  have N1 := Lib.hid h1
  have N2 := Lib.hid h2
  have M1 := Lib.hid h3
  have M2 := Lib.hid h4
  have Hn := Lib.hid hn
  have q1 : ((zig n : Nat) : Int) % 2 = 1 := by unfold zig; split <;> omega
  have q2 : IntKind.u64.wrap n / 9223372036854775808 = 1 := by rw [IntKind.wrap_u64]; omega
  have d1 : decide (0 ≤ n) = false := by simp; omega
  have d2 : decide (0 ≤ m) = false := by simp; omega
  have d3 : decide (n < 0) = true := by simp; omega
  have d4 : decide (m < 0) = true := by simp; omega
  have d5 : decide (n < m) = true := by simp; omega
  have d6 : decide (zig m < zig n) = true := by simp; unfold zig; rw [if_pos (by omega), if_pos (by omega)]; omega
  clear h1 h2 h3 h4 hn ha hb hc
  have hB := Below.refl w.heap.size w
  go_enter Try.func8, Try.ntmps8
  go_wp2_with fail
  with_reducible refine (zig_any n _ N1.out N2.out).mono ?_
  rintro e w' ⟨rfl, rfl⟩
  go_wp2_with fail
  with_reducible refine (zag_lit _ n _ Zl.out Z.out).mono ?_
  rintro e w' ⟨rfl, rfl⟩
  go_wp2_with fail
  with_reducible refine (zag_any u _ Hn.out).mono ?_
  rintro e w' ⟨rfl, rfl⟩
  go_wp2_with fail
  with_reducible refine (zig_lit _ (u : Int) _ Bu.out.1 Bu.out.2 (by rw [ZU.out])).mono ?_
  rintro e w' ⟨rfl, rfl⟩
  go_wp2_with fail
  with_reducible refine (zig_any n _ N1.out N2.out).mono ?_
  rintro e w' ⟨rfl, rfl⟩
  go_wp2_with fail
  with_reducible refine (zig_any n _ N1.out N2.out).mono ?_
  rintro e w' ⟨rfl, rfl⟩
  go_wp2_with fail
  with_reducible refine (zig_any m _ M1.out M2.out).mono ?_
  rintro e w' ⟨rfl, rfl⟩
  go_wp2_with fail
  with_reducible refine (works_any _).mono ?_
  rintro e w3 ⟨rfl, hb⟩
  replace hB := bon hB hb
  clear hb
  go_wp2
  go_ret
  exact ⟨rfl, hB⟩
set_option maxRecDepth 100000 in
set_option maxHeartbeats 2000000 in
theorem lebZigs_f (n m : Int) (u : Nat) (w : World) (h1 : -9223372036854775808 ≤ n) (h2 : n ≤ 9223372036854775807) (h3 : -9223372036854775808 ≤ m) (h4 : m ≤ 9223372036854775807) (hn : u < 18446744073709551616) (ha : n < 0) (hb : m < 0) (hc : ¬ n < m) :
    Calls Try.prog 8 #[.int .i64 n, .int .i64 m, .int .u64 (u : Int)] w fun e w' => e = .returned (.bool true) ∧ Below w.heap.size w w' := by
  have Z := Lib.hid (zag_zig n)
  have ZU := Lib.hid (zig_zag u)
  have Bu := Lib.hid (zag_bounds u hn)
  have Zl := Lib.hid (zig_lt n h1 h2)
  have N1 := Lib.hid h1
  have N2 := Lib.hid h2
  have M1 := Lib.hid h3
  have M2 := Lib.hid h4
  have Hn := Lib.hid hn
  have q1 : ((zig n : Nat) : Int) % 2 = 1 := by unfold zig; split <;> omega
  have q2 : IntKind.u64.wrap n / 9223372036854775808 = 1 := by rw [IntKind.wrap_u64]; omega
  have d1 : decide (0 ≤ n) = false := by simp; omega
  have d2 : decide (0 ≤ m) = false := by simp; omega
  have d3 : decide (n < 0) = true := by simp; omega
  have d4 : decide (m < 0) = true := by simp; omega
  have d5 : decide (n < m) = false := by simp; omega
  have d6 : decide (zig m < zig n) = false := by simp; unfold zig; rw [if_pos (by omega), if_pos (by omega)]; omega
  clear h1 h2 h3 h4 hn ha hb hc
  have hB := Below.refl w.heap.size w
  go_enter Try.func8, Try.ntmps8
  go_wp2_with fail
  with_reducible refine (zig_any n _ N1.out N2.out).mono ?_
  rintro e w' ⟨rfl, rfl⟩
  go_wp2_with fail
  with_reducible refine (zag_lit _ n _ Zl.out Z.out).mono ?_
  rintro e w' ⟨rfl, rfl⟩
  go_wp2_with fail
  with_reducible refine (zag_any u _ Hn.out).mono ?_
  rintro e w' ⟨rfl, rfl⟩
  go_wp2_with fail
  with_reducible refine (zig_lit _ (u : Int) _ Bu.out.1 Bu.out.2 (by rw [ZU.out])).mono ?_
  rintro e w' ⟨rfl, rfl⟩
  go_wp2_with fail
  with_reducible refine (zig_any n _ N1.out N2.out).mono ?_
  rintro e w' ⟨rfl, rfl⟩
  go_wp2_with fail
  with_reducible refine (zig_any n _ N1.out N2.out).mono ?_
  rintro e w' ⟨rfl, rfl⟩
  go_wp2_with fail
  with_reducible refine (zig_any m _ M1.out M2.out).mono ?_
  rintro e w' ⟨rfl, rfl⟩
  go_wp2_with fail
  with_reducible refine (works_any _).mono ?_
  rintro e w3 ⟨rfl, hb⟩
  replace hB := bon hB hb
  clear hb
  go_wp2
  go_ret
  exact ⟨rfl, hB⟩
end Go.Proofs.Ytgkeoiljafnkeaa
