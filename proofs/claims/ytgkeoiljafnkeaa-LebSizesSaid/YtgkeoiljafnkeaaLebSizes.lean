/- The law LebSizes, walked. -/
import Derived.Test.YtgkeoiljafnkeaaLebLaw
set_option linter.unusedVariables false
set_option linter.unusedSimpArgs false
namespace Go.Proofs.Ytgkeoiljafnkeaa
open Go.RowKit

set_option maxRecDepth 100000 in
set_option maxHeartbeats 400000 in
theorem bring_any (i n : Int) (w : World) (h1 : -9223372036854775808 ≤ i) (h2 : i ≤ 9223372036854775807) (hn : 0 < n) (hn2 : n ≤ 9223372036854775807) :
    Calls Try.prog 28 #[.int .i64 i, .int .i64 n] w fun e w' => e = .returned (.int .i64 (i % n)) ∧ w = w' := by
  have hb := Int.emod_nonneg i (by omega : n ≠ 0)
  have hlt := Int.emod_lt_of_pos i hn
  have ht : i.tmod n = i % n ∨ (i.tmod n < 0 ∧ i.tmod n + n = i % n) := by
    rw [Int.tmod_eq_emod]
    split
    · left; omega
    · rename_i h
      rw [Int.natAbs_of_nonneg (by omega)]
      right; omega
  have hz : ¬ n = 0 := by omega
  have hm1 : -9223372036854775808 ≤ i.tmod n ∧ i.tmod n ≤ 9223372036854775807 := by rcases ht with h | ⟨h, h'⟩ <;> omega
  rcases ht with h | ⟨h, h'⟩
  · have h0 : 0 ≤ i.tmod n := by omega
    have H := Lib.hid h
    clear h
    go_enter Try.func28, Try.ntmps28
    go_wp2
    go_ret
    exact ⟨congrArg (fun x => Ending.returned (.int .i64 x)) H.out, rfl⟩
  · have H := Lib.hid h'
    clear h'
    go_enter Try.func28, Try.ntmps28
    go_wp2
    go_ret
    refine ⟨congrArg (fun x => Ending.returned (.int .i64 x)) ?_, rfl⟩
    have := H.out
    first | omega | (simp only [wrap64]; omega)
set_option maxRecDepth 100000 in
set_option maxHeartbeats 1000000 in
theorem lebSizes_any (n : Nat) (s : Int) (w : World) (hn : n < 18446744073709551616) (h1 : -9223372036854775808 ≤ s) (h2 : s ≤ 9223372036854775807) :
    Calls Try.prog 9 #[.int .u64 (n : Int), .int .i64 s] w fun e w' => e = .returned (.bool true) ∧ Below w.heap.size w w' := by
  have Hn := Lib.hid hn
  have H1 := Lib.hid h1
  have H2 := Lib.hid h2
  clear hn h1 h2
  obtain ⟨k, hk, hk64⟩ : ∃ k : Nat, s % 64 = (k : Int) ∧ k < 64 := ⟨(s % 64).toNat, by omega, by omega⟩
  have Hk := Lib.hid hk
  clear hk
  have hB := Below.refl w.heap.size w
  go_enter Try.func9, Try.ntmps9
  go_wp2_with fail
  with_reducible refine (bring_any s 64 _ H1.out H2.out (by decide) (by decide)).mono ?_
  rintro e w' ⟨rfl, rfl⟩
  rw [Hk.out]
  obtain ⟨p, hp⟩ : ∃ p : Nat, p = 2 ^ k := ⟨_, rfl⟩
  obtain ⟨hs1, hs2⟩ := leb_pow k hk64
  rw [← hp] at hs1 hs2
  have hp1 : 1 ≤ p := by rw [hp]; exact Nat.pow_pos (by omega)
  have hp2 : p ≤ 9223372036854775808 := by
    have : 2 ^ k ≤ 2 ^ 63 := Nat.pow_le_pow_right (by omega) (by omega)
    omega
  have e1 : IntKind.u64.wrap ((2 : Int) ^ k) = (p : Int) := by
    have : (2 : Int) ^ k = ((2 ^ k : Nat) : Int) := by rw [Int.natCast_pow]; rfl
    rw [this, ← hp, IntKind.wrap_u64]; omega
  have E1 := Lib.hid e1
  have S1 := Lib.hid (show ((leb p).length : Int) = (k : Int) / 7 + 1 by omega)
  have S2 := Lib.hid (show ((leb (p - 1)).length : Int) = max 1 (((k : Int) + 6) / 7) by omega)
  clear hp hs1 hs2 e1
  have e2 : (p : Int) - 1 = ((p - 1 : Nat) : Int) := by omega
  have E2 := Lib.hid e2
  clear e2
  go_wp2_with fail
  rw [E1.out]
  have hpl : p < 18446744073709551616 := by omega
  have hpl2 : p - 1 < 18446744073709551616 := by omega
  have P1 := Lib.hid hpl
  have P2 := Lib.hid hpl2
  have Hp2 := Lib.hid hp2
  clear hpl hpl2 hp2
  refine (size_lit p _ _ P1.out S1.out).mono ?_
  rintro e w' ⟨rfl, rfl⟩
  go_wp2_with fail
  have e3 : IntKind.u64.wrap ((p : Int) - 1) = ((p - 1 : Nat) : Int) := by
    have := Hp2.out
    rw [IntKind.wrap_u64]; omega
  rw [e3]
  clear e3
  refine (size_lit (p - 1) _ _ P2.out S2.out).mono ?_
  rintro e w' ⟨rfl, rfl⟩
  go_wp2_with fail
  with_reducible refine (put_nil n _ Hn.out).mono ?_
  rintro e w1 ⟨A1, c1, rfl, hc1, he1, o1, hb⟩
  replace hB := bon hB hb
  have r1 := own_reads o1
  clear hb
  have hle := leb_le n
  unfold maxLen at he1
  go_wp2
  go_loop [8] (fun i => ∃ j : Nat, j ≤ (leb n).length ∧ i = .int .i64 (j : Int)) (fun i => (leb n).length - (intOf i).toNat)
  case atStart => exact ⟨0, Nat.zero_le _, rfl⟩
  case round =>
    obtain ⟨j, hj, rfl⟩ := hrel
    by_cases hlt : j < (leb n).length
    · obtain ⟨ad, v, rfl, -, hx, hcell⟩ := r1.at_ hlt
      obtain ⟨b, hb, rfl⟩ := u8s_get _ j v hx
      obtain ⟨m1, m2⟩ := leb_marks n Hn.out j b hb
      clear hx hb
      have hb256 : b.toNat < 256 := b.toNat_lt
      by_cases h1 : j + 1 < (leb n).length
      · have hb128 := m1 h1
        clear m1 m2
        have d1 : decide ((128 : Int) ≤ (b.toNat : Int)) = true := by simp; omega
        have d2 : decide ((j : Int) < ((leb n).length : Int) - 1) = true := by simp; omega
        have d3 : ((j : Int) == ((leb n).length : Int) - 1) = false := by simp; omega
        have d4 : decide ((1 : Int) < ((leb n).length : Int)) = true := by simp; omega
        go_wp2
        go_round
        case rel => exact ⟨j + 1, by omega, by go_num⟩
        case measure => simp [intOf]; omega
      · have hj1 : j + 1 = (leb n).length := by omega
        obtain ⟨hb1, hb2⟩ := m2 hj1
        clear m1 m2
        have d1 : decide ((128 : Int) ≤ (b.toNat : Int)) = false := by simp; omega
        have d2 : decide ((j : Int) < ((leb n).length : Int) - 1) = false := by simp; omega
        have d3 : ((j : Int) == ((leb n).length : Int) - 1) = true := by simp; omega
        by_cases h2 : 1 < (leb n).length
        · have hb0 := hb2 h2
          have d4 : decide ((1 : Int) < ((leb n).length : Int)) = true := by simp; omega
          have d5 : ((b.toNat : Int) == 0) = false := by simp; omega
          clear hb2 hb0 hj1
          go_wp2
          go_round
          case rel => exact ⟨j + 1, by omega, by go_num⟩
          case measure => simp [intOf]; omega
        · have d4 : decide ((1 : Int) < ((leb n).length : Int)) = false := by simp; omega
          clear hb2 hj1
          go_wp2
          go_round
          case rel => exact ⟨j + 1, by omega, by go_num⟩
          case measure => simp [intOf]; omega
    · go_wp2_with fail
      with_reducible refine (size_any _ _ Hn.out).mono ?_
      rintro e w' ⟨rfl, rfl⟩
      go_wp2_with fail
      with_reducible refine (works_any _).mono ?_
      rintro e w2 ⟨rfl, hb⟩
      go_wp2
      go_ret
      exact ⟨rfl, bon hB hb⟩
end Go.Proofs.Ytgkeoiljafnkeaa
