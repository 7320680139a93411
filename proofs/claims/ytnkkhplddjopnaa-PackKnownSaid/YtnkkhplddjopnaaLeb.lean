/- The walks of the numbers of layer 1: each function's contract. -/
import Derived.Test.YtnkkhplddjopnaaRows
import Derived.Test.YtnkkhplddjopnaaBase
import Derived.Test.YtnkkhplddjopnaaLebPure
import Derived.Test.YtnkkhplddjopnaaLen64
set_option linter.unusedVariables false
set_option linter.unusedSimpArgs false
namespace Go.Proofs.Ytnkkhplddjopnaa
open Go.RowKit


set_option maxRecDepth 100000 in
set_option maxHeartbeats 400000 in
theorem put_any (A : Option Addr) (l c : Nat) (n : Nat) (xs : List UInt8) (w : World) (hr : Reads w w.heap.size 1 A l (u8s xs)) (hl : l ≤ c) (hc : c ≤ maxLen) (hb : l ≤ 1099511627776) (hn : n < 18446744073709551616) :
    Calls Try.prog 68 #[.slice A l c, .int .u64 (n : Int)] w fun e w' => ∃ A' c', e = .returned (.slice A' (l + (leb n).length) c') ∧ l + (leb n).length ≤ c' ∧ c' ≤ maxLen ∧
      w'.ownsRow w.heap.size 5 1 (.slice A' (l + (leb n).length) c') (l + (leb n).length) (u8s (xs ++ leb n)) ∧ Below w.heap.size w w' := by
  obtain ⟨i0, hi0, hz0, hz1, hz2⟩ := info_parts u8_info
  unfold maxLen at hc
  have Hn := Lib.hid hn; clear hn
  go_enter Try.func68, Try.ntmps68
  go_wp2
  go_loopw [1, 5] (fun u v wr => ∃ (m f k : Nat) (cur : List UInt8) (A1 : Option Addr) (c1 : Nat), u = .int .u64 (m : Int) ∧ v = .slice A1 k c1 ∧ k + f = l + 9 ∧ m < 128 ^ (f + 1) ∧ cur ++ lebF f m = xs ++ leb n ∧ App wr w.heap.size 5 1 A1 k c1 (u8s cur) ∧ Below w.heap.size w wr) (fun u _ _ => (intOf u).toNat)
  case atStart => exact ⟨n, 9, l, xs, A, l, rfl, rfl, rfl, by have := Hn.out; omega, rfl, .inr ⟨rfl, hr⟩, Below.refl _ _⟩
  case round =>
    obtain ⟨m, f, k, cur, A1, c1, rfl, rfl, hk, hm, hcur, happ, hbel⟩ := hrel
    have Hcur := Lib.hid hcur; clear hcur
    have Hk := Lib.hid hk; clear hk
    have Hm := Lib.hid hm; clear hm
    have hk1 : k ≤ l + 9 := by have := Hk.out; omega
    have hs1 : k + 1 ≤ maxLen := by simp only [maxLen]; omega
    have hs2 : (k + 1) * 1 ≤ 70368744177664 := by omega
    have hbase := hbel.size
    by_cases hlt : 128 ≤ m
    · go_wp2_with (at_builtin
                   refine wpList_append_app _ rfl (.tmp 14) (.tmp 18) 32 rfl w.heap.size 5 i0 (.int .u8 0) 1 1 Try.underlying32 hi0 hz0 hz1 hz2 rfl (by decide) A1 k c1 (u8s cur) rfl (happ.alloc _) _ 1 1 _ rfl (reads_new _ _ _) (one_int _ _) (by decide) hs1 hs2 (by simp; omega) ?_
                   intro A2 c2 w2 hown2 hb2 hg2 hc2 hm2)
      have hcur' : (cur ++ [UInt8.ofNat (m % 128 + 128)]) ++ lebF (f - 1) (m / 128) = xs ++ leb n ∧ 1 ≤ f := by
        have h1 := Hcur.out
        have h2 := Hm.out
        cases f with
        | zero => simp at h2; omega
        | succ f => rw [← h1]; simp [lebF, Nat.not_lt.2 hlt]
      rw [u8_or128, ← u8s_append] at hown2
      go_roundw
      case rel => 
        refine ⟨m / 128, f - 1, k + 1, _, A2, c2, by go_num, rfl, by have := Hk.out; omega, ?_, hcur'.1, .inl hown2, (hbel.alloc hbase _).trans hb2⟩
        have h2 := Hm.out
        obtain ⟨f, rfl⟩ : ∃ g, f = g + 1 := ⟨f - 1, by omega⟩
        rw [Nat.pow_succ] at h2
        exact Nat.div_lt_of_lt_mul (by rw [Nat.mul_comm]; exact h2)
      case measure => simp [intOf]; omega
    · go_wp2_with (at_builtin
                   refine wpList_append_app _ rfl (.tmp 22) (.tmp 25) 32 rfl w.heap.size 5 i0 (.int .u8 0) 1 1 Try.underlying32 hi0 hz0 hz1 hz2 rfl (by decide) A1 k c1 (u8s cur) rfl (happ.alloc _) _ 1 1 _ rfl (reads_new _ _ _) (one_int _ _) (by decide) hs1 hs2 (by simp; omega) ?_
                   intro A2 c2 w2 hown2 hb2 hg2 hc2 hm2)
      have hcells : u8s cur ++ [Value.int .u8 (m : Int)] = u8s (xs ++ leb n) := by
        rw [← Hcur.out, lebF_small f m (by omega), u8_cell m (by omega), u8s_append]
      have hlen : k + 1 = l + (leb n).length := by
        have h1 := hown2.1
        rw [hcells] at h1
        have h2 := hr.1
        simp at h1 h2
        omega
      rw [hcells] at hown2
      go_ret
      rw [← hlen]
      exact ⟨A2, c2, rfl, hc2, hm2, hown2, (hbel.alloc hbase _).trans hb2⟩

theorem bitLen_two (n : Nat) (h : 1 ≤ n) (hn : n < 18446744073709551616) : n < 2 ^ Lib.bitLen n ∧ 2 ^ (Lib.bitLen n - 1) ≤ n ∧ 1 ≤ Lib.bitLen n ∧ Lib.bitLen n ≤ 64 := by
  have key : ∀ k n : Nat, n < 2 ^ k → k ≤ 64 → 1 ≤ n → n < 2 ^ Lib.bitLen n ∧ 2 ^ (Lib.bitLen n - 1) ≤ n ∧ 1 ≤ Lib.bitLen n := by
    intro k
    induction k with
    | zero => intro n h1 _ h2; simp at h1; omega
    | succ k ih =>
      intro n h1 hk h2
      have h64 : n < 2 ^ 64 := Nat.lt_of_lt_of_le h1 (Nat.pow_le_pow_right (by omega) hk)
      rw [Lib.bitLen_half n (by omega) h64]
      by_cases h3 : n < 2
      · obtain rfl : n = 1 := by omega
        decide
      · obtain ⟨g1, g2, g3⟩ := ih (n / 2) (by rw [Nat.pow_succ] at h1; omega) (by omega) (by omega)
        refine ⟨?_, ?_, by omega⟩
        · rw [Nat.pow_add]; omega
        · obtain ⟨j, hj⟩ : ∃ j, Lib.bitLen (n / 2) = j + 1 := ⟨Lib.bitLen (n / 2) - 1, by omega⟩
          rw [hj] at g2 ⊢
          simp only [Nat.add_sub_cancel] at g2
          rw [show 1 + (j + 1) - 1 = j + 1 from by omega, Nat.pow_succ]
          omega
  obtain ⟨a, b, c⟩ := key 64 n hn (Nat.le_refl _) h
  exact ⟨a, b, c, Lib.bitLen_le n 64 (Nat.le_refl _) hn⟩

set_option maxRecDepth 100000 in
theorem len64_or (n : Nat) (w : World) (hn : n < 18446744073709551616) :
    Calls Try.prog 81 #[.int .u64 (bits .or .u64 (n : Int) 1)] w fun e w' => (∃ b : Nat, e = .returned (.int .i64 (b : Int)) ∧ 1 ≤ b ∧ b ≤ 64 ∧ Hid ((b + 6) / 7 = (leb n).length)) ∧ w = w' := by
  rw [show (1 : Int) = ((1 : Nat) : Int) from rfl, u64_or_nat n 1 hn (by omega)]
  have hor : n ||| 1 < 18446744073709551616 := by
    have := Nat.or_lt_two_pow (n := 64) (x := n) (y := 1) (by omega) (by omega)
    omega
  have h1 : 1 ≤ n ||| 1 := Nat.right_le_or
  obtain ⟨a, b, c, d⟩ := bitLen_two (n ||| 1) h1 hor
  refine (len64_any _ w (by omega) (by omega)).mono ?_
  rintro e w' ⟨rfl, rfl⟩
  rw [Int.toNat_natCast]
  exact ⟨⟨_, rfl, c, d, leb_size n _ hn a b⟩, rfl⟩

theorem cast_div7 (b : Nat) : ((b : Int) + 6) / 7 = (((b + 6) / 7 : Nat) : Int) := by omega

set_option maxRecDepth 100000 in
set_option maxHeartbeats 400000 in
theorem size_any (n : Nat) (w : World) (hn : n < 18446744073709551616) :
    Calls Try.prog 66 #[.int .u64 (n : Int)] w fun e w' => e = .returned (.int .i64 ((leb n).length : Int)) ∧ w = w' := by
  have Hn := Lib.hid hn; clear hn
  go_enter Try.func66, Try.ntmps66
  go_wp2_with (go_at_call 81; refine (len64_or _ _ Hn.out).mono ?_; rintro e w' ⟨⟨b, rfl, hb1, hb2, Hb⟩, rfl⟩)
  go_ret
  refine ⟨?_, rfl⟩
  rw [← Hb.out, ← cast_div7]
  rfl

theorem u64_mod (n : Nat) : (n : Int) % 18446744073709551616 = ((n % 18446744073709551616 : Nat) : Int) := by omega

theorem zig_bits (n : Int) (h1 : -9223372036854775808 ≤ n) (h2 : n ≤ 9223372036854775807) :
    bits .xor .u64 (IntKind.u64.wrap (IntKind.u64.wrap n * 2)) (IntKind.u64.wrap (n / 9223372036854775808)) = (zig n : Int) := by
  rw [IntKind.wrap_u64, IntKind.wrap_u64, IntKind.wrap_u64]
  by_cases h : n < 0
  · have e1 : n / 9223372036854775808 = -1 := by omega
    have e2 : (-1 : Int) % 18446744073709551616 = ((18446744073709551615 : Nat) : Int) := by decide
    have e3 : n % 18446744073709551616 * 2 % 18446744073709551616 = ((2 * n + 18446744073709551616).toNat : Int) := by omega
    rw [e1, e2, e3, u64_xor_nat _ _ (by omega) (by omega)]
    have e4 : (2 * n + 18446744073709551616).toNat ^^^ 18446744073709551615 = 18446744073709551615 - (2 * n + 18446744073709551616).toNat := by
      have hx : (2 * n + 18446744073709551616).toNat < 2 ^ 64 := by omega
      generalize (2 * n + 18446744073709551616).toNat = x at hx ⊢
      have := BitVec.toNat_not (x := BitVec.ofNat 64 x)
      rw [BitVec.not_def] at this
      simp only [BitVec.toNat_xor, BitVec.toNat_ofNat, BitVec.toNat_allOnes] at this
      rw [Nat.mod_eq_of_lt hx] at this
      rw [Nat.xor_comm]
      simpa using this
    rw [e4]
    unfold zig
    rw [if_pos h]
    omega
  · have e1 : n / 9223372036854775808 = 0 := by omega
    have e3 : n % 18446744073709551616 * 2 % 18446744073709551616 = ((2 * n).toNat : Int) := by omega
    rw [e1, e3, show (0 : Int) % 18446744073709551616 = ((0 : Nat) : Int) from rfl, u64_xor_nat _ _ (by omega) (by omega), Nat.xor_zero]
    unfold zig
    rw [if_neg h]

set_option maxRecDepth 100000 in
set_option maxHeartbeats 400000 in
theorem zig_any (n : Int) (w : World) (h1 : -9223372036854775808 ≤ n) (h2 : n ≤ 9223372036854775807) :
    Calls Try.prog 67 #[.int .i64 n] w fun e w' => e = .returned (.int .u64 (zig n : Int)) ∧ w = w' := by
  have Hz := Lib.hid (zig_bits n h1 h2)
  clear h1 h2
  go_enter Try.func67, Try.ntmps67
  go_wp2
  go_ret
  exact ⟨congrArg (fun x => Ending.returned (.int .u64 x)) Hz.out, rfl⟩

theorem zag_bits (n : Nat) (h : n < 18446744073709551616) :
    bits .xor .i64 (wrap64 ((n : Int) / 2)) (wrap64 (-wrap64 (bits .and .u64 (n : Int) 1))) = zag n := by
  have e1 : bits .and .u64 (n : Int) 1 = ((n % 2 : Nat) : Int) := by
    rw [show (1 : Int) = ((1 : Nat) : Int) from rfl, u64_and_nat _ _ h (by omega), nat_mask1]
  have e2 : wrap64 ((n : Int) / 2) = ((n / 2 : Nat) : Int) := by unfold wrap64; omega
  rw [e1, e2]
  have hx : n / 2 < 2 ^ 63 := by omega
  unfold zag
  by_cases h1 : n % 2 = 1
  · rw [if_pos h1, h1]
    have e3 : wrap64 (-wrap64 ((1 : Nat) : Int)) = -1 := by unfold wrap64; omega
    rw [e3]
    show IntKind.i64.wrap ((BitVec.ofInt 64 ((n / 2 : Nat) : Int) ^^^ BitVec.ofInt 64 (-1)).toNat : Int) = _
    generalize n / 2 = x at hx
    have e4 : BitVec.ofInt 64 (-1) = BitVec.allOnes 64 := by decide
    rw [e4, BitVec.ofInt_natCast, BitVec.xor_comm, ← BitVec.not_def, BitVec.toNat_not, BitVec.toNat_ofNat, IntKind.wrap_i64]
    omega
  · have h0 : n % 2 = 0 := by omega
    rw [if_neg h1, h0]
    have e3 : wrap64 (-wrap64 ((0 : Nat) : Int)) = 0 := by unfold wrap64; omega
    rw [e3]
    show IntKind.i64.wrap ((BitVec.ofInt 64 ((n / 2 : Nat) : Int) ^^^ BitVec.ofInt 64 0).toNat : Int) = _
    generalize n / 2 = x at hx
    have e4 : BitVec.ofInt 64 0 = 0#64 := by decide
    rw [e4, BitVec.ofInt_natCast, BitVec.xor_zero, BitVec.toNat_ofNat, IntKind.wrap_i64]
    omega

set_option maxRecDepth 100000 in
set_option maxHeartbeats 400000 in
theorem zag_any (n : Nat) (w : World) (hn : n < 18446744073709551616) :
    Calls Try.prog 84 #[.int .u64 (n : Int)] w fun e w' => e = .returned (.int .i64 (zag n)) ∧ w = w' := by
  have Hz := Lib.hid (zag_bits n hn)
  clear hn
  go_enter Try.func84, Try.ntmps84
  go_wp2
  go_ret
  exact ⟨congrArg (fun x => Ending.returned (.int .i64 x)) Hz.out, rfl⟩

set_option maxRecDepth 100000 in
set_option maxHeartbeats 400000 in
theorem putInt_any (A : Option Addr) (l c : Nat) (n : Int) (xs : List UInt8) (w : World) (hr : Reads w w.heap.size 1 A l (u8s xs)) (hl : l ≤ c) (hc : c ≤ maxLen) (hb : l ≤ 1099511627776) (h1 : -9223372036854775808 ≤ n) (h2 : n ≤ 9223372036854775807) :
    Calls Try.prog 69 #[.slice A l c, .int .i64 n] w fun e w' => ∃ A' c', e = .returned (.slice A' (l + (leb (zig n)).length) c') ∧ l + (leb (zig n)).length ≤ c' ∧ c' ≤ maxLen ∧
      w'.ownsRow w.heap.size 5 1 (.slice A' (l + (leb (zig n)).length) c') (l + (leb (zig n)).length) (u8s (xs ++ leb (zig n))) ∧ Below w.heap.size w w' := by
  have H1 := Lib.hid h1
  have H2 := Lib.hid h2
  clear h1 h2
  go_enter Try.func69, Try.ntmps69
  go_wp2_with (first
    | (go_at_call 67; refine (zig_any _ _ H1.out H2.out).mono ?_; rintro e w' ⟨rfl, rfl⟩)
    | (go_at_call 68; refine (put_any A l c _ xs _ hr hl hc hb (zig_lt n H1.out H2.out)).mono ?_; rintro e w1 ⟨A', c', rfl, hc1, hc2, hown, hbel⟩))
  go_ret
  exact ⟨A', c', rfl, hc1, hc2, hown, hbel⟩
end Go.Proofs.Ytnkkhplddjopnaa
