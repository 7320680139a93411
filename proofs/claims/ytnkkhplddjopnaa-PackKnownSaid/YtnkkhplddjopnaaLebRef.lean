/- The helpers of the references, and the references of layer 1: each one's contract. -/
import Derived.Test.YtnkkhplddjopnaaLebGet
import Derived.Test.YtnkkhplddjopnaaBase
set_option linter.unusedVariables false
set_option linter.unusedSimpArgs false
namespace Go.Proofs.Ytnkkhplddjopnaa
open Go.RowKit

set_option maxRecDepth 100000 in
set_option maxHeartbeats 400000 in
theorem refbytes_any (n : Nat) (w : World) (hn : n < 18446744073709551616) :
    Calls Try.prog 82 #[.int .u64 (n : Int)] w fun e w' => ∃ A' c', e = .returned (.slice A' (leb n).length c') ∧ (leb n).length ≤ c' ∧ c' ≤ maxLen ∧
      w'.ownsRow w.heap.size 5 1 (.slice A' (leb n).length c') (leb n).length (u8s (leb n)) ∧ Below w.heap.size w w' := by
  obtain ⟨i0, hi0, hz0, hz1, hz2⟩ := info_parts u8_info
  have Hn := Lib.hid hn; clear hn
  go_enter Try.func82, Try.ntmps82
  go_wp2
  go_loopw [0, 3] (fun u v wr => ∃ (m f k : Nat) (cur : List UInt8) (A1 : Option Addr) (c1 : Nat), u = .int .u64 (m : Int) ∧ v = .slice A1 k c1 ∧ Hid (k + f = 9) ∧ Hid (m < 128 ^ (f + 1)) ∧ Hid (m < 18446744073709551616) ∧ Hid (cur ++ lebF f m = leb n) ∧ wr.ownsRow w.heap.size 5 1 (.slice A1 k c1) k (u8s cur) ∧ Below w.heap.size w wr) (fun u _ _ => (intOf u).toNat)
  case atStart => exact ⟨n, 9, 0, [], none, 0, rfl, rfl, rfl, by have := Hn.out; show n < 128 ^ (9 + 1); omega, Hn, rfl, World.ownsRow_nil _ _ _ _, Below.refl _ _⟩
  case round =>
    obtain ⟨m, f, k, cur, A1, c1, rfl, rfl, Hk, Hm, Hm64, Hcur, hown, hbel⟩ := hrel
    have hk1 : k ≤ 9 := by have := Hk.out; omega
    have hs1 : k + 1 ≤ maxLen := by simp only [maxLen]; omega
    have hs2 : (k + 1) * 1 ≤ 70368744177664 := by omega
    have hbase := hbel.size
    by_cases hlt : 128 ≤ m
    · have hw1 : ((m : Int) % 128 + 128) = ((m % 128 + 128 : Nat) : Int) := by omega
      have Hw1 := Lib.hid hw1
      clear hw1
      go_wp2_with (at_builtin
                   refine wpList_append_any _ rfl (.tmp 6) (.tmp 11) 32 rfl w.heap.size 5 i0 (.int .u8 0) 1 1 Try.underlying32 hi0 hz0 hz1 hz2 rfl (by decide) A1 k c1 (u8s cur) rfl (hown.alloc _) _ 1 1 _ rfl (reads_new _ _ _) (one_int _ _) hs1 hs2 (by simp; omega) ?_
                   intro A2 c2 w2 hown2 hb2 hg2 hc2 hm2)
      have hv : [Value.int .u8 ((m : Int) % 128 + 128)] = u8s [UInt8.ofNat (m % 128 + 128)] := by rw [Hw1.out, u8_cell _ (by omega)]
      rw [hv, ← u8s_append] at hown2
      have hcur' : (cur ++ [UInt8.ofNat (m % 128 + 128)]) ++ lebF (f - 1) (m / 128) = leb n ∧ 1 ≤ f := by
        have h1 := Hcur.out
        have h2 := Hm.out
        cases f with
        | zero => simp at h2; omega
        | succ f => rw [← h1]; simp [lebF, Nat.not_lt.2 hlt]
      have hdiv : IntKind.u64.wrap ((m : Int) / 128) = ((m / 128 : Nat) : Int) := by
        have := Hm64.out
        rw [IntKind.wrap_u64]; omega
      go_roundw
      case rel =>
        refine ⟨m / 128, f - 1, k + 1, _, A2, c2, by rw [hdiv], rfl, by have := Hk.out; show k + 1 + (f - 1) = 9; omega, ?_, ?_, hcur'.1, hown2, (hbel.alloc hbase _).trans hb2⟩
        · have h2 := Hm.out
          show m / 128 < 128 ^ (f - 1 + 1)
          obtain ⟨f, rfl⟩ : ∃ g, f = g + 1 := ⟨f - 1, by omega⟩
          rw [Nat.pow_succ] at h2
          exact Nat.div_lt_of_lt_mul (by rw [Nat.mul_comm]; exact h2)
        · have := Hm64.out
          show m / 128 < 18446744073709551616
          omega
      case measure => simp [intOf, hdiv]; omega
    · go_wp2_with (at_builtin
                   refine wpList_append_any _ rfl (.tmp 15) (.tmp 18) 32 rfl w.heap.size 5 i0 (.int .u8 0) 1 1 Try.underlying32 hi0 hz0 hz1 hz2 rfl (by decide) A1 k c1 (u8s cur) rfl (hown.alloc _) _ 1 1 _ rfl (reads_new _ _ _) (one_int _ _) hs1 hs2 (by simp; omega) ?_
                   intro A2 c2 w2 hown2 hb2 hg2 hc2 hm2)
      have hcells : u8s cur ++ [Value.int .u8 (m : Int)] = u8s (leb n) := by
        rw [← Hcur.out, lebF_small f m (by omega), u8_cell m (by omega), u8s_append]
      have hlen : k + 1 = (leb n).length := by
        have h1 := hown2.1
        rw [hcells] at h1
        simp at h1
        omega
      rw [hcells] at hown2
      go_ret
      rw [← hlen]
      exact ⟨A2, c2, rfl, hc2, hm2, hown2, (hbel.alloc hbase _).trans hb2⟩

set_option maxRecDepth 100000 in
set_option maxHeartbeats 400000 in
theorem refPut_any (A : Option Addr) (l c : Nat) (n : Nat) (xs : List UInt8) (w : World) (hr : Reads w w.heap.size 1 A l (u8s xs)) (hb : l ≤ 1099511627776) (hn : n < 18446744073709551616) :
    Calls Try.prog 70 #[.slice A l c, .int .u64 (n : Int)] w fun e w' => ∃ A' c', e = .returned (.slice A' (l + (leb n).length) c') ∧ l + (leb n).length ≤ c' ∧ c' ≤ maxLen ∧
      w'.ownsRow w.heap.size 5 1 (.slice A' (l + (leb n).length) c') (l + (leb n).length) (u8s (xs ++ leb n)) ∧ Below w.heap.size w w' := by
  obtain ⟨i0, hi0, hz0, hz1, hz2⟩ := info_parts u8_info
  have Hn := Lib.hid hn; clear hn
  have hlen := leb_le n
  go_enter Try.func70, Try.ntmps70
  go_wp2_with fail
  refine (copyBytes_any A l c xs _ hr (by omega)).mono ?_
  rintro e w1 ⟨A1, c1, rfl, hc1, hd1, hown1, hb1⟩
  go_wp2_with fail
  refine (refbytes_any n _ Hn.out).mono ?_
  rintro e w2 ⟨A2, c2, rfl, hc2, hd2, hown2, hb2⟩
  have hown1' := own_below hown1 hb2
  have hsz := bon hb1 hb2
  have hbase := hsz.size
  have hs1 : l + (leb n).length ≤ maxLen := by simp only [maxLen]; omega
  have hs2 : (l + (leb n).length) * 1 ≤ 70368744177664 := by omega
  go_wp2_with (at_builtin
               refine wpList_append_any _ rfl (.tmp 6) (.tmp 8) 32 rfl w.heap.size 5 i0 (.int .u8 0) 1 1 Try.underlying32 hi0 hz0 hz1 hz2 rfl (by decide) A1 l c1 (u8s xs) rfl hown1' A2 _ c2 (u8s (leb n)) rfl (Reads.of_own hown2) (u8s_one _) hs1 hs2 hbase ?_
               intro A3 c3 w3 hown3 hb3 hg3 hc3 hm3
               rw [← u8s_append] at hown3)
  go_ret
  exact ⟨A3, c3, rfl, hc3, hm3, hown3, hsz.trans hb3⟩

set_option maxRecDepth 100000 in
set_option maxHeartbeats 400000 in
theorem refZig_any (n : Int) (w : World) (h1 : -9223372036854775808 ≤ n) (h2 : n ≤ 9223372036854775807) :
    Calls Try.prog 83 #[.int .i64 n] w fun e w' => e = .returned (.int .u64 (zig n : Int)) ∧ w = w' := by
  have H1 := Lib.hid h1
  have H2 := Lib.hid h2
  clear h1 h2
  by_cases hn : n < 0
  · go_enter Try.func83, Try.ntmps83
    go_wp2
    go_ret
    refine ⟨congrArg (fun x => Ending.returned (.int .u64 x)) ?_, rfl⟩
    have h1 := H1.out
    unfold zig
    rw [if_pos hn]
    simp only [IntKind.wrap_u64, wrap64]
    omega
  · go_enter Try.func83, Try.ntmps83
    go_wp2
    go_ret
    refine ⟨congrArg (fun x => Ending.returned (.int .u64 x)) ?_, rfl⟩
    have h1 := H2.out
    unfold zig
    rw [if_neg (by omega)]
    simp only [IntKind.wrap_u64]
    omega

set_option maxRecDepth 100000 in
set_option maxHeartbeats 400000 in
theorem refZag_any (n : Nat) (w : World) (hn : n < 18446744073709551616) :
    Calls Try.prog 79 #[.int .u64 (n : Int)] w fun e w' => e = .returned (.int .i64 (zag n)) ∧ w = w' := by
  have H1 := Lib.hid hn
  clear hn
  by_cases hn : n % 2 = 1
  · have hb : (((n : Int) % 2) == 1) = true := by simp; omega
    have Hn := Lib.hid hn
    clear hn
    go_enter Try.func79, Try.ntmps79
    go_wp2
    go_ret
    refine ⟨congrArg (fun x => Ending.returned (.int .i64 x)) ?_, rfl⟩
    have h1 := H1.out
    unfold zag
    rw [if_pos Hn.out]
    simp only [wrap64, IntKind.wrap_u64]
    omega
  · have hb : (((n : Int) % 2) == 1) = false := by simp; omega
    have Hn := Lib.hid hn
    clear hn
    go_enter Try.func79, Try.ntmps79
    go_wp2
    go_ret
    refine ⟨congrArg (fun x => Ending.returned (.int .i64 x)) ?_, rfl⟩
    have h1 := H1.out
    unfold zag
    rw [if_neg Hn.out]
    simp only [wrap64, IntKind.wrap_u64]
    omega

set_option maxRecDepth 100000 in
set_option maxHeartbeats 400000 in
theorem refPutInt_any (A : Option Addr) (l c : Nat) (n : Int) (xs : List UInt8) (w : World) (hr : Reads w w.heap.size 1 A l (u8s xs)) (hb : l ≤ 1099511627776) (h1 : -9223372036854775808 ≤ n) (h2 : n ≤ 9223372036854775807) :
    Calls Try.prog 71 #[.slice A l c, .int .i64 n] w fun e w' => ∃ A' c', e = .returned (.slice A' (l + (leb (zig n)).length) c') ∧ l + (leb (zig n)).length ≤ c' ∧ c' ≤ maxLen ∧
      w'.ownsRow w.heap.size 5 1 (.slice A' (l + (leb (zig n)).length) c') (l + (leb (zig n)).length) (u8s (xs ++ leb (zig n))) ∧ Below w.heap.size w w' := by
  have H1 := Lib.hid h1
  have H2 := Lib.hid h2
  clear h1 h2
  go_enter Try.func71, Try.ntmps71
  go_wp2_with fail
  refine (refZig_any _ _ H1.out H2.out).mono ?_
  rintro e w' ⟨rfl, rfl⟩
  go_wp2_with fail
  refine (refPut_any A l c _ xs _ hr hb (zig_lt n H1.out H2.out)).mono ?_
  rintro e w1 ⟨A', c', rfl, hc1, hc2, hown, hbel⟩
  go_wp2
  go_ret
  exact ⟨A', c', rfl, hc1, hc2, hown, hbel⟩

/-- What GetInt hands back. -/
def gottenInt (r : Nat × Nat × Nat) : Ending := .returned (.tuple #[.int .i64 (zag r.1), .int .i64 (r.2.1 : Int), .int .i64 (r.2.2 : Int)])
theorem get_lt (xs : List UInt8) : (get xs).1 < 18446744073709551616 := by
  rcases get_only xs with ⟨n, h, hn, _⟩ | ⟨e, h, _⟩
  · rw [h]; exact hn
  · rw [h]; show (0 : Nat) < 18446744073709551616; omega

theorem gotten_ok (n k : Nat) : gotten (n, k, 0) = .returned (.tuple #[.int .u64 (n : Int), .int .i64 (k : Int), .int .i64 0]) := rfl
theorem gottenInt_err (er : Nat) : gottenInt (0, 0, er) = .returned (.tuple #[.int .i64 0, .int .i64 0, .int .i64 (er : Int)]) := by simp [gottenInt, zag]

set_option maxRecDepth 100000 in
set_option maxHeartbeats 400000 in
theorem getInt_any (A : Option Addr) (l c : Nat) (xs : List UInt8) (w : World) (hr : Reads w w.heap.size 1 A l (u8s xs)) (hl : l ≤ c) (hc : c ≤ maxLen) :
    Calls Try.prog 77 #[.slice A l c] w fun e w' => e = gottenInt (get xs) ∧ w = w' := by
  have Hlt := Lib.hid (get_lt xs)
  go_enter Try.func77, Try.ntmps77
  go_wp2_with fail
  refine (get_any A l c xs _ hr hl hc).mono ?_
  rintro e w' ⟨rfl, rfl⟩
  simp only [gotten]
  go_wp2_with fail
  refine (zag_any _ _ Hlt.out).mono ?_
  rintro e w' ⟨rfl, rfl⟩
  go_wp2
  go_ret3
  exact ⟨rfl, rfl⟩

/-- What the law's cut keeps. -/
def cut60 (xs : List UInt8) : List UInt8 := xs.take 60
theorem cut60_le (xs : List UInt8) : (cut60 xs).length ≤ 60 := List.length_take_le _ _
end Go.Proofs.Ytnkkhplddjopnaa
