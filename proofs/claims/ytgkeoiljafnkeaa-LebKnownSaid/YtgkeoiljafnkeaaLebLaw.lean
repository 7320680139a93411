/- The laws of layer 1: their helper works, walked. -/
import Derived.Test.YtgkeoiljafnkeaaLebRef
import Derived.Deep.RegionWith
set_option linter.unusedVariables false
set_option linter.unusedSimpArgs false
namespace Go.Proofs.Ytgkeoiljafnkeaa
open Go.RowKit

set_option maxRecDepth 100000 in
set_option maxHeartbeats 400000 in
theorem reads_yes (n k er : Nat) (A : Option Addr) (l c : Nat) (xs : List UInt8) (w : World) (hr : Reads w w.heap.size 1 A l (u8s xs)) (hl : l ≤ c) (hc : c ≤ maxLen) (h : get xs = (n, k, er)) :
    Calls Try.prog 32 #[.int .u64 (n : Int), .int .i64 (k : Int), .int .i64 (er : Int), .slice A l c] w fun e w' => e = .returned (.bool true) ∧ w = w' := by
  have H := Lib.hid h
  clear h
  go_enter Try.func32, Try.ntmps32
  go_wp2_with fail
  refine (get_any A l c xs _ hr hl hc).mono ?_
  rintro e w' ⟨rfl, rfl⟩
  rw [H.out]
  simp only [gotten]
  go_wp2
  go_ret
  exact ⟨rfl, rfl⟩


theorem put_nil (n : Nat) (w : World) (hn : n < 18446744073709551616) :
    Calls Try.prog 12 #[.slice none 0 0, .int .u64 (n : Int)] w fun e w' => ∃ A' c', e = .returned (.slice A' (leb n).length c') ∧ (leb n).length ≤ c' ∧ c' ≤ maxLen ∧
      w'.ownsRow w.heap.size 5 1 (.slice A' (leb n).length c') (leb n).length (u8s (leb n)) ∧ Below w.heap.size w w' := by
  have h := put_any none 0 0 n [] w Reads.none_ (by decide) (by decide) (by decide) hn
  simp only [Nat.zero_add, List.nil_append] at h
  exact h
theorem putInt_nil (n : Int) (w : World) (h1 : -9223372036854775808 ≤ n) (h2 : n ≤ 9223372036854775807) :
    Calls Try.prog 13 #[.slice none 0 0, .int .i64 n] w fun e w' => ∃ A' c', e = .returned (.slice A' (leb (zig n)).length c') ∧ (leb (zig n)).length ≤ c' ∧ c' ≤ maxLen ∧
      w'.ownsRow w.heap.size 5 1 (.slice A' (leb (zig n)).length c') (leb (zig n)).length (u8s (leb (zig n))) ∧ Below w.heap.size w w' := by
  have h := putInt_any none 0 0 n [] w Reads.none_ (by decide) (by decide) (by decide) h1 h2
  simp only [Nat.zero_add, List.nil_append] at h
  exact h
theorem size_lit (n : Nat) (k : Int) (w : World) (hn : n < 18446744073709551616) (h : ((leb n).length : Int) = k) :
    Calls Try.prog 17 #[.int .u64 (n : Int)] w fun e w' => e = .returned (.int .i64 k) ∧ w = w' := by
  subst h; exact size_any n w hn
theorem zig_lit (n k : Int) (w : World) (h1 : -9223372036854775808 ≤ n) (h2 : n ≤ 9223372036854775807) (h : (zig n : Int) = k) :
    Calls Try.prog 19 #[.int .i64 n] w fun e w' => e = .returned (.int .u64 k) ∧ w = w' := by
  subst h; exact zig_any n w h1 h2
theorem zag_lit (n : Nat) (k : Int) (w : World) (hn : n < 18446744073709551616) (h : zag n = k) :
    Calls Try.prog 21 #[.int .u64 (n : Int)] w fun e w' => e = .returned (.int .i64 k) ∧ w = w' := by
  subst h; exact zag_any n w hn
theorem getInt_lit (n : Int) (k : Nat) (A : Option Addr) (l c : Nat) (xs : List UInt8) (w : World) (hr : Reads w w.heap.size 1 A l (u8s xs)) (hl : l ≤ c) (hc : c ≤ maxLen) (m : Nat) (h : get xs = (m, k, 0)) (hz : zag m = n) :
    Calls Try.prog 26 #[.slice A l c] w fun e w' => e = .returned (.tuple #[.int .i64 n, .int .i64 (k : Int), .int .i64 0]) ∧ w = w' := by
  subst hz
  have := getInt_any A l c xs w hr hl hc
  rw [h] at this
  exact this
set_option maxRecDepth 100000 in
set_option maxHeartbeats 1000000 in
theorem works_any (w : World) :
    Calls Try.prog 23 #[] w fun e w' => e = .returned (.bool true) ∧ Below w.heap.size w w' := by
  have hb0 := Below.refl w.heap.size w
  go_enter Try.func23, Try.ntmps23
  go_wp2_with fail
  refine (put_any _ _ _ 300 [255] _ (by exact reads_lit _ _ _ _ _ _ (by simp) rfl rfl) (by decide) (by decide) (by decide) (by decide)).mono ?_
  rintro e w1 ⟨A1, c1, rfl, hc1, hd1, hown1, hb1⟩
  have hB1 := bon (bal hb0 _) hb1
  clear hb1 hc1 hd1
  go_wp2_with fail
  refine (eq_yes _ _ _ _ _ _ _ [255, 172, 2] _ (by exact (own_reads hown1).al _) (by exact reads_lit _ _ _ _ _ _ (by simp) rfl rfl) (by decide +kernel)).mono ?_
  rintro e w' ⟨rfl, rfl⟩
  go_wp2_with fail
  refine (size_lit 300 2 _ (by decide) (by decide +kernel)).mono ?_
  rintro e w' ⟨rfl, rfl⟩
  go_wp2_with fail
  refine (size_lit 0 1 _ (by decide) (by decide +kernel)).mono ?_
  rintro e w' ⟨rfl, rfl⟩
  go_wp2_with fail
  refine (size_lit 18446744073709551615 10 _ (by decide) (by decide +kernel)).mono ?_
  rintro e w' ⟨rfl, rfl⟩
  go_wp2_with fail
  refine (zig_lit (-1) 1 _ (by decide) (by decide) (by decide +kernel)).mono ?_
  rintro e w' ⟨rfl, rfl⟩
  go_wp2_with fail
  refine (zig_lit 1 2 _ (by decide) (by decide) (by decide +kernel)).mono ?_
  rintro e w' ⟨rfl, rfl⟩
  go_wp2_with fail
  refine (zig_lit (-9223372036854775808) 18446744073709551615 _ (by decide) (by decide) (by decide +kernel)).mono ?_
  rintro e w' ⟨rfl, rfl⟩
  go_wp2_with fail
  refine (zag_lit 3 (-2) _ (by decide) (by decide +kernel)).mono ?_
  rintro e w' ⟨rfl, rfl⟩
  go_wp2_with fail
  refine (reads_yes 300 2 0 _ _ _ [172, 2, 7] _ (by exact reads_lit _ _ _ _ _ _ (by simp) rfl rfl) (by decide) (by decide) (by decide +kernel)).mono ?_
  rintro e w' ⟨rfl, rfl⟩
  go_wp2_with fail
  refine (reads_yes 0 1 0 _ _ _ [0] _ (by exact reads_lit _ _ _ _ _ _ (by simp) rfl rfl) (by decide) (by decide) (by decide +kernel)).mono ?_
  rintro e w' ⟨rfl, rfl⟩
  go_wp2_with fail
  refine (reads_yes 0 0 3 _ _ _ [] _ Reads.none_ (by decide) (by decide) (by decide +kernel)).mono ?_
  rintro e w' ⟨rfl, rfl⟩
  go_wp2_with fail
  refine (reads_yes 0 0 3 _ _ _ [128] _ (by exact reads_lit _ _ _ _ _ _ (by simp) rfl rfl) (by decide) (by decide) (by decide +kernel)).mono ?_
  rintro e w' ⟨rfl, rfl⟩
  go_wp2_with fail
  refine (reads_yes 0 0 10 _ _ _ [128, 0] _ (by exact reads_lit _ _ _ _ _ _ (by simp) rfl rfl) (by decide) (by decide) (by decide +kernel)).mono ?_
  rintro e w' ⟨rfl, rfl⟩
  go_wp2_with fail
  refine (reads_yes 18446744073709551615 10 0 _ _ _ [255, 255, 255, 255, 255, 255, 255, 255, 255, 1] _ (by exact reads_lit _ _ _ _ _ _ (by simp) rfl rfl) (by decide) (by decide) (by decide +kernel)).mono ?_
  rintro e w' ⟨rfl, rfl⟩
  go_wp2_with fail
  refine (reads_yes 0 0 6 _ _ _ [255, 255, 255, 255, 255, 255, 255, 255, 255, 2] _ (by exact reads_lit _ _ _ _ _ _ (by simp) rfl rfl) (by decide) (by decide) (by decide +kernel)).mono ?_
  rintro e w' ⟨rfl, rfl⟩
  go_wp2_with fail
  refine (getInt_lit (-3) 1 _ _ _ [5] _ (by exact reads_lit _ _ _ _ _ _ (by simp) rfl rfl) (by decide) (by decide) 5 (by decide +kernel) (by decide +kernel)).mono ?_
  rintro e w' ⟨rfl, rfl⟩
  go_wp2_with fail
  refine (putInt_any none 0 0 (-3) [] _ Reads.none_ (by decide) (by decide) (by decide) (by decide) (by decide)).mono ?_
  rintro e w2 ⟨A2, c2, rfl, hc2, hd2, hown2, hb2⟩
  go_wp2_with fail
  refine (eq_yes _ _ _ _ _ _ _ [5] _ (by exact (own_reads hown2).al _) (by exact reads_lit _ _ _ _ _ _ (by simp) rfl rfl) (by decide +kernel)).mono ?_
  rintro e w' ⟨rfl, rfl⟩
  go_wp2
  go_ret
  exact ⟨rfl, by repeat (first | exact hB1 | refine bon ?_ hb2 | refine bal ?_ _)⟩
end Go.Proofs.Ytgkeoiljafnkeaa
