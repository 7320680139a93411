/- The helpers of the laws of layer 14, walked. -/
import Derived.Test.YtbcfdlhhmifneaaMask4
set_option linter.unusedVariables false
set_option linter.unusedSimpArgs false
namespace Go.Proofs.Ytbcfdlhhmifneaa
open Go.RowKit

set_option maxRecDepth 100000 in
set_option maxHeartbeats 400000 in
theorem mreads_yes (A B : Option Addr) (l c m d : Nat) (xs : List UInt8) (n : Int) (ys : List Bool) (k er : Nat) (w : World) (hr : Reads w w.heap.size 1 A l (u8s xs)) (hl : l ≤ c) (hc : c ≤ maxLen) (h1 : -9223372036854775808 ≤ n) (h2 : n ≤ 9223372036854775807)
    (hr2 : Reads w w.heap.size 1 B m (bls ys)) (hm : m ≤ d) (hd : d ≤ maxLen) (h : unpackL xs n = (ys, k, er)) :
    Calls Try.prog 25 #[.slice A l c, .int .i64 n, .slice B m d, .int .i64 (k : Int), .int .i64 (er : Int)] w fun e w' => e = .returned (.bool true) ∧ Below w.heap.size w w' := by
  have H := Lib.hid h
  have H1 := Lib.hid h1
  have H2 := Lib.hid h2
  clear h h1 h2
  go_enter Try.func25, Try.ntmps25
  go_wp2_with fail
  with_reducible refine (munpack_any A l c xs n _ hr hl hc H1.out H2.out).mono ?_
  rw [H.out]
  rintro e w1 ⟨A1, c1, rfl, hc1, hd1, r1, hb1⟩
  replace hr2 := hr2.on hb1
  go_wp2_with fail
  with_reducible refine (same_yes _ _ _ _ _ _ ys ys _ r1 hr2 hc1 hd1 hm hd rfl).mono ?_
  rintro e w2 ⟨rfl, hb2⟩
  go_wp2
  go_ret
  exact ⟨rfl, bon hb1 hb2⟩
theorem mcount_lit (A : Option Addr) (l c : Nat) (xs : List Bool) (k : Int) (w : World) (hr : Reads w w.heap.size 1 A l (bls xs)) (hl : l ≤ c) (hc : c ≤ maxLen) (h : ((countL xs : Nat) : Int) = k) :
    Calls Try.prog 15 #[.slice A l c] w fun e w' => e = .returned (.int .i64 k) ∧ w = w' := by
  subst h; exact mcount_any A l c xs w hr hl hc
theorem msize_lit (n k : Int) (w : World) (h1 : -9223372036854775808 ≤ n) (h2 : n ≤ 9223372036854775807) (h : ((sizeL n : Nat) : Int) = k) :
    Calls Try.prog 17 #[.int .i64 n] w fun e w' => e = .returned (.int .i64 k) ∧ w = w' := by
  subst h; exact msize_any n w h1 h2
set_option maxRecDepth 100000 in
set_option maxHeartbeats 2000000 in
theorem mworks_any (w : World) :
    Calls Try.prog 19 #[] w fun e w' => e = .returned (.bool true) ∧ Below w.heap.size w w' := by
  have hB := Below.refl w.heap.size w
  go_enter Try.func19, Try.ntmps19
  go_wp2_with fail
  replace hB := bal hB (.cells #[.bool true, .bool false, .bool false, .bool true] 4)
  have r4 : Reads (w.alloc (.cells #[.bool true, .bool false, .bool false, .bool true] 4)) (w.alloc (.cells #[.bool true, .bool false, .bool false, .bool true] 4)).heap.size 1 (some ⟨w.heap.size, 0, none⟩) 4 (bls [true, false, false, true]) := reads_lit _ _ _ _ _ _ (by simp) rfl rfl
  replace r4 := r4.al (.cells #[.bool true, .bool true, .bool true, .bool true, .bool true, .bool true, .bool true, .bool true, .bool false] 4)
  replace hB := bal hB (.cells #[.bool true, .bool true, .bool true, .bool true, .bool true, .bool true, .bool true, .bool true, .bool false] 4)
  have r9 : Reads ((w.alloc (.cells #[.bool true, .bool false, .bool false, .bool true] 4)).alloc (.cells #[.bool true, .bool true, .bool true, .bool true, .bool true, .bool true, .bool true, .bool true, .bool false] 4)) ((w.alloc (.cells #[.bool true, .bool false, .bool false, .bool true] 4)).alloc (.cells #[.bool true, .bool true, .bool true, .bool true, .bool true, .bool true, .bool true, .bool true, .bool false] 4)).heap.size 1 (some ⟨w.heap.size + 1, 0, none⟩) 9 (bls [true, true, true, true, true, true, true, true, false]) := reads_lit _ _ _ _ _ _ (by simp) rfl rfl
  refine (mpack_any _ _ _ [true, false, false, true] _ (by exact r4) (by decide) (by simp [maxLen]) (by decide)).mono ?_
  rintro e w1 ⟨A1, c1, rfl, hc1, hd1, o1, hb⟩
  replace r4 := r4.on hb
  replace r9 := r9.on hb
  replace hB := bon hB hb
  have r1 := own_reads o1
  clear hb
  go_wp2_with fail
  replace r4 := r4.al (.cells #[.int .u8 9] 5)
  replace r9 := r9.al (.cells #[.int .u8 9] 5)
  replace r1 := r1.al (.cells #[.int .u8 9] 5)
  replace hB := bal hB (.cells #[.int .u8 9] 5)
  have q1 : Reads (w1.alloc (.cells #[.int .u8 9] 5)) (w1.alloc (.cells #[.int .u8 9] 5)).heap.size 1 (some ⟨w1.heap.size, 0, none⟩) 1 (u8s [9]) := reads_lit _ _ _ _ _ _ (by simp) rfl rfl
  refine (eq_yes _ _ _ _ _ _ _ [9] _ (by exact r1) (by exact q1) (by decide)).mono ?_
  rintro e w' ⟨rfl, rfl⟩
  go_wp2_with fail
  refine (mpack_any _ _ _ [true, true, true, true, true, true, true, true, false] _ (by exact r9) (by decide) (by simp [maxLen]) (by decide)).mono ?_
  rintro e w2 ⟨A2, c2, rfl, hc2, hd2, o2, hb⟩
  replace r4 := r4.on hb
  replace r9 := r9.on hb
  replace r1 := r1.on hb
  replace q1 := q1.on hb
  replace hB := bon hB hb
  have r2 := own_reads o2
  clear hb
  go_wp2_with fail
  replace r4 := r4.al (.cells #[.int .u8 255, .int .u8 0] 5)
  replace r9 := r9.al (.cells #[.int .u8 255, .int .u8 0] 5)
  replace r1 := r1.al (.cells #[.int .u8 255, .int .u8 0] 5)
  replace q1 := q1.al (.cells #[.int .u8 255, .int .u8 0] 5)
  replace r2 := r2.al (.cells #[.int .u8 255, .int .u8 0] 5)
  replace hB := bal hB (.cells #[.int .u8 255, .int .u8 0] 5)
  have q2 : Reads (w2.alloc (.cells #[.int .u8 255, .int .u8 0] 5)) (w2.alloc (.cells #[.int .u8 255, .int .u8 0] 5)).heap.size 1 (some ⟨w2.heap.size, 0, none⟩) 2 (u8s [255, 0]) := reads_lit _ _ _ _ _ _ (by simp) rfl rfl
  refine (eq_yes _ _ _ _ _ _ _ [255, 0] _ (by exact r2) (by exact q2) (by decide)).mono ?_
  rintro e w' ⟨rfl, rfl⟩
  go_wp2_with fail
  refine (mpack_any none 0 0 [] _ Reads.none_ (by decide) (by simp [maxLen]) (by decide)).mono ?_
  rintro e w3 ⟨A3, c3, rfl, hc3, hd3, o3, hb⟩
  replace r4 := r4.on hb
  replace r9 := r9.on hb
  replace r1 := r1.on hb
  replace q1 := q1.on hb
  replace r2 := r2.on hb
  replace q2 := q2.on hb
  replace hB := bon hB hb
  clear hb
  have hz : (packL []).length = 0 := rfl
  go_wp2_with fail
  refine (mcount_lit _ _ _ [true, true, true, true, true, true, true, true, false] 8 _ (by exact r9) (by decide) (by simp [maxLen]) (by decide)).mono ?_
  rintro e w' ⟨rfl, rfl⟩
  go_wp2_with fail
  replace r4 := r4.al (.cells #[.int .u8 9, .int .u8 255] 5)
  replace r9 := r9.al (.cells #[.int .u8 9, .int .u8 255] 5)
  replace r1 := r1.al (.cells #[.int .u8 9, .int .u8 255] 5)
  replace q1 := q1.al (.cells #[.int .u8 9, .int .u8 255] 5)
  replace r2 := r2.al (.cells #[.int .u8 9, .int .u8 255] 5)
  replace q2 := q2.al (.cells #[.int .u8 9, .int .u8 255] 5)
  replace hB := bal hB (.cells #[.int .u8 9, .int .u8 255] 5)
  have q3 : Reads (w3.alloc (.cells #[.int .u8 9, .int .u8 255] 5)) (w3.alloc (.cells #[.int .u8 9, .int .u8 255] 5)).heap.size 1 (some ⟨w3.heap.size, 0, none⟩) 2 (u8s [9, 255]) := reads_lit _ _ _ _ _ _ (by simp) rfl rfl
  refine (mreads_yes _ _ _ _ _ _ [9, 255] 4 [true, false, false, true] 1 0 _ (by exact q3) (by decide) (by simp [maxLen]) (by decide) (by decide) (by exact r4) (by decide) (by simp [maxLen]) (by decide)).mono ?_
  rintro e w4 ⟨rfl, hb⟩
  replace r4 := r4.on hb
  replace r9 := r9.on hb
  replace r1 := r1.on hb
  replace q1 := q1.on hb
  replace r2 := r2.on hb
  replace q2 := q2.on hb
  replace q3 := q3.on hb
  replace hB := bon hB hb
  clear hb
  go_wp2_with fail
  replace r4 := r4.al (.cells #[.int .u8 9] 5)
  replace r9 := r9.al (.cells #[.int .u8 9] 5)
  replace r1 := r1.al (.cells #[.int .u8 9] 5)
  replace q1 := q1.al (.cells #[.int .u8 9] 5)
  replace r2 := r2.al (.cells #[.int .u8 9] 5)
  replace q2 := q2.al (.cells #[.int .u8 9] 5)
  replace q3 := q3.al (.cells #[.int .u8 9] 5)
  replace hB := bal hB (.cells #[.int .u8 9] 5)
  have p4 : Reads (w4.alloc (.cells #[.int .u8 9] 5)) (w4.alloc (.cells #[.int .u8 9] 5)).heap.size 1 (some ⟨w4.heap.size, 0, none⟩) 1 (u8s [9]) := reads_lit _ _ _ _ _ _ (by simp) rfl rfl
  refine (mreads_yes _ _ _ _ _ _ [9] (3) [] 0 140 _ (by exact p4) (by decide) (by simp [maxLen]) (by decide) (by decide) Reads.none_ (by decide) (by simp [maxLen]) (by decide)).mono ?_
  rintro e w5 ⟨rfl, hb⟩
  replace r4 := r4.on hb
  replace r9 := r9.on hb
  replace r1 := r1.on hb
  replace q1 := q1.on hb
  replace r2 := r2.on hb
  replace q2 := q2.on hb
  replace q3 := q3.on hb
  replace p4 := p4.on hb
  replace hB := bon hB hb
  clear hb
  go_wp2_with fail
  replace r4 := r4.al (.cells #[.int .u8 9] 5)
  replace r9 := r9.al (.cells #[.int .u8 9] 5)
  replace r1 := r1.al (.cells #[.int .u8 9] 5)
  replace q1 := q1.al (.cells #[.int .u8 9] 5)
  replace r2 := r2.al (.cells #[.int .u8 9] 5)
  replace q2 := q2.al (.cells #[.int .u8 9] 5)
  replace q3 := q3.al (.cells #[.int .u8 9] 5)
  replace p4 := p4.al (.cells #[.int .u8 9] 5)
  replace hB := bal hB (.cells #[.int .u8 9] 5)
  have p5 : Reads (w5.alloc (.cells #[.int .u8 9] 5)) (w5.alloc (.cells #[.int .u8 9] 5)).heap.size 1 (some ⟨w5.heap.size, 0, none⟩) 1 (u8s [9]) := reads_lit _ _ _ _ _ _ (by simp) rfl rfl
  refine (mreads_yes _ _ _ _ _ _ [9] (9) [] 0 3 _ (by exact p5) (by decide) (by simp [maxLen]) (by decide) (by decide) Reads.none_ (by decide) (by simp [maxLen]) (by decide)).mono ?_
  rintro e w6 ⟨rfl, hb⟩
  replace r4 := r4.on hb
  replace r9 := r9.on hb
  replace r1 := r1.on hb
  replace q1 := q1.on hb
  replace r2 := r2.on hb
  replace q2 := q2.on hb
  replace q3 := q3.on hb
  replace p4 := p4.on hb
  replace p5 := p5.on hb
  replace hB := bon hB hb
  clear hb
  go_wp2_with fail
  replace r4 := r4.al (.cells #[.int .u8 9] 5)
  replace r9 := r9.al (.cells #[.int .u8 9] 5)
  replace r1 := r1.al (.cells #[.int .u8 9] 5)
  replace q1 := q1.al (.cells #[.int .u8 9] 5)
  replace r2 := r2.al (.cells #[.int .u8 9] 5)
  replace q2 := q2.al (.cells #[.int .u8 9] 5)
  replace q3 := q3.al (.cells #[.int .u8 9] 5)
  replace p4 := p4.al (.cells #[.int .u8 9] 5)
  replace p5 := p5.al (.cells #[.int .u8 9] 5)
  replace hB := bal hB (.cells #[.int .u8 9] 5)
  have p6 : Reads (w6.alloc (.cells #[.int .u8 9] 5)) (w6.alloc (.cells #[.int .u8 9] 5)).heap.size 1 (some ⟨w6.heap.size, 0, none⟩) 1 (u8s [9]) := reads_lit _ _ _ _ _ _ (by simp) rfl rfl
  refine (mreads_yes _ _ _ _ _ _ [9] (-1) [] 0 6 _ (by exact p6) (by decide) (by simp [maxLen]) (by decide) (by decide) Reads.none_ (by decide) (by simp [maxLen]) (by decide)).mono ?_
  rintro e w7 ⟨rfl, hb⟩
  replace r4 := r4.on hb
  replace r9 := r9.on hb
  replace r1 := r1.on hb
  replace q1 := q1.on hb
  replace r2 := r2.on hb
  replace q2 := q2.on hb
  replace q3 := q3.on hb
  replace p4 := p4.on hb
  replace p5 := p5.on hb
  replace p6 := p6.on hb
  replace hB := bon hB hb
  clear hb
  go_wp2_with fail
  refine (mreads_yes _ _ _ _ _ _ [] (0) [] 0 0 _ Reads.none_ (by decide) (by simp [maxLen]) (by decide) (by decide) Reads.none_ (by decide) (by simp [maxLen]) (by decide)).mono ?_
  rintro e w8 ⟨rfl, hb⟩
  replace r4 := r4.on hb
  replace r9 := r9.on hb
  replace r1 := r1.on hb
  replace q1 := q1.on hb
  replace r2 := r2.on hb
  replace q2 := q2.on hb
  replace q3 := q3.on hb
  replace p4 := p4.on hb
  replace p5 := p5.on hb
  replace p6 := p6.on hb
  replace hB := bon hB hb
  clear hb
  go_wp2_with fail
  refine (msize_lit 0 0 _ (by decide) (by decide) (by decide)).mono ?_
  rintro e w' ⟨rfl, rfl⟩
  go_wp2_with fail
  refine (msize_lit 8 1 _ (by decide) (by decide) (by decide)).mono ?_
  rintro e w' ⟨rfl, rfl⟩
  go_wp2_with fail
  refine (msize_lit 9 2 _ (by decide) (by decide) (by decide)).mono ?_
  rintro e w' ⟨rfl, rfl⟩
  go_wp2_with fail
  refine (msize_lit 1048577 0 _ (by decide) (by decide) (by decide)).mono ?_
  rintro e w' ⟨rfl, rfl⟩
  go_wp2
  go_ret
  exact ⟨rfl, hB⟩
end Go.Proofs.Ytbcfdlhhmifneaa
