/- The law LebWrites, walked. -/
import Derived.Test.YtgkeoiljafnkeaaLebLaw
set_option linter.unusedVariables false
set_option linter.unusedSimpArgs false
namespace Go.Proofs.Ytgkeoiljafnkeaa
open Go.RowKit
set_option maxRecDepth 100000 in
set_option maxHeartbeats 2000000 in
theorem lebWrites_any (A : Option Addr) (l c n : Nat) (i : Int) (xs : List UInt8) (w : World) (hr : Reads w w.heap.size 1 A l (u8s xs)) (hl : l ≤ c) (hc : c ≤ maxLen) (hn : n < 18446744073709551616) (h1 : -9223372036854775808 ≤ i) (h2 : i ≤ 9223372036854775807) :
    Calls Try.prog 3 #[.slice A l c, .int .u64 (n : Int), .int .i64 i] w fun e w' => e = .returned (.bool true) ∧ Below w.heap.size w w' := by
  have Hn := Lib.hid hn
  have H1 := Lib.hid h1
  have H2 := Lib.hid h2
  clear hn h1 h2
  obtain ⟨i0, hi0, hz0, hz1, hz2⟩ := info_parts u8_info
  have hlen := cut60_le xs
  have hle := leb_le n
  have hle2 := leb_le (zig i)
  have hB := Below.refl w.heap.size w
  go_enter Try.func3, Try.ntmps3
  go_wp2_with fail
  with_reducible refine (cut_any A l c xs _ hr hl hc).mono ?_
  rintro e w1 ⟨A1, c1, rfl, hc1, hd1, o1, hb⟩
  replace hr := hr.on hb
  replace hB := bon hB hb
  have r1 := own_reads o1
  clear hb
  generalize hys : cut60 xs = ys at hc1 o1 r1 hlen ⊢
  have Hys := Lib.hid hys
  clear hys o1
  obtain ⟨m, hm⟩ : ∃ m, ys.length = m := ⟨_, rfl⟩
  rw [hm] at r1 hc1 hlen
  have Hm := Lib.hid hm
  rw [hm]
  clear hm
  go_wp2_with fail
  refine (cut_any A l c xs _ hr hl hc).mono ?_
  rintro e w2 ⟨A2, c2, rfl, hc2, hd2, o2, hb⟩
  rw [Hys.out, Hm.out] at hc2 o2 ⊢
  have hbase : w1.heap.size ≤ (w2.alloc (.cells (u8s [7, 7, 7, 7, 7, 7, 7, 7, 7, 7, 7, 7]).toArray 5)).heap.size := by
    have := hb.size
    simp only [World.size_alloc]
    omega
  have hs1 : m + 12 ≤ maxLen := by simp only [maxLen]; omega
  go_wp2_with (at_builtin
               refine wpList_append_any _ rfl (.tmp 15) (.tmp 16) 22 rfl w1.heap.size 5 i0 (.int .u8 0) 1 1 Try.underlying22 hi0 hz0 hz1 hz2 rfl (by decide) A2 m c2 (u8s ys) rfl (o2.alloc _) _ 12 12 (u8s [7, 7, 7, 7, 7, 7, 7, 7, 7, 7, 7, 7]) rfl (by exact reads_lit _ _ _ _ _ _ (by simp) rfl rfl) (u8s_one _) hs1 (by omega) hbase ?_
               intro A3 c3 w3 o3 hb3 hg3 hc3 hm3
               rw [← u8s_append] at o3)
  have hb13 := (bal hb (.cells #[.int .u8 7, .int .u8 7, .int .u8 7, .int .u8 7, .int .u8 7, .int .u8 7, .int .u8 7, .int .u8 7, .int .u8 7, .int .u8 7, .int .u8 7, .int .u8 7] 5)).trans hb3
  clear hb hb3 hg3 hc2 hd2 o2 hbase hs1
  replace hr := hr.on hb13
  replace r1 := r1.on hb13
  replace hB := bon hB hb13
  have r3 := own_reads o3
  clear o3 hb13
  have r3a := r3.head (k := m) (by omega)
  rw [Nat.mul_one, u8s_take, List.take_append_of_le_length (by rw [Hm.out]; exact Nat.le_refl _), List.take_of_length_le (by rw [Hm.out]; exact Nat.le_refl _)] at r3a
  have r3b := r3.cut (k := m) (cap := c3) (by omega) hc3
  rw [Nat.mul_one, u8s_drop, List.drop_append_of_le_length (by rw [Hm.out]; exact Nat.le_refl _), List.drop_of_length_le (by rw [Hm.out]; exact Nat.le_refl _), List.nil_append, Nat.add_sub_cancel_left, if_neg (by omega)] at r3b
  clear r3
  go_wp2_with fail
  with_reducible refine (put_any A1 _ c1 _ ys _ r1 hc1 hd1 (by omega) Hn.out).mono ?_
  rintro e w4 ⟨A4, c4, rfl, hc4, hd4, o4, hb⟩
  replace hr := hr.on hb
  replace r1 := r1.on hb
  replace r3a := r3a.on hb
  replace r3b := r3b.on hb
  replace hB := bon hB hb
  have r4 := own_reads o4
  clear hb
  go_wp2_with fail
  with_reducible refine (putInt_any A1 _ c1 _ ys _ r1 hc1 hd1 (by omega) H1.out H2.out).mono ?_
  rintro e w5 ⟨A5, c5, rfl, hc5, hd5, o5, hb⟩
  replace hr := hr.on hb
  replace r1 := r1.on hb
  replace r3a := r3a.on hb
  replace r3b := r3b.on hb
  replace r4 := r4.on hb
  replace hB := bon hB hb
  have r5 := own_reads o5
  clear hb
  go_wp2_with fail
  with_reducible refine (put_any A3 m c3 _ ys _ r3a (by omega) hm3 (by omega) Hn.out).mono ?_
  rintro e w6 ⟨A6, c6, rfl, hc6, hd6, o6, hb⟩
  replace hr := hr.on hb
  replace r1 := r1.on hb
  replace r3a := r3a.on hb
  replace r3b := r3b.on hb
  replace r4 := r4.on hb
  replace r5 := r5.on hb
  replace hB := bon hB hb
  have r6 := own_reads o6
  clear hb
  go_wp2_with fail
  with_reducible refine (refPut_any A1 _ c1 _ ys _ r1 (by omega) Hn.out).mono ?_
  rintro e w7 ⟨A7, c7, rfl, hc7, hd7, o7, hb⟩
  replace hr := hr.on hb
  replace r1 := r1.on hb
  replace r3a := r3a.on hb
  replace r3b := r3b.on hb
  replace r4 := r4.on hb
  replace r5 := r5.on hb
  replace r6 := r6.on hb
  replace hB := bon hB hb
  have r7 := own_reads o7
  clear hb
  go_wp2_with fail
  with_reducible refine (eq_yes _ _ _ _ _ _ _ _ _ r4 r7 rfl).mono ?_
  rintro e w' ⟨rfl, rfl⟩
  go_wp2_with fail
  with_reducible refine (refPutInt_any A1 _ c1 _ ys _ r1 (by omega) H1.out H2.out).mono ?_
  rintro e w8 ⟨A8, c8, rfl, hc8, hd8, o8, hb⟩
  replace hr := hr.on hb
  replace r1 := r1.on hb
  replace r3a := r3a.on hb
  replace r3b := r3b.on hb
  replace r4 := r4.on hb
  replace r5 := r5.on hb
  replace r6 := r6.on hb
  replace r7 := r7.on hb
  replace hB := bon hB hb
  have r8 := own_reads o8
  clear hb
  go_wp2_with fail
  with_reducible refine (eq_yes _ _ _ _ _ _ _ _ _ r5 r8 rfl).mono ?_
  rintro e w' ⟨rfl, rfl⟩
  go_wp2_with fail
  with_reducible refine (eq_yes _ _ _ _ _ _ _ _ _ r6 r4 rfl).mono ?_
  rintro e w' ⟨rfl, rfl⟩
  go_wp2_with fail
  with_reducible refine (cut_any A l c xs _ hr hl hc).mono ?_
  rintro e w9 ⟨A9, c9, rfl, hc9, hd9, o9, hb⟩
  replace hr := hr.on hb
  replace r1 := r1.on hb
  replace r3a := r3a.on hb
  replace r3b := r3b.on hb
  replace r4 := r4.on hb
  replace r5 := r5.on hb
  replace r6 := r6.on hb
  replace r7 := r7.on hb
  replace r8 := r8.on hb
  replace hB := bon hB hb
  have r9 := own_reads o9
  clear hb
  rw [Hys.out, Hm.out] at r9 ⊢
  go_wp2_with fail
  with_reducible refine (eq_yes _ _ _ _ _ _ _ _ _ r1 r9 rfl).mono ?_
  rintro e w' ⟨rfl, rfl⟩
  go_wp2_with fail
  replace hr := hr.al (.cells #[.int .u8 7, .int .u8 7, .int .u8 7, .int .u8 7, .int .u8 7, .int .u8 7, .int .u8 7, .int .u8 7, .int .u8 7, .int .u8 7, .int .u8 7, .int .u8 7] 5)
  replace r1 := r1.al (.cells #[.int .u8 7, .int .u8 7, .int .u8 7, .int .u8 7, .int .u8 7, .int .u8 7, .int .u8 7, .int .u8 7, .int .u8 7, .int .u8 7, .int .u8 7, .int .u8 7] 5)
  replace r3a := r3a.al (.cells #[.int .u8 7, .int .u8 7, .int .u8 7, .int .u8 7, .int .u8 7, .int .u8 7, .int .u8 7, .int .u8 7, .int .u8 7, .int .u8 7, .int .u8 7, .int .u8 7] 5)
  replace r3b := r3b.al (.cells #[.int .u8 7, .int .u8 7, .int .u8 7, .int .u8 7, .int .u8 7, .int .u8 7, .int .u8 7, .int .u8 7, .int .u8 7, .int .u8 7, .int .u8 7, .int .u8 7] 5)
  replace r4 := r4.al (.cells #[.int .u8 7, .int .u8 7, .int .u8 7, .int .u8 7, .int .u8 7, .int .u8 7, .int .u8 7, .int .u8 7, .int .u8 7, .int .u8 7, .int .u8 7, .int .u8 7] 5)
  replace r5 := r5.al (.cells #[.int .u8 7, .int .u8 7, .int .u8 7, .int .u8 7, .int .u8 7, .int .u8 7, .int .u8 7, .int .u8 7, .int .u8 7, .int .u8 7, .int .u8 7, .int .u8 7] 5)
  replace r6 := r6.al (.cells #[.int .u8 7, .int .u8 7, .int .u8 7, .int .u8 7, .int .u8 7, .int .u8 7, .int .u8 7, .int .u8 7, .int .u8 7, .int .u8 7, .int .u8 7, .int .u8 7] 5)
  replace r7 := r7.al (.cells #[.int .u8 7, .int .u8 7, .int .u8 7, .int .u8 7, .int .u8 7, .int .u8 7, .int .u8 7, .int .u8 7, .int .u8 7, .int .u8 7, .int .u8 7, .int .u8 7] 5)
  replace r8 := r8.al (.cells #[.int .u8 7, .int .u8 7, .int .u8 7, .int .u8 7, .int .u8 7, .int .u8 7, .int .u8 7, .int .u8 7, .int .u8 7, .int .u8 7, .int .u8 7, .int .u8 7] 5)
  replace r9 := r9.al (.cells #[.int .u8 7, .int .u8 7, .int .u8 7, .int .u8 7, .int .u8 7, .int .u8 7, .int .u8 7, .int .u8 7, .int .u8 7, .int .u8 7, .int .u8 7, .int .u8 7] 5)
  replace hB := bal hB (.cells #[.int .u8 7, .int .u8 7, .int .u8 7, .int .u8 7, .int .u8 7, .int .u8 7, .int .u8 7, .int .u8 7, .int .u8 7, .int .u8 7, .int .u8 7, .int .u8 7] 5)
  have r10 : Reads (w9.alloc (.cells #[.int .u8 7, .int .u8 7, .int .u8 7, .int .u8 7, .int .u8 7, .int .u8 7, .int .u8 7, .int .u8 7, .int .u8 7, .int .u8 7, .int .u8 7, .int .u8 7] 5)) (w9.alloc (.cells #[.int .u8 7, .int .u8 7, .int .u8 7, .int .u8 7, .int .u8 7, .int .u8 7, .int .u8 7, .int .u8 7, .int .u8 7, .int .u8 7, .int .u8 7, .int .u8 7] 5)).heap.size 1 (some ⟨w9.heap.size, 0, none⟩) 12 (u8s [7, 7, 7, 7, 7, 7, 7, 7, 7, 7, 7, 7]) := reads_lit _ _ _ _ _ _ rfl rfl rfl
  with_reducible refine (eq_yes _ _ _ _ _ _ _ _ _ r3b r10 rfl).mono ?_
  rintro e w' ⟨rfl, rfl⟩
  go_wp2_with fail
  with_reducible refine (size_any _ _ Hn.out).mono ?_
  rintro e w' ⟨rfl, rfl⟩
  go_wp2_with fail
  with_reducible refine (refSize_any _ _ Hn.out).mono ?_
  rintro e w11 ⟨rfl, hb⟩
  replace hr := hr.on hb
  replace r1 := r1.on hb
  replace r3a := r3a.on hb
  replace r3b := r3b.on hb
  replace r4 := r4.on hb
  replace r5 := r5.on hb
  replace r6 := r6.on hb
  replace r7 := r7.on hb
  replace r8 := r8.on hb
  replace r9 := r9.on hb
  replace r10 := r10.on hb
  replace hB := bon hB hb
  clear hb
  go_wp2_with fail
  with_reducible refine (zig_any _ _ H1.out H2.out).mono ?_
  rintro e w' ⟨rfl, rfl⟩
  go_wp2_with fail
  with_reducible refine (refZig_any _ _ H1.out H2.out).mono ?_
  rintro e w' ⟨rfl, rfl⟩
  go_wp2_with fail
  with_reducible refine (zag_any _ _ Hn.out).mono ?_
  rintro e w' ⟨rfl, rfl⟩
  go_wp2_with fail
  with_reducible refine (refZag_any _ _ Hn.out).mono ?_
  rintro e w' ⟨rfl, rfl⟩
  go_wp2_with fail
  with_reducible refine (works_any _).mono ?_
  rintro e w12 ⟨rfl, hb⟩
  replace hr := hr.on hb
  replace r1 := r1.on hb
  replace r3a := r3a.on hb
  replace r3b := r3b.on hb
  replace r4 := r4.on hb
  replace r5 := r5.on hb
  replace r6 := r6.on hb
  replace r7 := r7.on hb
  replace r8 := r8.on hb
  replace r9 := r9.on hb
  replace r10 := r10.on hb
  replace hB := bon hB hb
  clear hb
  go_wp2
  go_ret
  exact ⟨rfl, hB⟩
end Go.Proofs.Ytgkeoiljafnkeaa
