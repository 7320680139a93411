/- The law LebBack, walked. -/
import Derived.Test.YtgkeoiljafnkeaaLebLaw
set_option linter.unusedVariables false
set_option linter.unusedSimpArgs false
namespace Go.Proofs.Ytgkeoiljafnkeaa
open Go.RowKit
theorem gotInt (i : Int) (r : List UInt8) (h1 : -9223372036854775808 ≤ i) (h2 : i ≤ 9223372036854775807) :
    gottenInt (get (leb (zig i) ++ r)) = .returned (.tuple #[.int .i64 i, .int .i64 ((leb (zig i)).length : Int), .int .i64 0]) := by
  rw [get_leb _ (zig_lt i h1 h2), gottenInt]
  simp only [zag_zig]
  rfl
set_option maxRecDepth 100000 in
set_option maxHeartbeats 2000000 in
theorem lebBack_any (A : Option Addr) (l c n : Nat) (i : Int) (xs : List UInt8) (w : World) (hr : Reads w w.heap.size 1 A l (u8s xs)) (hl : l ≤ c) (hc : c ≤ maxLen) (hn : n < 18446744073709551616) (h1 : -9223372036854775808 ≤ i) (h2 : i ≤ 9223372036854775807) :
    Calls Try.prog 5 #[.int .u64 (n : Int), .int .i64 i, .slice A l c] w fun e w' => e = .returned (.bool true) ∧ Below w.heap.size w w' := by
  have hr0 := hr
  have Hn := Lib.hid hn
  have H1 := Lib.hid h1
  have H2 := Lib.hid h2
  have Hz := Lib.hid (zig_lt i h1 h2)
  clear hn h1 h2
  obtain ⟨i0, hi0, hz0, hz1, hz2⟩ := info_parts u8_info
  have hlen := cut60_le xs
  have hle := leb_le n
  have hle2 := leb_le (zig i)
  have hB := Below.refl w.heap.size w
  go_enter Try.func5, Try.ntmps5
  go_wp2_with fail
  with_reducible refine (put_nil n _ Hn.out).mono ?_
  rintro e w1 ⟨A1, c1, rfl, hc1, hd1, o1, hb⟩
  have hB1 := hB
  replace hB := bon hB hb
  replace hr := hr.on hb
  clear hb
  go_wp2_with fail
  with_reducible refine (cut_any A l c xs _ hr hl hc).mono ?_
  rintro e w2 ⟨A2, c2, rfl, hc2, hd2, o2, hb⟩
  replace o1 := own_mono (own_below o1 hb) hB1.size
  replace hr := hr.on hb
  replace hB := bon hB hb
  have hbase : w.heap.size ≤ w2.heap.size := hB.size
  have hs1 : (leb n).length + (cut60 xs).length ≤ maxLen := by simp only [maxLen]; omega
  have hs2 : ((leb n).length + (cut60 xs).length) * 1 ≤ 70368744177664 := by omega
  clear hb hB1
  go_wp2_with (at_builtin
               refine wpList_append_any _ rfl (.tmp 15) (.tmp 17) 22 rfl w.heap.size 5 i0 (.int .u8 0) 1 1 Try.underlying22 hi0 hz0 hz1 hz2 rfl (by decide) A1 _ c1 (u8s (leb n)) rfl o1 A2 _ c2 (u8s (cut60 xs)) rfl (own_reads o2) (u8s_one _) hs1 hs2 hbase ?_
               intro A3 c3 w3 o3 hb hg3 hc3 hm3
               rw [← u8s_append] at o3)
  replace hr := hr0.on (hB.trans hb)
  replace hB := hB.trans hb
  clear hb hbase hs1 hs2
  go_wp2_with fail
  with_reducible refine (get_any A3 _ c3 _ _ (own_reads o3) hc3 hm3).mono ?_
  rintro e w' ⟨rfl, rfl⟩
  rw [get_leb n Hn.out, gotten_ok]
  go_wp2_with fail
  with_reducible refine (putInt_nil i _ H1.out H2.out).mono ?_
  rintro e w4 ⟨A4, c4, rfl, hc4, hd4, o4, hb⟩
  have hB4 := hB
  replace hB := bon hB hb
  replace hr := hr.on hb
  clear hb
  go_wp2_with fail
  with_reducible refine (cut_any A l c xs _ hr hl hc).mono ?_
  rintro e w5 ⟨A5, c5, rfl, hc5, hd5, o5, hb⟩
  replace o4 := own_mono (own_below o4 hb) hB4.size
  replace hr := hr.on hb
  replace hB := bon hB hb
  have hbase : w.heap.size ≤ w5.heap.size := hB.size
  have hs1 : (leb (zig i)).length + (cut60 xs).length ≤ maxLen := by simp only [maxLen]; omega
  have hs2 : ((leb (zig i)).length + (cut60 xs).length) * 1 ≤ 70368744177664 := by omega
  clear hb hB4
  go_wp2_with (at_builtin
               refine wpList_append_any _ rfl (.tmp 25) (.tmp 27) 22 rfl w.heap.size 5 i0 (.int .u8 0) 1 1 Try.underlying22 hi0 hz0 hz1 hz2 rfl (by decide) A4 _ c4 (u8s (leb (zig i))) rfl o4 A5 _ c5 (u8s (cut60 xs)) rfl (own_reads o5) (u8s_one _) hs1 hs2 hbase ?_
               intro A6 c6 w6 o6 hb hg6 hc6 hm6
               rw [← u8s_append] at o6)
  replace hr := hr0.on (hB.trans hb)
  replace hB := hB.trans hb
  clear hb hbase hs1 hs2
  go_wp2_with fail
  with_reducible refine (getInt_any A6 _ c6 _ _ (own_reads o6) hc6 hm6).mono ?_
  rintro e w' ⟨rfl, rfl⟩
  rw [gotInt i _ H1.out H2.out]
  go_wp2_with fail
  with_reducible refine (size_any _ _ Hn.out).mono ?_
  rintro e w' ⟨rfl, rfl⟩
  go_wp2_with fail
  with_reducible refine (zig_any _ _ H1.out H2.out).mono ?_
  rintro e w' ⟨rfl, rfl⟩
  go_wp2_with fail
  with_reducible refine (size_any _ _ Hz.out).mono ?_
  rintro e w' ⟨rfl, rfl⟩
  go_wp2_with fail
  with_reducible refine (works_any _).mono ?_
  rintro e w7 ⟨rfl, hb⟩
  replace hr := hr.on hb
  replace hB := bon hB hb
  clear hb
  go_wp2
  go_ret
  exact ⟨rfl, hB⟩
end Go.Proofs.Ytgkeoiljafnkeaa
