/- Layer 3, walked: the pieces that are put, of both writers. -/
import Derived.Test.YtnkkhplddjopnaaPackW2
set_option linter.unusedVariables false
set_option linter.unusedSimpArgs false
namespace Go.Proofs.Ytnkkhplddjopnaa
open Go.RowKit
def wordB (n : Nat) : List UInt8 := [UInt8.ofNat (n % 256), UInt8.ofNat (n / 256 % 256), UInt8.ofNat (n / 65536 % 256), UInt8.ofNat (n / 16777216)]
def textB (s : ByteArray) : List UInt8 := leb s.size ++ s.data.toList
theorem u8s_four (a b c d : Nat) (h1 : a < 256) (h2 : b < 256) (h3 : c < 256) (h4 : d < 256) : [Value.int .u8 (a : Int), .int .u8 (b : Int), .int .u8 (c : Int), .int .u8 (d : Int)] = u8s [UInt8.ofNat a, UInt8.ofNat b, UInt8.ofNat c, UInt8.ofNat d] := by
  simp [u8s, Nat.mod_eq_of_lt h1, Nat.mod_eq_of_lt h2, Nat.mod_eq_of_lt h3, Nat.mod_eq_of_lt h4]
theorem u64_wrap3 (n : Nat) (h : n < 18446744073709551616) : IntKind.u64.wrap (n : Int) = (n : Int) := by
  simp only [IntKind.wrap, IntKind.signed, IntKind.bits]
  simp
  omega
theorem bts_size (s : ByteArray) : s.data.toList.length = s.size := by rw [Array.length_toList]; rfl
set_option maxRecDepth 100000 in
set_option maxHeartbeats 1000000 in
theorem wbyte_any (base g : Nat) (r : Option Nat) (B : List UInt8) (most : Int) (full : Bool) (n : Nat) (w : World) (hp : PWr w base g r B most full) (hm0 : 0 ≤ most) (hm1 : most ≤ 9223372036854775807) (hn : n < 256) (hb : B.length ≤ 1000000000) :
    Calls Try.prog 37 #[.pointer (some ⟨g, 0, none⟩), .int .u8 (n : Int)] w (Wr base g r B most full [UInt8.ofNat n] w) := by
  go_enter Try.func37, Try.ntmps37
  go_wp2_with fail
  have hr : Reads (w.alloc (.cells #[.int .u8 (n : Int)] 5)) (w.alloc (.cells #[.int .u8 (n : Int)] 5)).heap.size 1 (some ⟨w.heap.size, 0, none⟩) 1 (u8s [UInt8.ofNat n]) := by
    rw [← u8_cell n hn]
    exact reads_new _ _ _
  have hba : Below w.heap.size w (w.alloc (.cells #[.int .u8 (n : Int)] 5)) := (Below.refl _ _).alloc (Nat.le_refl _) _
  refine (wraw_any base g r B most full _ 1 1 [UInt8.ofNat n] _ (hp.on hba) hm0 hm1 hr (by omega)).mono ?_
  rintro e w2 hw
  obtain ⟨rfl, -⟩ := id hw
  go_wp2
  go_end0
  exact hw.from_ hba
set_option maxRecDepth 100000 in
set_option maxHeartbeats 1000000 in
theorem wvar_any (base g : Nat) (r : Option Nat) (B : List UInt8) (most : Int) (full : Bool) (n : Nat) (w : World) (hp : PWr w base g r B most full) (hm0 : 0 ≤ most) (hm1 : most ≤ 9223372036854775807) (hn : n < 18446744073709551616) (hb : B.length ≤ 1000000000) :
    Calls Try.prog 38 #[.pointer (some ⟨g, 0, none⟩), .int .u64 (n : Int)] w (Wr base g r B most full (leb n) w) := by
  go_enter Try.func38, Try.ntmps38
  have hl := leb_le n
  have hp' := Lib.hid hp
  go_wp2_with fail
  with_reducible refine (put_any none 0 0 n [] _ Reads.none_ (by decide) (by decide) (by decide) hn).mono ?_
  simp only [Nat.zero_add, List.nil_append]
  rintro e w1 ⟨A1, c1, rfl, g1, g2, o1, hb1⟩
  go_wp2_with fail
  refine (wraw_any base g r B most full A1 _ c1 (leb n) _ (hp'.out.on hb1) hm0 hm1 (own_reads o1) (by omega)).mono ?_
  rintro e w2 hw
  obtain ⟨rfl, -⟩ := id hw
  go_wp2
  go_end0
  exact hw.from_ hb1
set_option maxRecDepth 100000 in
set_option maxHeartbeats 1000000 in
theorem wint_any (base g : Nat) (r : Option Nat) (B : List UInt8) (most : Int) (full : Bool) (n : Int) (w : World) (hp : PWr w base g r B most full) (hm0 : 0 ≤ most) (hm1 : most ≤ 9223372036854775807) (h1 : -9223372036854775808 ≤ n) (h2 : n ≤ 9223372036854775807) (hb : B.length ≤ 1000000000) :
    Calls Try.prog 39 #[.pointer (some ⟨g, 0, none⟩), .int .i64 n] w (Wr base g r B most full (leb (zig n)) w) := by
  go_enter Try.func39, Try.ntmps39
  have hl := leb_le (zig n)
  have hp' := Lib.hid hp
  go_wp2_with fail
  with_reducible refine (putInt_any none 0 0 n [] _ Reads.none_ (by decide) (by decide) (by decide) h1 h2).mono ?_
  simp only [Nat.zero_add, List.nil_append]
  rintro e w1 ⟨A1, c1, rfl, g1, g2, o1, hb1⟩
  go_wp2_with fail
  refine (wraw_any base g r B most full A1 _ c1 (leb (zig n)) _ (hp'.out.on hb1) hm0 hm1 (own_reads o1) (by omega)).mono ?_
  rintro e w2 hw
  obtain ⟨rfl, -⟩ := id hw
  go_wp2
  go_end0
  exact hw.from_ hb1
set_option maxRecDepth 100000 in
set_option maxHeartbeats 1000000 in
theorem wtext_any (base g : Nat) (r : Option Nat) (B : List UInt8) (most : Int) (full : Bool) (s : ByteArray) (w : World) (hp : PWr w base g r B most full) (hm0 : 0 ≤ most) (hm1 : most ≤ 9223372036854775807) (hs0 : s.size ≤ 1000) (hb : B.length ≤ 1000000000) :
    Calls Try.prog 40 #[.pointer (some ⟨g, 0, none⟩), .string s] w (Wr base g r B most full (textB s) w) := by
  obtain ⟨i0, hi0, hz0, hz1, hz2⟩ := info_parts u8_info
  go_enter Try.func40, Try.ntmps40
  have hl := leb_le s.size
  have hs : s.size < 18446744073709551616 := by omega
  have hss : s.size ≤ 9223372036854775807 := by omega
  have Hbs := Lib.hid (bts_size s)
  have hp' := Lib.hid hp
  clear hp
  go_wp2_with fail
  with_reducible refine (put_any none 0 0 s.size [] _ Reads.none_ (by decide) (by decide) (by decide) hs).mono ?_
  simp only [Nat.zero_add, List.nil_append]
  rintro e w1 ⟨A1, c1, rfl, g1, g2, o1, hb1⟩
  have hs63 : (leb s.size).length + s.data.toList.length ≤ 70368744177664 := by have := Hbs.out; omega
  have hsz := hb1.size
  go_wp2_with (at_builtin
               refine wpList_append_str rfl (.tmp 8) (.tmp 9) 32 9 rfl w.heap.size 5 i0 Try.underlying32 Try.underlying9 hi0 hz0 hz1 hz2 A1 _ c1 _ rfl o1 s rfl hs63 hsz ?_
               intro A2 c2 w2 o2 hb2 hg2 hc2 hd2)
  have hb3 : Below w.heap.size w w2 := hb1.trans hb2
  have r2 := own_reads o2
  refine (wraw_any base g r B most full A2 _ c2 (textB s) _ (hp'.out.on hb3) hm0 hm1 r2 (by have := Hbs.out; omega)).mono ?_
  rintro e w2 hw
  obtain ⟨rfl, -⟩ := id hw
  go_wp2
  go_end0
  exact hw.from_ hb3
set_option maxRecDepth 100000 in
set_option maxHeartbeats 1000000 in
theorem wword_any (base g : Nat) (r : Option Nat) (B : List UInt8) (most : Int) (full : Bool) (n : Nat) (w : World) (hp : PWr w base g r B most full) (hm0 : 0 ≤ most) (hm1 : most ≤ 9223372036854775807) (hn : n < 4294967296) (hb : B.length ≤ 1000000000) :
    Calls Try.prog 43 #[.pointer (some ⟨g, 0, none⟩), .int .u32 (n : Int)] w (Wr base g r B most full (wordB n) w) := by
  go_enter Try.func43, Try.ntmps43
  go_wp2_with fail
  have hc := u8s_four (n % 256) (n / 256 % 256) (n / 65536 % 256) (n / 16777216) (by omega) (by omega) (by omega) (by omega)
  have hr : Reads (w.alloc (.cells #[.int .u8 ((n : Int) % 256), .int .u8 ((n : Int) / 256 % 256), .int .u8 ((n : Int) / 65536 % 256), .int .u8 ((n : Int) / 16777216)] 5)) (w.alloc (.cells #[.int .u8 ((n : Int) % 256), .int .u8 ((n : Int) / 256 % 256), .int .u8 ((n : Int) / 65536 % 256), .int .u8 ((n : Int) / 16777216)] 5)).heap.size 1 (some ⟨w.heap.size, 0, none⟩) 4 (u8s (wordB n)) :=
    reads_lit _ _ _ _ _ _ rfl hc rfl
  have hba : Below w.heap.size w (w.alloc (.cells #[.int .u8 ((n : Int) % 256), .int .u8 ((n : Int) / 256 % 256), .int .u8 ((n : Int) / 65536 % 256), .int .u8 ((n : Int) / 16777216)] 5)) := (Below.refl _ _).alloc (Nat.le_refl _) _
  refine (wraw_any base g r B most full _ 4 4 (wordB n) _ (hp.on hba) hm0 hm1 hr (by omega)).mono ?_
  rintro e w2 hw
  obtain ⟨rfl, -⟩ := id hw
  go_wp2
  go_end0
  exact hw.from_ hba
set_option maxRecDepth 100000 in
set_option maxHeartbeats 1000000 in
theorem rbyte_any (base g : Nat) (r : Option Nat) (B : List UInt8) (most : Int) (full : Bool) (n : Nat) (w : World) (hp : RWr w base g r B most full) (hm0 : 0 ≤ most) (hm1 : most ≤ 9223372036854775807) (hn : n < 256) (hb : B.length ≤ 1000000000) :
    Calls Try.prog 44 #[.pointer (some ⟨g, 0, none⟩), .int .u8 (n : Int)] w (RWrt base g r B most full [UInt8.ofNat n] w) := by
  go_enter Try.func44, Try.ntmps44
  go_wp2_with fail
  have hr : Reads (w.alloc (.cells #[.int .u8 (n : Int)] 5)) (w.alloc (.cells #[.int .u8 (n : Int)] 5)).heap.size 1 (some ⟨w.heap.size, 0, none⟩) 1 (u8s [UInt8.ofNat n]) := by
    rw [← u8_cell n hn]
    exact reads_new _ _ _
  have hba : Below w.heap.size w (w.alloc (.cells #[.int .u8 (n : Int)] 5)) := (Below.refl _ _).alloc (Nat.le_refl _) _
  refine (rraw_any base g r B most full _ 1 1 [UInt8.ofNat n] _ (hp.on hba) hm0 hm1 hr (by omega)).mono ?_
  rintro e w2 hw
  obtain ⟨rfl, -⟩ := id hw
  go_wp2
  go_end0
  exact hw.from_ hba
set_option maxRecDepth 100000 in
set_option maxHeartbeats 1000000 in
theorem rvar_any (base g : Nat) (r : Option Nat) (B : List UInt8) (most : Int) (full : Bool) (n : Nat) (w : World) (hp : RWr w base g r B most full) (hm0 : 0 ≤ most) (hm1 : most ≤ 9223372036854775807) (hn : n < 18446744073709551616) (hb : B.length ≤ 1000000000) :
    Calls Try.prog 45 #[.pointer (some ⟨g, 0, none⟩), .int .u64 (n : Int)] w (RWrt base g r B most full (leb n) w) := by
  go_enter Try.func45, Try.ntmps45
  have hl := leb_le n
  have hp' := Lib.hid hp
  go_wp2_with fail
  with_reducible refine (refPut_any none 0 0 n [] _ Reads.none_ (by decide) hn).mono ?_
  simp only [Nat.zero_add, List.nil_append]
  rintro e w1 ⟨A1, c1, rfl, g1, g2, o1, hb1⟩
  go_wp2_with fail
  refine (rraw_any base g r B most full A1 _ c1 (leb n) _ (hp'.out.on hb1) hm0 hm1 (own_reads o1) (by omega)).mono ?_
  rintro e w2 hw
  obtain ⟨rfl, -⟩ := id hw
  go_wp2
  go_end0
  exact hw.from_ hb1
set_option maxRecDepth 100000 in
set_option maxHeartbeats 1000000 in
theorem rint_any (base g : Nat) (r : Option Nat) (B : List UInt8) (most : Int) (full : Bool) (n : Int) (w : World) (hp : RWr w base g r B most full) (hm0 : 0 ≤ most) (hm1 : most ≤ 9223372036854775807) (h1 : -9223372036854775808 ≤ n) (h2 : n ≤ 9223372036854775807) (hb : B.length ≤ 1000000000) :
    Calls Try.prog 46 #[.pointer (some ⟨g, 0, none⟩), .int .i64 n] w (RWrt base g r B most full (leb (zig n)) w) := by
  go_enter Try.func46, Try.ntmps46
  have hl := leb_le (zig n)
  have hp' := Lib.hid hp
  go_wp2_with fail
  with_reducible refine (refPutInt_any none 0 0 n [] _ Reads.none_ (by decide) h1 h2).mono ?_
  simp only [Nat.zero_add, List.nil_append]
  rintro e w1 ⟨A1, c1, rfl, g1, g2, o1, hb1⟩
  go_wp2_with fail
  refine (rraw_any base g r B most full A1 _ c1 (leb (zig n)) _ (hp'.out.on hb1) hm0 hm1 (own_reads o1) (by omega)).mono ?_
  rintro e w2 hw
  obtain ⟨rfl, -⟩ := id hw
  go_wp2
  go_end0
  exact hw.from_ hb1
set_option maxRecDepth 100000 in
set_option maxHeartbeats 1000000 in
theorem rtext_any (base g : Nat) (r : Option Nat) (B : List UInt8) (most : Int) (full : Bool) (s : ByteArray) (w : World) (hp : RWr w base g r B most full) (hm0 : 0 ≤ most) (hm1 : most ≤ 9223372036854775807) (hs0 : s.size ≤ 1000) (hb : B.length ≤ 1000000000) :
    Calls Try.prog 47 #[.pointer (some ⟨g, 0, none⟩), .string s] w (RWrt base g r B most full (textB s) w) := by
  obtain ⟨i0, hi0, hz0, hz1, hz2⟩ := info_parts u8_info
  go_enter Try.func47, Try.ntmps47
  have hl := leb_le s.size
  have hs : s.size < 18446744073709551616 := by omega
  have hss : s.size ≤ 9223372036854775807 := by omega
  have Hbs := Lib.hid (bts_size s)
  have hp' := Lib.hid hp
  clear hp
  go_wp2_with fail
  with_reducible refine (refPut_any none 0 0 s.size [] _ Reads.none_ (by decide) hs).mono ?_
  simp only [Nat.zero_add, List.nil_append]
  rintro e w1 ⟨A1, c1, rfl, g1, g2, o1, hb1⟩
  have hs63 : (leb s.size).length + s.data.toList.length ≤ 70368744177664 := by have := Hbs.out; omega
  have hsz := hb1.size
  go_wp2_with (at_builtin
               refine wpList_append_str rfl (.tmp 8) (.tmp 9) 32 9 rfl w.heap.size 5 i0 Try.underlying32 Try.underlying9 hi0 hz0 hz1 hz2 A1 _ c1 _ rfl o1 s rfl hs63 hsz ?_
               intro A2 c2 w2 o2 hb2 hg2 hc2 hd2)
  have hb3 : Below w.heap.size w w2 := hb1.trans hb2
  have r2 := own_reads o2
  refine (rraw_any base g r B most full A2 _ c2 (textB s) _ (hp'.out.on hb3) hm0 hm1 r2 (by have := Hbs.out; omega)).mono ?_
  rintro e w2 hw
  obtain ⟨rfl, -⟩ := id hw
  go_wp2
  go_end0
  exact hw.from_ hb3
set_option maxRecDepth 100000 in
set_option maxHeartbeats 1000000 in
theorem rword_any (base g : Nat) (r : Option Nat) (B : List UInt8) (most : Int) (full : Bool) (n : Nat) (w : World) (hp : RWr w base g r B most full) (hm0 : 0 ≤ most) (hm1 : most ≤ 9223372036854775807) (hn : n < 4294967296) (hb : B.length ≤ 1000000000) :
    Calls Try.prog 49 #[.pointer (some ⟨g, 0, none⟩), .int .u32 (n : Int)] w (RWrt base g r B most full (wordB n) w) := by
  go_enter Try.func49, Try.ntmps49
  go_wp2_with fail
  have hc := u8s_four (n % 256) (n / 256 % 256) (n / 65536 % 256) (n / 16777216) (by omega) (by omega) (by omega) (by omega)
  have hr : Reads (w.alloc (.cells #[.int .u8 ((n : Int) % 256), .int .u8 ((n : Int) / 256 % 256), .int .u8 ((n : Int) / 65536 % 256), .int .u8 ((n : Int) / 16777216)] 5)) (w.alloc (.cells #[.int .u8 ((n : Int) % 256), .int .u8 ((n : Int) / 256 % 256), .int .u8 ((n : Int) / 65536 % 256), .int .u8 ((n : Int) / 16777216)] 5)).heap.size 1 (some ⟨w.heap.size, 0, none⟩) 4 (u8s (wordB n)) :=
    reads_lit _ _ _ _ _ _ rfl hc rfl
  have hba : Below w.heap.size w (w.alloc (.cells #[.int .u8 ((n : Int) % 256), .int .u8 ((n : Int) / 256 % 256), .int .u8 ((n : Int) / 65536 % 256), .int .u8 ((n : Int) / 16777216)] 5)) := (Below.refl _ _).alloc (Nat.le_refl _) _
  refine (rraw_any base g r B most full _ 4 4 (wordB n) _ (hp.on hba) hm0 hm1 hr (by omega)).mono ?_
  rintro e w2 hw
  obtain ⟨rfl, -⟩ := id hw
  go_wp2
  go_end0
  exact hw.from_ hba
end Go.Proofs.Ytnkkhplddjopnaa
