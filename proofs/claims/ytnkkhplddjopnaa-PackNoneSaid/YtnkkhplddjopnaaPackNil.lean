/- Layer 3, walked: writers and readers that are none: nil, or never made. -/
import Derived.Test.YtnkkhplddjopnaaPackBoth
set_option linter.unusedVariables false
set_option linter.unusedSimpArgs false
namespace Go.Proofs.Ytnkkhplddjopnaa
open Go.RowKit
def WNone (w : World) (v : Value) : Prop := v = .pointer none ∨ ∃ g, v = .pointer (some ⟨g, 0, none⟩) ∧ Blk w g 65 #[.slice none 0 0, .bool false, .int .i64 0, .bool false]
def RNone (w : World) (v : Value) : Prop := v = .pointer none ∨ ∃ g, v = .pointer (some ⟨g, 0, none⟩) ∧ Blk w g 67 #[.slice none 0 0, .bool false, .int .i64 0, .int .i64 0]
theorem WNone.on {w w' : World} {v : Value} (h : WNone w v) (hb : Below w.heap.size w w') : WNone w' v := by
  rcases h with h | ⟨g, h1, h2⟩
  · exact .inl h
  · exact .inr ⟨g, h1, h2.on hb⟩
theorem RNone.on {w w' : World} {v : Value} (h : RNone w v) (hb : Below w.heap.size w w') : RNone w' v := by
  rcases h with h | ⟨g, h1, h2⟩
  · exact .inl h
  · exact .inr ⟨g, h1, h2.on hb⟩
set_option maxRecDepth 100000 in
set_option maxHeartbeats 1000000 in
theorem wraw_none (v : Value) (A : Option Addr) (l c : Nat) (w : World) (hv : WNone w v) : Calls Try.prog 42 #[v, .slice A l c] w fun e w' => e = .returned (.tuple #[]) ∧ w = w' := by
  rcases hv with rfl | ⟨g, rfl, hb⟩
  · go_enter Try.func42, Try.ntmps42
    go_wp2
    go_end0
    exact ⟨rfl, rfl⟩
  · have c0 := hb.cell 0
    have c1 := hb.cell 1
    have c2 := hb.cell 2
    have c3 := hb.cell 3
    clear hb
    go_enter Try.func42, Try.ntmps42
    go_wp2
    go_end0
    exact ⟨rfl, rfl⟩
set_option maxRecDepth 100000 in
set_option maxHeartbeats 1000000 in
theorem wlen_none (v : Value)  (w : World) (hv : WNone w v) : Calls Try.prog 17 #[v] w fun e w' => e = .returned (.int .i64 0) ∧ w = w' := by
  rcases hv with rfl | ⟨g, rfl, hb⟩
  · go_enter Try.func17, Try.ntmps17
    go_wp2
    go_ret
    exact ⟨rfl, rfl⟩
  · have c0 := hb.cell 0
    have c1 := hb.cell 1
    have c2 := hb.cell 2
    have c3 := hb.cell 3
    clear hb
    go_enter Try.func17, Try.ntmps17
    go_wp2
    go_ret
    exact ⟨rfl, rfl⟩
set_option maxRecDepth 100000 in
set_option maxHeartbeats 1000000 in
theorem wdone_none (v : Value)  (w : World) (hv : WNone w v) : Calls Try.prog 15 #[v] w fun e w' => e = .returned (.tuple #[.slice none 0 0, .int .i64 1]) ∧ w = w' := by
  rcases hv with rfl | ⟨g, rfl, hb⟩
  · go_enter Try.func15, Try.ntmps15
    go_wp2
    go_ret2
    exact ⟨rfl, rfl⟩
  · have c0 := hb.cell 0
    have c1 := hb.cell 1
    have c2 := hb.cell 2
    have c3 := hb.cell 3
    clear hb
    go_enter Try.func15, Try.ntmps15
    go_wp2
    go_ret2
    exact ⟨rfl, rfl⟩
set_option maxRecDepth 100000 in
set_option maxHeartbeats 1000000 in
theorem perr_none (v : Value)  (w : World) (hv : RNone w v) : Calls Try.prog 26 #[v] w fun e w' => e = .returned (.int .i64 1) ∧ w = w' := by
  rcases hv with rfl | ⟨g, rfl, hb⟩
  · go_enter Try.func26, Try.ntmps26
    go_wp2
    go_ret
    exact ⟨rfl, rfl⟩
  · have c0 := hb.cell 0
    have c1 := hb.cell 1
    have c2 := hb.cell 2
    have c3 := hb.cell 3
    clear hb
    go_enter Try.func26, Try.ntmps26
    go_wp2
    go_ret
    exact ⟨rfl, rfl⟩
set_option maxRecDepth 100000 in
set_option maxHeartbeats 1000000 in
theorem pat_none (v : Value)  (w : World) (hv : RNone w v) : Calls Try.prog 27 #[v] w fun e w' => e = .returned (.int .i64 0) ∧ w = w' := by
  rcases hv with rfl | ⟨g, rfl, hb⟩
  · go_enter Try.func27, Try.ntmps27
    go_wp2
    go_ret
    exact ⟨rfl, rfl⟩
  · have c0 := hb.cell 0
    have c1 := hb.cell 1
    have c2 := hb.cell 2
    have c3 := hb.cell 3
    clear hb
    go_enter Try.func27, Try.ntmps27
    go_wp2
    go_ret
    exact ⟨rfl, rfl⟩
set_option maxRecDepth 100000 in
set_option maxHeartbeats 1000000 in
theorem pleft_none (v : Value)  (w : World) (hv : RNone w v) : Calls Try.prog 28 #[v] w fun e w' => e = .returned (.int .i64 0) ∧ w = w' := by
  rcases hv with rfl | ⟨g, rfl, hb⟩
  · go_enter Try.func28, Try.ntmps28
    go_wp2
    go_ret
    exact ⟨rfl, rfl⟩
  · have c0 := hb.cell 0
    have c1 := hb.cell 1
    have c2 := hb.cell 2
    have c3 := hb.cell 3
    clear hb
    go_enter Try.func28, Try.ntmps28
    go_wp2
    go_ret
    exact ⟨rfl, rfl⟩
set_option maxRecDepth 100000 in
set_option maxHeartbeats 1000000 in
theorem pend_none (v : Value)  (w : World) (hv : RNone w v) : Calls Try.prog 30 #[v] w fun e w' => e = .returned (.int .i64 1) ∧ Below w.heap.size w w' := by
  have Hv := Lib.hid hv
  clear hv
  go_enter Try.func30, Try.ntmps30
  go_wp2_with fail
  with_reducible refine (perr_none v _ Hv.out).mono ?_
  rintro e w' ⟨rfl, rfl⟩
  go_wp2
  go_ret
  exact ⟨rfl, Below.refl _ _⟩
set_option maxRecDepth 100000 in
set_option maxHeartbeats 1000000 in
theorem pfail_none (v : Value) (n : Int) (w : World) (hv : RNone w v) : Calls Try.prog 34 #[v, .int .i64 n] w fun e w' => e = .returned (.tuple #[]) ∧ Below w.heap.size w w' := by
  have Hv := Lib.hid hv
  clear hv
  go_enter Try.func34, Try.ntmps34
  go_wp2_with fail
  with_reducible refine (perr_none v _ Hv.out).mono ?_
  rintro e w' ⟨rfl, rfl⟩
  go_wp2
  go_end0
  exact ⟨rfl, Below.refl _ _⟩
set_option maxRecDepth 100000 in
set_option maxHeartbeats 1000000 in
theorem takeU_none (v : Value) (F : Value) (w : World) (hv : RNone w v) : Calls Try.prog 75 #[v, F] w fun e w' => e = .returned (.int .u64 0) ∧ Below w.heap.size w w' := by
  have Hv := Lib.hid hv
  clear hv
  go_enter Try.func75, Try.ntmps75
  go_wp2_with fail
  with_reducible refine (perr_none v _ Hv.out).mono ?_
  rintro e w' ⟨rfl, rfl⟩
  go_wp2
  go_ret
  exact ⟨rfl, Below.refl _ _⟩
set_option maxRecDepth 100000 in
set_option maxHeartbeats 1000000 in
theorem takeI_none (v : Value) (F : Value) (w : World) (hv : RNone w v) : Calls Try.prog 76 #[v, F] w fun e w' => e = .returned (.int .i64 0) ∧ Below w.heap.size w w' := by
  have Hv := Lib.hid hv
  clear hv
  go_enter Try.func76, Try.ntmps76
  go_wp2_with fail
  with_reducible refine (perr_none v _ Hv.out).mono ?_
  rintro e w' ⟨rfl, rfl⟩
  go_wp2
  go_ret
  exact ⟨rfl, Below.refl _ _⟩
set_option maxRecDepth 100000 in
set_option maxHeartbeats 1000000 in
theorem takeB_none (v : Value) (F : Value) (w : World) (hv : RNone w v) : Calls Try.prog 64 #[v, F] w fun e w' => e = .returned (.slice none 0 0) ∧ Below w.heap.size w w' := by
  have Hv := Lib.hid hv
  clear hv
  go_enter Try.func64, Try.ntmps64
  go_wp2_with fail
  with_reducible refine (perr_none v _ Hv.out).mono ?_
  rintro e w' ⟨rfl, rfl⟩
  go_wp2
  go_ret
  exact ⟨rfl, Below.refl _ _⟩
set_option maxRecDepth 100000 in
set_option maxHeartbeats 1000000 in
theorem takeT_none (v : Value) (F : Value) (w : World) (hv : RNone w v) : Calls Try.prog 72 #[v, F] w fun e w' => e = .returned (.string ⟨#[]⟩) ∧ Below w.heap.size w w' := by
  have Hv := Lib.hid hv
  clear hv
  go_enter Try.func72, Try.ntmps72
  go_wp2_with fail
  with_reducible refine (perr_none v _ Hv.out).mono ?_
  rintro e w' ⟨rfl, rfl⟩
  go_wp2
  go_ret
  exact ⟨rfl, Below.refl _ _⟩
set_option maxRecDepth 100000 in
set_option maxHeartbeats 1000000 in
theorem praw_none (v : Value) (n : Int) (w : World) (hv : RNone w v) : Calls Try.prog 32 #[v, .int .i64 n] w fun e w' => e = .returned (.slice none 0 0) ∧ Below w.heap.size w w' := by
  have Hv := Lib.hid hv
  clear hv
  go_enter Try.func32, Try.ntmps32
  go_wp2_with fail
  with_reducible refine (some_any n _).mono ?_
  rintro e w1 ⟨rfl, hb1, hlt1, hc1⟩
  have Hb1 := Lib.hid hb1
  have Hv1 := Lib.hid (Hv.out.on hb1)
  clear hb1 hc1 hlt1
  go_wp2_with fail
  with_reducible refine (takeB_none v _ _ Hv1.out).mono ?_
  rintro e w2 ⟨rfl, hb2⟩
  go_wp2
  go_ret
  exact ⟨rfl, bon Hb1.out hb2⟩
set_option maxRecDepth 100000 in
set_option maxHeartbeats 1000000 in
theorem pbyte_none (v : Value)  (w : World) (hv : RNone w v) : Calls Try.prog 51 #[v] w fun e w' => e = .returned (.int .u8 0) ∧ Below w.heap.size w w' := by
  have Hv := Lib.hid hv
  clear hv
  go_enter Try.func51, Try.ntmps51
  go_wp2_with fail
  with_reducible refine (praw_none v 1 _ Hv.out).mono ?_
  rintro e w2 ⟨rfl, hb2⟩
  have Hb := Lib.hid hb2
  clear hb2
  go_wp2
  go_loopw [2, 6] (fun b i wr => i = .int .i64 0 ∧ b = .int .u8 0 ∧ wr = w2) (fun b i _ => 0)
  case atStart => exact ⟨rfl, rfl, rfl⟩
  case round =>
    obtain ⟨rfl, rfl, rfl⟩ := hrel
    go_wp2
    go_ret
    exact ⟨rfl, Hb.out⟩
set_option maxRecDepth 100000 in
set_option maxHeartbeats 1000000 in
theorem pword_none (v : Value)  (w : World) (hv : RNone w v) : Calls Try.prog 55 #[v] w fun e w' => e = .returned (.int .u32 0) ∧ Below w.heap.size w w' := by
  have Hv := Lib.hid hv
  clear hv
  go_enter Try.func55, Try.ntmps55
  go_wp2_with fail
  with_reducible refine (praw_none v 4 _ Hv.out).mono ?_
  rintro e w2 ⟨rfl, hb2⟩
  have Hb := Lib.hid hb2
  clear hb2
  go_wp2
  go_loopw [2, 3, 4, 8] (fun m _ _ i wr => i = .int .i64 0 ∧ m = .int .u32 0 ∧ wr = w2) (fun m _ _ i _ => 0)
  case atStart => exact ⟨rfl, rfl, rfl⟩
  case round =>
    obtain ⟨rfl, rfl, rfl⟩ := hrel
    go_wp2
    go_ret
    exact ⟨rfl, Hb.out⟩
set_option maxRecDepth 100000 in
set_option maxHeartbeats 1000000 in
theorem pvar_none (v : Value)  (w : World) (hv : RNone w v) : Calls Try.prog 53 #[v] w fun e w' => e = .returned (.int .u64 0) ∧ Below w.heap.size w w' := by
  have Hv := Lib.hid hv
  clear hv
  go_enter Try.func53, Try.ntmps53
  go_wp2_with fail
  with_reducible refine (takeU_none v _ _ Hv.out).mono ?_
  rintro e w2 ⟨rfl, hb2⟩
  go_wp2
  go_ret
  exact ⟨rfl, hb2⟩
set_option maxRecDepth 100000 in
set_option maxHeartbeats 1000000 in
theorem pint_none (v : Value)  (w : World) (hv : RNone w v) : Calls Try.prog 54 #[v] w fun e w' => e = .returned (.int .i64 0) ∧ Below w.heap.size w w' := by
  have Hv := Lib.hid hv
  clear hv
  go_enter Try.func54, Try.ntmps54
  go_wp2_with fail
  with_reducible refine (takeI_none v _ _ Hv.out).mono ?_
  rintro e w2 ⟨rfl, hb2⟩
  go_wp2
  go_ret
  exact ⟨rfl, hb2⟩
set_option maxRecDepth 100000 in
set_option maxHeartbeats 1000000 in
theorem ptext_none (v : Value) (n : Int) (w : World) (hv : RNone w v) : Calls Try.prog 52 #[v, .int .i64 n] w fun e w' => e = .returned (.string ⟨#[]⟩) ∧ Below w.heap.size w w' := by
  have Hv := Lib.hid hv
  clear hv
  go_enter Try.func52, Try.ntmps52
  go_wp2_with fail
  have Hb1 := Lib.hid ((Below.refl w.heap.size w).alloc (Nat.le_refl _) (.cells #[.int .i64 n] 3))
  have Hv1 := Lib.hid (Hv.out.on Hb1.out)
  with_reducible refine (takeT_none v _ _ Hv1.out).mono ?_
  rintro e w2 ⟨rfl, hb2⟩
  go_wp2
  go_ret
  exact ⟨rfl, bon Hb1.out hb2⟩
set_option maxRecDepth 100000 in
set_option maxHeartbeats 1000000 in
theorem wbyte_none (v : Value) (n : Nat) (w : World) (hv : WNone w v) : Calls Try.prog 37 #[v, .int .u8 (n : Int)] w fun e w' => e = .returned (.tuple #[]) ∧ Below w.heap.size w w' := by
  have Hv := Lib.hid hv
  clear hv
  go_enter Try.func37, Try.ntmps37
  go_wp2_with fail
  have Hb1 := Lib.hid ((Below.refl w.heap.size w).alloc (Nat.le_refl _) (.cells #[.int .u8 (n : Int)] 5))
  with_reducible refine (wraw_none v _ _ _ _ (Hv.out.on Hb1.out)).mono ?_
  rintro e w2 ⟨rfl, rfl⟩
  go_wp2
  go_end0
  exact ⟨rfl, Hb1.out⟩
set_option maxRecDepth 100000 in
set_option maxHeartbeats 1000000 in
theorem wvar_none (v : Value) (n : Nat) (hn : n < 18446744073709551616) (w : World) (hv : WNone w v) : Calls Try.prog 38 #[v, .int .u64 (n : Int)] w fun e w' => e = .returned (.tuple #[]) ∧ Below w.heap.size w w' := by
  have Hv := Lib.hid hv
  clear hv
  go_enter Try.func38, Try.ntmps38
  have hl := leb_le n
  go_wp2_with fail
  with_reducible refine (put_any none 0 0 n [] _ Reads.none_ (by decide) (by decide) (by decide) hn).mono ?_
  simp only [Nat.zero_add, List.nil_append]
  rintro e w1 ⟨A1, c1, rfl, g1, g2, o1, hb1⟩
  have Hb1 := Lib.hid hb1
  clear hb1 o1
  go_wp2_with fail
  with_reducible refine (wraw_none v _ _ _ _ (Hv.out.on Hb1.out)).mono ?_
  rintro e w2 ⟨rfl, rfl⟩
  go_wp2
  go_end0
  exact ⟨rfl, Hb1.out⟩
set_option maxRecDepth 100000 in
set_option maxHeartbeats 1000000 in
theorem wint_none (v : Value) (n : Int) (h1 : -9223372036854775808 ≤ n) (h2 : n ≤ 9223372036854775807) (w : World) (hv : WNone w v) : Calls Try.prog 39 #[v, .int .i64 n] w fun e w' => e = .returned (.tuple #[]) ∧ Below w.heap.size w w' := by
  have Hv := Lib.hid hv
  clear hv
  go_enter Try.func39, Try.ntmps39
  have hl := leb_le (zig n)
  go_wp2_with fail
  with_reducible refine (putInt_any none 0 0 n [] _ Reads.none_ (by decide) (by decide) (by decide) h1 h2).mono ?_
  simp only [Nat.zero_add, List.nil_append]
  rintro e w1 ⟨A1, c1, rfl, g1, g2, o1, hb1⟩
  have Hb1 := Lib.hid hb1
  clear hb1 o1
  go_wp2_with fail
  with_reducible refine (wraw_none v _ _ _ _ (Hv.out.on Hb1.out)).mono ?_
  rintro e w2 ⟨rfl, rfl⟩
  go_wp2
  go_end0
  exact ⟨rfl, Hb1.out⟩
set_option maxRecDepth 100000 in
set_option maxHeartbeats 1000000 in
theorem wtext_none (v : Value) (s : ByteArray) (hs0 : s.size ≤ 1000) (w : World) (hv : WNone w v) : Calls Try.prog 40 #[v, .string s] w fun e w' => e = .returned (.tuple #[]) ∧ Below w.heap.size w w' := by
  have Hv := Lib.hid hv
  clear hv
  go_enter Try.func40, Try.ntmps40
  obtain ⟨i0, hi0, hz0, hz1, hz2⟩ := info_parts u8_info
  have hl := leb_le s.size
  have hs : s.size < 18446744073709551616 := by omega
  have hss : s.size ≤ 9223372036854775807 := by omega
  have Hbs := Lib.hid (bts_size s)
  go_wp2_with fail
  with_reducible refine (put_any none 0 0 s.size [] _ Reads.none_ (by decide) (by decide) (by decide) hs).mono ?_
  simp only [Nat.zero_add, List.nil_append]
  rintro e w1 ⟨A1, c1, rfl, g1, g2, o1, hb1⟩
  have hs63 : (leb s.size).length + s.data.toList.length ≤ 70368744177664 := by have := Hbs.out; omega
  have hsz := hb1.size
  go_wp2_with (at_builtin
               refine wpList_append_str rfl (.tmp 8) (.tmp 9) 32 9 rfl w.heap.size 5 i0 Try.underlying32 Try.underlying9 hi0 hz0 hz1 hz2 A1 _ c1 _ rfl o1 s rfl hs63 hsz ?_
               intro A2 c2 w2 o2 hb2 hg2 hc2 hd2)
  have Hb3 := Lib.hid (hb1.trans hb2)
  with_reducible refine (wraw_none v _ _ _ _ (Hv.out.on Hb3.out)).mono ?_
  rintro e w3 ⟨rfl, rfl⟩
  go_wp2
  go_end0
  exact ⟨rfl, Hb3.out⟩
set_option maxRecDepth 100000 in
set_option maxHeartbeats 1000000 in
theorem wword_none (v : Value) (n : Nat) (hn : n < 4294967296) (w : World) (hv : WNone w v) : Calls Try.prog 43 #[v, .int .u32 (n : Int)] w fun e w' => e = .returned (.tuple #[]) ∧ Below w.heap.size w w' := by
  have Hv := Lib.hid hv
  clear hv
  go_enter Try.func43, Try.ntmps43
  go_wp2_with fail
  have Hb1 := Lib.hid ((Below.refl w.heap.size w).alloc (Nat.le_refl _) (.cells #[.int .u8 ((n : Int) % 256), .int .u8 ((n : Int) / 256 % 256), .int .u8 ((n : Int) / 65536 % 256), .int .u8 ((n : Int) / 16777216)] 5))
  with_reducible refine (wraw_none v _ _ _ _ (Hv.out.on Hb1.out)).mono ?_
  rintro e w2 ⟨rfl, rfl⟩
  go_wp2
  go_end0
  exact ⟨rfl, Hb1.out⟩
set_option maxRecDepth 100000 in
set_option maxHeartbeats 1000000 in
theorem put_none (v : Value) (kind : Int) (n : Nat) (s : ByteArray) (w : World) (hv : WNone w v) (hk1 : -9223372036854775808 ≤ kind) (hk2 : kind ≤ 9223372036854775807) (hn : n < 18446744073709551616) (hs : s.size ≤ maxLen) :
    Calls Try.prog 13 #[v, .agg #[.int .i64 kind, .int .u64 (n : Int), .string s]] w fun e w' => e = .returned (.tuple #[]) ∧ Below w.heap.size w w' := by
  have hk : kind % 6 = 0 ∨ kind % 6 = 1 ∨ kind % 6 = 2 ∨ kind % 6 = 3 ∨ kind % 6 = 4 ∨ kind % 6 = 5 := by omega
  have Hn := Lib.hid hn
  have Hs := Lib.hid hs
  have Hba := Lib.hid ((Below.refl w.heap.size w).alloc (Nat.le_refl _) (.cells #[.int .i64 kind, .int .u64 (n : Int), .string s] 30))
  have Hv := Lib.hid (hv.on Hba.out)
  clear hv hs
  rcases hk with hk | hk | hk | hk | hk | hk
  · have Hk := Lib.hid hk
    clear hk
    go_enter Try.func13, Try.ntmps13
    go_wp2_with fail
    with_reducible refine (bring_any kind 6 _ hk1 hk2 (by decide) (by decide)).mono ?_
    rintro e w' ⟨rfl, rfl⟩
    rw [Hk.out]
    go_wp2_with fail
    rw [show ((n : Int) % 256) = ((n % 256 : Nat) : Int) from by omega]
    with_reducible refine (wbyte_none v (n % 256) _ Hv.out).mono ?_
    rintro e w2 ⟨rfl, hb2⟩
    go_wp2
    go_end0
    exact ⟨rfl, bon Hba.out hb2⟩
  · have Hk := Lib.hid hk
    clear hk
    go_enter Try.func13, Try.ntmps13
    go_wp2_with fail
    with_reducible refine (bring_any kind 6 _ hk1 hk2 (by decide) (by decide)).mono ?_
    rintro e w' ⟨rfl, rfl⟩
    rw [Hk.out]
    go_wp2_with fail
    with_reducible refine (wvar_none v n Hn.out _ Hv.out).mono ?_
    rintro e w2 ⟨rfl, hb2⟩
    go_wp2
    go_end0
    exact ⟨rfl, bon Hba.out hb2⟩
  · have Hk := Lib.hid hk
    clear hk
    go_enter Try.func13, Try.ntmps13
    go_wp2_with fail
    with_reducible refine (bring_any kind 6 _ hk1 hk2 (by decide) (by decide)).mono ?_
    rintro e w' ⟨rfl, rfl⟩
    rw [Hk.out]
    go_wp2_with fail
    rw [show wrap64 (n : Int) = toI n from rfl]
    with_reducible refine (wint_none v (toI n) (toI_in n).1 (toI_in n).2 _ Hv.out).mono ?_
    rintro e w2 ⟨rfl, hb2⟩
    go_wp2
    go_end0
    exact ⟨rfl, bon Hba.out hb2⟩
  · have Hk := Lib.hid hk
    clear hk
    go_enter Try.func13, Try.ntmps13
    go_wp2_with fail
    with_reducible refine (bring_any kind 6 _ hk1 hk2 (by decide) (by decide)).mono ?_
    rintro e w' ⟨rfl, rfl⟩
    rw [Hk.out]
    go_wp2_with fail
    with_reducible refine (clip_any s _ Hs.out).mono ?_
    rintro e w' ⟨rfl, rfl⟩
    have hcs := clipT_size s
    go_wp2_with fail
    with_reducible refine (wtext_none v (clipT s) (by omega) _ Hv.out).mono ?_
    rintro e w2 ⟨rfl, hb2⟩
    go_wp2
    go_end0
    exact ⟨rfl, bon Hba.out hb2⟩
  · have Hk := Lib.hid hk
    clear hk
    go_enter Try.func13, Try.ntmps13
    go_wp2_with fail
    with_reducible refine (bring_any kind 6 _ hk1 hk2 (by decide) (by decide)).mono ?_
    rintro e w' ⟨rfl, rfl⟩
    rw [Hk.out]
    go_wp2_with fail
    with_reducible refine (clip_any s _ Hs.out).mono ?_
    rintro e w' ⟨rfl, rfl⟩
    have hcs := clipT_size s
    obtain ⟨A1, c1, w1, hconv, r1, g1, g2, hb1⟩ := str_bytes (P := Try.prog) (w.alloc (.cells #[.int .i64 kind, .int .u64 (n : Int), .string s] 30)) 9 32 5 (clipT s) Try.underlying9 Try.underlying32 Try.underlying5 (by simp only [maxLen]; omega)
    have Hv2 := Lib.hid (Hv.out.on hb1)
    have Hb2 := Lib.hid (bon Hba.out hb1)
    clear hb1 r1
    go_wp2_with fail
    with_reducible refine (wraw_none v _ _ _ _ Hv2.out).mono ?_
    rintro e w2 ⟨rfl, rfl⟩
    go_wp2
    go_end0
    exact ⟨rfl, Hb2.out⟩
  · have Hk := Lib.hid hk
    clear hk
    go_enter Try.func13, Try.ntmps13
    go_wp2_with fail
    with_reducible refine (bring_any kind 6 _ hk1 hk2 (by decide) (by decide)).mono ?_
    rintro e w' ⟨rfl, rfl⟩
    rw [Hk.out]
    go_wp2_with fail
    rw [show ((n : Int) % 4294967296) = ((n % 4294967296 : Nat) : Int) from by omega]
    with_reducible refine (wword_none v (n % 4294967296) (by omega) _ Hv.out).mono ?_
    rintro e w2 ⟨rfl, hb2⟩
    go_wp2
    go_end0
    exact ⟨rfl, bon Hba.out hb2⟩
set_option maxRecDepth 100000 in
set_option maxHeartbeats 1000000 in
theorem asked_none (v : Value) (kind n : Int) (w : World) (hv : RNone w v) (hk1 : -9223372036854775808 ≤ kind) (hk2 : kind ≤ 9223372036854775807) (hn1 : -9223372036854775808 ≤ n) (hn2 : n ≤ 9223372036854775807) :
    Calls Try.prog 24 #[v, .agg #[.int .i64 kind, .int .i64 n]] w fun e w' => e = .returned (.tuple #[.int .u64 0, .string ⟨#[]⟩]) ∧ Below w.heap.size w w' := by
  have hk : kind % 8 = 0 ∨ kind % 8 = 1 ∨ kind % 8 = 2 ∨ kind % 8 = 3 ∨ kind % 8 = 4 ∨ kind % 8 = 5 ∨ kind % 8 = 6 ∨ kind % 8 = 7 := by omega
  have Hba := Lib.hid ((Below.refl w.heap.size w).alloc (Nat.le_refl _) (.cells #[.int .i64 kind, .int .i64 n] 52))
  have Hv := Lib.hid (hv.on Hba.out)
  clear hv
  rcases hk with hk | hk | hk | hk | hk | hk | hk | hk
  · have Hk := Lib.hid hk
    clear hk
    go_enter Try.func24, Try.ntmps24
    go_wp2_with fail
    with_reducible refine (bring_any kind 8 _ hk1 hk2 (by decide) (by decide)).mono ?_
    rintro e w' ⟨rfl, rfl⟩
    rw [Hk.out]
    go_wp2_with fail
    with_reducible refine (pbyte_none v _ Hv.out).mono ?_
    rintro e w2 ⟨rfl, hb2⟩
    go_wp2
    go_ret2
    exact ⟨rfl, bon Hba.out hb2⟩
  · have Hk := Lib.hid hk
    clear hk
    go_enter Try.func24, Try.ntmps24
    go_wp2_with fail
    with_reducible refine (bring_any kind 8 _ hk1 hk2 (by decide) (by decide)).mono ?_
    rintro e w' ⟨rfl, rfl⟩
    rw [Hk.out]
    go_wp2_with fail
    with_reducible refine (pvar_none v _ Hv.out).mono ?_
    rintro e w2 ⟨rfl, hb2⟩
    go_wp2
    go_ret2
    exact ⟨rfl, bon Hba.out hb2⟩
  · have Hk := Lib.hid hk
    clear hk
    go_enter Try.func24, Try.ntmps24
    go_wp2_with fail
    with_reducible refine (bring_any kind 8 _ hk1 hk2 (by decide) (by decide)).mono ?_
    rintro e w' ⟨rfl, rfl⟩
    rw [Hk.out]
    go_wp2_with fail
    with_reducible refine (pint_none v _ Hv.out).mono ?_
    rintro e w2 ⟨rfl, hb2⟩
    go_wp2
    go_ret2
    exact ⟨rfl, bon Hba.out hb2⟩
  · have Hk := Lib.hid hk
    clear hk
    go_enter Try.func24, Try.ntmps24
    go_wp2_with fail
    with_reducible refine (bring_any kind 8 _ hk1 hk2 (by decide) (by decide)).mono ?_
    rintro e w' ⟨rfl, rfl⟩
    rw [Hk.out]
    go_wp2_with fail
    with_reducible refine (ptext_none v n _ Hv.out).mono ?_
    rintro e w2 ⟨rfl, hb2⟩
    go_wp2
    go_ret2
    exact ⟨rfl, bon Hba.out hb2⟩
  · have Hk := Lib.hid hk
    clear hk
    go_enter Try.func24, Try.ntmps24
    go_wp2_with fail
    with_reducible refine (bring_any kind 8 _ hk1 hk2 (by decide) (by decide)).mono ?_
    rintro e w' ⟨rfl, rfl⟩
    rw [Hk.out]
    go_wp2_with fail
    with_reducible refine (praw_none v n _ Hv.out).mono ?_
    rintro e w2 ⟨rfl, hb2⟩
    have Hb2 := Lib.hid (bon Hba.out hb2)
    have hC := run_bytes_string w2 32 9 5 Try.underlying32 Try.underlying5 Try.underlying9 w2.heap.size none 0 0 [] Reads.none_
    change _ = Result.ok (Value.string ⟨#[]⟩) w2 at hC
    clear hb2
    go_wp2_with fail
    with_reducible refine (spoil2_any none 0 0 w2.heap.size [] _ (World.ownsRow_nil _ _ _ _) (by decide)).mono ?_
    rintro e w3 ⟨rfl, hsp⟩
    have Hb3 : Below w.heap.size w w3 := by
      rcases hsp with rfl | ⟨k, hk, _⟩
      · exact Hb2.out
      · cases hk
    clear hsp
    go_wp2
    go_ret2
    exact ⟨rfl, Hb3⟩
  · have Hk := Lib.hid hk
    clear hk
    go_enter Try.func24, Try.ntmps24
    go_wp2_with fail
    with_reducible refine (bring_any kind 8 _ hk1 hk2 (by decide) (by decide)).mono ?_
    rintro e w' ⟨rfl, rfl⟩
    rw [Hk.out]
    go_wp2_with fail
    with_reducible refine (pword_none v _ Hv.out).mono ?_
    rintro e w2 ⟨rfl, hb2⟩
    go_wp2
    go_ret2
    exact ⟨rfl, bon Hba.out hb2⟩
  · have Hk := Lib.hid hk
    clear hk
    go_enter Try.func24, Try.ntmps24
    go_wp2_with fail
    with_reducible refine (bring_any kind 8 _ hk1 hk2 (by decide) (by decide)).mono ?_
    rintro e w' ⟨rfl, rfl⟩
    rw [Hk.out]
    go_wp2_with fail
    with_reducible refine (bring_any n 7 _ hn1 hn2 (by decide) (by decide)).mono ?_
    rintro e w' ⟨rfl, rfl⟩
    go_wp2_with fail
    with_reducible refine (pfail_none v _ _ Hv.out).mono ?_
    rintro e w2 ⟨rfl, hb2⟩
    go_wp2
    go_ret2
    exact ⟨rfl, bon Hba.out hb2⟩
  · have Hk := Lib.hid hk
    clear hk
    go_enter Try.func24, Try.ntmps24
    go_wp2_with fail
    with_reducible refine (bring_any kind 8 _ hk1 hk2 (by decide) (by decide)).mono ?_
    rintro e w' ⟨rfl, rfl⟩
    rw [Hk.out]
    go_wp2
    go_ret2
    exact ⟨rfl, Hba.out⟩
end Go.Proofs.Ytnkkhplddjopnaa
