/- Layer 3, walked: put and own. -/
import Derived.Test.YtnkkhplddjopnaaPackP
import Derived.Test.YtnkkhplddjopnaaBring
import Derived.Test.YtnkkhplddjopnaaConv
set_option linter.unusedVariables false
set_option linter.unusedSimpArgs false
namespace Go.Proofs.Ytnkkhplddjopnaa
open Go.RowKit
def clipT (s : ByteArray) : ByteArray := s.extract 0 (min s.size 40)
theorem clipT_eq (s : ByteArray) : s.extract 0 (min (s.size : Int) 40).toNat = clipT s := by
  unfold clipT
  rw [show (min (s.size : Int) 40).toNat = min s.size 40 from by omega]
theorem clipT_size (s : ByteArray) : (clipT s).size ≤ 40 := by
  unfold clipT
  rw [ByteArray.size_extract]
  omega
set_option maxRecDepth 100000 in
theorem clip_any (s : ByteArray) (w : World) (hs : s.size ≤ maxLen) :
    Calls Try.prog 41 #[.string s] w fun e w' => e = .returned (.string (clipT s)) ∧ w = w' := by
  unfold maxLen at hs
  have hm1 : 0 ≤ min (s.size : Int) 40 := by omega
  have hm2 : min (s.size : Int) 40 ≤ (s.size : Int) := by omega
  have hce := clipT_eq s
  go_enter Try.func41, Try.ntmps41
  go_wp2
  go_ret
  exact ⟨rfl, rfl⟩
def toI (n : Nat) : Int := wrap64 (n : Int)
theorem toI_in (n : Nat) : -9223372036854775808 ≤ toI n ∧ toI n ≤ 9223372036854775807 := by
  unfold toI wrap64
  omega
/-- A piece's bytes. -/
def pieceB (k : Int) (n : Nat) (s : ByteArray) : List UInt8 :=
  if k = 0 then [UInt8.ofNat (n % 256)] else if k = 1 then leb n else if k = 2 then leb (zig (toI n)) else if k = 3 then textB (clipT s) else if k = 4 then (clipT s).data.toList else wordB (n % 4294967296)
theorem pieceB0 (n : Nat) (s : ByteArray) : pieceB 0 n s = [UInt8.ofNat (n % 256)] := by unfold pieceB; rw [if_pos rfl]
theorem pieceB1 (n : Nat) (s : ByteArray) : pieceB 1 n s = leb n := by unfold pieceB; rw [if_neg (by decide), if_pos rfl]
theorem pieceB2 (n : Nat) (s : ByteArray) : pieceB 2 n s = leb (zig (toI n)) := by unfold pieceB; rw [if_neg (by decide), if_neg (by decide), if_pos rfl]
theorem pieceB3 (n : Nat) (s : ByteArray) : pieceB 3 n s = textB (clipT s) := by unfold pieceB; rw [if_neg (by decide), if_neg (by decide), if_neg (by decide), if_pos rfl]
theorem pieceB4 (n : Nat) (s : ByteArray) : pieceB 4 n s = (clipT s).data.toList := by unfold pieceB; rw [if_neg (by decide), if_neg (by decide), if_neg (by decide), if_neg (by decide), if_pos rfl]
theorem pieceB5 (n : Nat) (s : ByteArray) : pieceB 5 n s = wordB (n % 4294967296) := by unfold pieceB; rw [if_neg (by decide), if_neg (by decide), if_neg (by decide), if_neg (by decide), if_neg (by decide)]
theorem pieceB_le (k : Int) (n : Nat) (s : ByteArray) : (pieceB k n s).length ≤ 60 := by
  have h1 := leb_le n
  have h2 := leb_le (zig (toI n))
  have h3 := leb_le (clipT s).size
  have h4 := clipT_size s
  have h5 := bts_size (clipT s)
  unfold pieceB
  repeat' split
  · simp
  · omega
  · omega
  · unfold textB; rw [List.length_append]; omega
  · omega
  · simp [wordB]
set_option maxRecDepth 100000 in
set_option maxHeartbeats 1000000 in
theorem pwput_any (base g : Nat) (r : Option Nat) (B : List UInt8) (most : Int) (full : Bool) (kind : Int) (n : Nat) (s : ByteArray) (w : World) (hp : PWr w base g r B most full) (hm0 : 0 ≤ most) (hm1 : most ≤ 9223372036854775807)
    (hk1 : -9223372036854775808 ≤ kind) (hk2 : kind ≤ 9223372036854775807) (hn : n < 18446744073709551616) (hs : s.size ≤ maxLen) (hb : B.length ≤ 1000000000) :
    Calls Try.prog 13 #[.pointer (some ⟨g, 0, none⟩), .agg #[.int .i64 kind, .int .u64 (n : Int), .string s]] w (Wr base g r B most full (pieceB (kind % 6) n s) w) := by
  have hk : kind % 6 = 0 ∨ kind % 6 = 1 ∨ kind % 6 = 2 ∨ kind % 6 = 3 ∨ kind % 6 = 4 ∨ kind % 6 = 5 := by omega
  have hp0 := Lib.hid hp
  have Hn := Lib.hid hn
  have Hs := Lib.hid hs
  have hba : Below w.heap.size w (w.alloc (.cells #[.int .i64 kind, .int .u64 (n : Int), .string s] 30)) := (Below.refl _ _).alloc (Nat.le_refl _) _
  have hp1 := Lib.hid (hp.on hba)
  clear hp hs
  rcases hk with hk | hk | hk | hk | hk | hk
  · have Hk := Lib.hid hk
    have hpb := pieceB0 n s
    rw [hk, hpb]
    clear hk hpb
    go_enter Try.func13, Try.ntmps13
    go_wp2_with fail
    with_reducible refine (bring_any kind 6 _ hk1 hk2 (by decide) (by decide)).mono ?_
    rintro e w' ⟨rfl, rfl⟩
    rw [Hk.out]
    go_wp2_with fail
    rw [show ((n : Int) % 256) = ((n % 256 : Nat) : Int) from by omega]
    with_reducible refine (wbyte_any base g r B most full (n % 256) _ hp1.out hm0 hm1 (by omega) hb).mono ?_
    rintro e w2 hw
    obtain ⟨rfl, -⟩ := id hw
    go_wp2
    go_end0
    exact hw.from_ hba
  · have Hk := Lib.hid hk
    have hpb := pieceB1 n s
    rw [hk, hpb]
    clear hk hpb
    go_enter Try.func13, Try.ntmps13
    go_wp2_with fail
    with_reducible refine (bring_any kind 6 _ hk1 hk2 (by decide) (by decide)).mono ?_
    rintro e w' ⟨rfl, rfl⟩
    rw [Hk.out]
    go_wp2_with fail
    with_reducible refine (wvar_any base g r B most full n _ hp1.out hm0 hm1 Hn.out hb).mono ?_
    rintro e w2 hw
    obtain ⟨rfl, -⟩ := id hw
    go_wp2
    go_end0
    exact hw.from_ hba
  · have Hk := Lib.hid hk
    have hpb := pieceB2 n s
    rw [hk, hpb]
    clear hk hpb
    go_enter Try.func13, Try.ntmps13
    go_wp2_with fail
    with_reducible refine (bring_any kind 6 _ hk1 hk2 (by decide) (by decide)).mono ?_
    rintro e w' ⟨rfl, rfl⟩
    rw [Hk.out]
    go_wp2_with fail
    rw [show wrap64 (n : Int) = toI n from rfl]
    with_reducible refine (wint_any base g r B most full (toI n) _ hp1.out hm0 hm1 (toI_in n).1 (toI_in n).2 hb).mono ?_
    rintro e w2 hw
    obtain ⟨rfl, -⟩ := id hw
    go_wp2
    go_end0
    exact hw.from_ hba
  · have Hk := Lib.hid hk
    have hpb := pieceB3 n s
    rw [hk, hpb]
    clear hk hpb
    go_enter Try.func13, Try.ntmps13
    go_wp2_with fail
    with_reducible refine (bring_any kind 6 _ hk1 hk2 (by decide) (by decide)).mono ?_
    rintro e w' ⟨rfl, rfl⟩
    rw [Hk.out]
    go_wp2_with fail
    with_reducible refine (clip_any s _ Hs.out).mono ?_
    rintro e w' ⟨rfl, rfl⟩
    go_wp2_with fail
    have hcs := clipT_size s
    with_reducible refine (wtext_any base g r B most full (clipT s) _ hp1.out hm0 hm1 (by omega) hb).mono ?_
    rintro e w2 hw
    obtain ⟨rfl, -⟩ := id hw
    go_wp2
    go_end0
    exact hw.from_ hba
  · have Hk := Lib.hid hk
    have hpb := pieceB4 n s
    rw [hk, hpb]
    clear hk hpb
    go_enter Try.func13, Try.ntmps13
    go_wp2_with fail
    with_reducible refine (bring_any kind 6 _ hk1 hk2 (by decide) (by decide)).mono ?_
    rintro e w' ⟨rfl, rfl⟩
    rw [Hk.out]
    go_wp2_with fail
    with_reducible refine (clip_any s _ Hs.out).mono ?_
    rintro e w' ⟨rfl, rfl⟩
    have hcs := clipT_size s
    obtain ⟨A1, c1, w1, hconv, r1, g1, g2, hb1⟩ := str_bytes (P := Try.prog) (w.alloc (.cells #[.int .i64 kind, .int .u64 (n : Int), .string s] 30)) 9 32 5 (clipT s) Try.underlying9 Try.underlying32 Try.underlying5 (by simp only [maxLen]; omega)
    have Hp2 := Lib.hid (hp1.out.on hb1)
    have hb2 : Below w.heap.size w w1 := bon hba hb1
    have Hb2 := Lib.hid hb2
    clear hb2 hb1
    go_wp2_with fail
    with_reducible refine (wraw_any base g r B most full A1 (clipT s).size c1 (clipT s).data.toList _ Hp2.out hm0 hm1 r1 (by omega)).mono ?_
    rintro e w2 hw
    obtain ⟨rfl, -⟩ := id hw
    go_wp2
    go_end0
    exact hw.from_ Hb2.out
  · have Hk := Lib.hid hk
    have hpb := pieceB5 n s
    rw [hk, hpb]
    clear hk hpb
    go_enter Try.func13, Try.ntmps13
    go_wp2_with fail
    with_reducible refine (bring_any kind 6 _ hk1 hk2 (by decide) (by decide)).mono ?_
    rintro e w' ⟨rfl, rfl⟩
    rw [Hk.out]
    go_wp2_with fail
    rw [show ((n : Int) % 4294967296) = ((n % 4294967296 : Nat) : Int) from by omega]
    with_reducible refine (wword_any base g r B most full (n % 4294967296) _ hp1.out hm0 hm1 (by omega) hb).mono ?_
    rintro e w2 hw
    obtain ⟨rfl, -⟩ := id hw
    go_wp2
    go_end0
    exact hw.from_ hba
set_option maxRecDepth 100000 in
set_option maxHeartbeats 1000000 in
theorem prput_any (base g : Nat) (r : Option Nat) (B : List UInt8) (most : Int) (full : Bool) (kind : Int) (n : Nat) (s : ByteArray) (w : World) (hp : RWr w base g r B most full) (hm0 : 0 ≤ most) (hm1 : most ≤ 9223372036854775807)
    (hk1 : -9223372036854775808 ≤ kind) (hk2 : kind ≤ 9223372036854775807) (hn : n < 18446744073709551616) (hs : s.size ≤ maxLen) (hb : B.length ≤ 1000000000) :
    Calls Try.prog 14 #[.pointer (some ⟨g, 0, none⟩), .agg #[.int .i64 kind, .int .u64 (n : Int), .string s]] w (RWrt base g r B most full (pieceB (kind % 6) n s) w) := by
  have hk : kind % 6 = 0 ∨ kind % 6 = 1 ∨ kind % 6 = 2 ∨ kind % 6 = 3 ∨ kind % 6 = 4 ∨ kind % 6 = 5 := by omega
  have hp0 := Lib.hid hp
  have Hn := Lib.hid hn
  have Hs := Lib.hid hs
  have hba : Below w.heap.size w (w.alloc (.cells #[.int .i64 kind, .int .u64 (n : Int), .string s] 30)) := (Below.refl _ _).alloc (Nat.le_refl _) _
  have hp1 := Lib.hid (hp.on hba)
  clear hp hs
  rcases hk with hk | hk | hk | hk | hk | hk
  · have Hk := Lib.hid hk
    have hpb := pieceB0 n s
    rw [hk, hpb]
    clear hk hpb
    go_enter Try.func14, Try.ntmps14
    go_wp2_with fail
    with_reducible refine (bring_any kind 6 _ hk1 hk2 (by decide) (by decide)).mono ?_
    rintro e w' ⟨rfl, rfl⟩
    rw [Hk.out]
    go_wp2_with fail
    rw [show ((n : Int) % 256) = ((n % 256 : Nat) : Int) from by omega]
    with_reducible refine (rbyte_any base g r B most full (n % 256) _ hp1.out hm0 hm1 (by omega) hb).mono ?_
    rintro e w2 hw
    obtain ⟨rfl, -⟩ := id hw
    go_wp2
    go_end0
    exact hw.from_ hba
  · have Hk := Lib.hid hk
    have hpb := pieceB1 n s
    rw [hk, hpb]
    clear hk hpb
    go_enter Try.func14, Try.ntmps14
    go_wp2_with fail
    with_reducible refine (bring_any kind 6 _ hk1 hk2 (by decide) (by decide)).mono ?_
    rintro e w' ⟨rfl, rfl⟩
    rw [Hk.out]
    go_wp2_with fail
    with_reducible refine (rvar_any base g r B most full n _ hp1.out hm0 hm1 Hn.out hb).mono ?_
    rintro e w2 hw
    obtain ⟨rfl, -⟩ := id hw
    go_wp2
    go_end0
    exact hw.from_ hba
  · have Hk := Lib.hid hk
    have hpb := pieceB2 n s
    rw [hk, hpb]
    clear hk hpb
    go_enter Try.func14, Try.ntmps14
    go_wp2_with fail
    with_reducible refine (bring_any kind 6 _ hk1 hk2 (by decide) (by decide)).mono ?_
    rintro e w' ⟨rfl, rfl⟩
    rw [Hk.out]
    go_wp2_with fail
    rw [show wrap64 (n : Int) = toI n from rfl]
    with_reducible refine (rint_any base g r B most full (toI n) _ hp1.out hm0 hm1 (toI_in n).1 (toI_in n).2 hb).mono ?_
    rintro e w2 hw
    obtain ⟨rfl, -⟩ := id hw
    go_wp2
    go_end0
    exact hw.from_ hba
  · have Hk := Lib.hid hk
    have hpb := pieceB3 n s
    rw [hk, hpb]
    clear hk hpb
    go_enter Try.func14, Try.ntmps14
    go_wp2_with fail
    with_reducible refine (bring_any kind 6 _ hk1 hk2 (by decide) (by decide)).mono ?_
    rintro e w' ⟨rfl, rfl⟩
    rw [Hk.out]
    go_wp2_with fail
    with_reducible refine (clip_any s _ Hs.out).mono ?_
    rintro e w' ⟨rfl, rfl⟩
    go_wp2_with fail
    have hcs := clipT_size s
    with_reducible refine (rtext_any base g r B most full (clipT s) _ hp1.out hm0 hm1 (by omega) hb).mono ?_
    rintro e w2 hw
    obtain ⟨rfl, -⟩ := id hw
    go_wp2
    go_end0
    exact hw.from_ hba
  · have Hk := Lib.hid hk
    have hpb := pieceB4 n s
    rw [hk, hpb]
    clear hk hpb
    go_enter Try.func14, Try.ntmps14
    go_wp2_with fail
    with_reducible refine (bring_any kind 6 _ hk1 hk2 (by decide) (by decide)).mono ?_
    rintro e w' ⟨rfl, rfl⟩
    rw [Hk.out]
    go_wp2_with fail
    with_reducible refine (clip_any s _ Hs.out).mono ?_
    rintro e w' ⟨rfl, rfl⟩
    have hcs := clipT_size s
    obtain ⟨A1, c1, w1, hconv, r1, g1, g2, hb1⟩ := str_bytes (P := Try.prog) (w.alloc (.cells #[.int .i64 kind, .int .u64 (n : Int), .string s] 30)) 9 32 5 (clipT s) Try.underlying9 Try.underlying32 Try.underlying5 (by simp only [maxLen]; omega)
    have Hp2 := Lib.hid (hp1.out.on hb1)
    have hb2 : Below w.heap.size w w1 := bon hba hb1
    have Hb2 := Lib.hid hb2
    clear hb2 hb1
    go_wp2_with fail
    with_reducible refine (rraw_any base g r B most full A1 (clipT s).size c1 (clipT s).data.toList _ Hp2.out hm0 hm1 r1 (by omega)).mono ?_
    rintro e w2 hw
    obtain ⟨rfl, -⟩ := id hw
    go_wp2
    go_end0
    exact hw.from_ Hb2.out
  · have Hk := Lib.hid hk
    have hpb := pieceB5 n s
    rw [hk, hpb]
    clear hk hpb
    go_enter Try.func14, Try.ntmps14
    go_wp2_with fail
    with_reducible refine (bring_any kind 6 _ hk1 hk2 (by decide) (by decide)).mono ?_
    rintro e w' ⟨rfl, rfl⟩
    rw [Hk.out]
    go_wp2_with fail
    rw [show ((n : Int) % 4294967296) = ((n % 4294967296 : Nat) : Int) from by omega]
    with_reducible refine (rword_any base g r B most full (n % 4294967296) _ hp1.out hm0 hm1 (by omega) hb).mono ?_
    rintro e w2 hw
    obtain ⟨rfl, -⟩ := id hw
    go_wp2
    go_end0
    exact hw.from_ hba
end Go.Proofs.Ytnkkhplddjopnaa
