/- Layer 14, walked: both Unpack. -/
import Derived.Test.YtbcfdlhhmifneaaMask2
import Derived.WalkMore
set_option linter.unusedVariables false
set_option linter.unusedSimpArgs false
namespace Go.Proofs.Ytbcfdlhhmifneaa
open Go.RowKit

theorem bit_of (b k : Nat) (hb : b < 256) : (bits .and .u8 ((b : Int) / 2 ^ k) 1 == 1) = (b / 2 ^ k % 2 == 1) := by
  have e : ((b : Int) / 2 ^ k) = ((b / 2 ^ k : Nat) : Int) := by rw [Int.natCast_ediv, Int.natCast_pow]; rfl
  have hle : b / 2 ^ k ≤ b := Nat.div_le_self _ _
  rw [e, show (1 : Int) = ((1 : Nat) : Int) from rfl, u8_and_nat _ _ (by omega) (by omega), nat_mask1]
  rw [Bool.eq_iff_iff]
  simp
  omega
/-- What Unpack hands back. -/
def Unpacked (r : List Bool × Nat × Nat) (w : World) (e : Ending) (w' : World) : Prop :=
  ∃ A c, e = .returned (.tuple #[.slice A r.1.length c, .int .i64 (r.2.1 : Int), .int .i64 (r.2.2 : Int)]) ∧ r.1.length ≤ c ∧ c ≤ maxLen ∧ Reads w' w'.heap.size 1 A r.1.length (bls r.1) ∧ Below w.heap.size w w'

theorem munpack_err (er : Nat) (w : World) : Unpacked ([], 0, er) w (.returned (.tuple #[.slice none 0 0, .int .i64 0, .int .i64 (er : Int)])) w :=
  ⟨none, 0, rfl, Nat.le_refl _, by simp [maxLen], Reads.none_, Below.refl _ _⟩

set_option maxRecDepth 100000 in
set_option maxHeartbeats 400000 in
theorem clip_any (A : Option Addr) (l c : Nat) (w : World) (hl : l ≤ c) (hc : c ≤ maxLen) :
    Calls Try.prog 26 #[.slice A l c] w fun e w' => e = .returned (.slice A l l) ∧ w = w' := by
  unfold maxLen at hc
  go_enter Try.func26, Try.ntmps26
  go_wp2
  go_ret
  exact ⟨rfl, rfl⟩
set_option maxRecDepth 100000 in
set_option maxHeartbeats 1000000 in
theorem munpack_any (A : Option Addr) (l c : Nat) (xs : List UInt8) (n : Int) (w : World) (hr : Reads w w.heap.size 1 A l (u8s xs)) (hl : l ≤ c) (hc : c ≤ maxLen) (h1 : -9223372036854775808 ≤ n) (h2 : n ≤ 9223372036854775807) :
    Calls Try.prog 21 #[.slice A l c, .int .i64 n] w (Unpacked (unpackL xs n) w) := by
  obtain ⟨i0, hi0, hz0, hz1, hz2⟩ := info_parts bool_info
  unfold maxLen at hc
  have Hlen := Lib.hid (reads_len hr)
  have hsz := fun w => msize_any n w h1 h2
  have Hsz := Lib.hid hsz
  clear hsz
  by_cases hn : n < 0 ∨ 1048576 < n
  · have hu : unpackL xs n = ([], 0, 6) := by unfold unpackL; rw [if_pos hn]
    rw [hu]
    clear hu h1 h2
    rcases hn with hn | hn
    all_goals
      go_enter Try.func21, Try.ntmps21
      go_wp2
      go_step3
      go_wp2_with fail
      refine (Hsz.out _).mono ?_
      rintro e w' ⟨rfl, rfl⟩
      go_wp2
      rw [Exit.noGoto_ret]
      go_ret3
      exact munpack_err 6 w
  · obtain ⟨m, rfl⟩ := Int.eq_ofNat_of_zero_le (by omega : 0 ≤ n)
    have hm : m ≤ 1048576 := by omega
    have hu : unpackL xs (m : Int) = unpackN xs m := by unfold unpackL; rw [if_neg hn, Int.toNat_natCast]
    have hss : sizeL (m : Int) = need m := by unfold sizeL; rw [if_neg hn, Int.toNat_natCast]
    rw [hu]
    rw [hss] at Hsz
    clear hu hss h1 h2 hn
    have hnm : need m ≤ 131072 := by unfold need; omega
    by_cases hshort : l < need m
    · have hu : unpackN xs m = ([], 0, 3) := by unfold unpackN; rw [if_pos (by rw [Hlen.out]; exact hshort)]
      rw [hu]
      clear hu
      go_enter Try.func21, Try.ntmps21
      go_wp2
      go_step3
      go_wp2_with fail
      refine (Hsz.out _).mono ?_
      rintro e w' ⟨rfl, rfl⟩
      go_wp2
      rw [Exit.noGoto_ret]
      go_ret3
      exact munpack_err 3 w
    · go_enter Try.func21, Try.ntmps21
      go_wp2
      go_step3
      go_wp2_with fail
      refine (Hsz.out _).mono ?_
      rintro e w' ⟨rfl, rfl⟩
      go_wp2
      go_step3
      go_wp2
      go_loopw [4, 6, 25] (fun u x v wr => ∃ (i L : Nat) (A1 : Option Addr) (c1 : Nat), i ≤ need m ∧ x = .int .i64 0 ∧ v = .int .i64 (i : Int) ∧ u = .slice A1 L c1 ∧ Hid (L = min (8 * i) m) ∧
        wr.ownsRow w.heap.size 4 1 (.slice A1 L c1) L (bls ((allBits xs).take L)) ∧ Hid (Clear xs m (8 * i)) ∧ Below w.heap.size w wr) (fun _ _ v _ => need m - (intOf v).toNat)
      case atStart => exact ⟨0, 0, none, 0, Nat.zero_le _, rfl, rfl, rfl, by show 0 = min (8 * 0) m; omega, World.ownsRow_nil _ _ _ _, clear_low _ _ _ (by omega), Below.refl _ _⟩
      case round =>
        obtain ⟨i, L, A1, c1, hi, rfl, rfl, rfl, HL, hown, Hcl, hB⟩ := hrel
        by_cases hlt : i < need m
        · obtain ⟨ad, v, rfl, hbk, hx, hcell0⟩ := hr.at_ (k := i) (by omega)
          obtain ⟨b, hb', rfl⟩ := u8s_get _ _ _ hx
          have hb256 : b.toNat < 256 := b.toNat_lt
          clear hx
          have db : decide ((i : Int) < (need m : Int)) = true := by simp; omega
          go_wp2
          go_loopw [4, 6, 28] (fun u x v wr => ∃ (k L : Nat) (A1 : Option Addr) (c1 : Nat), k ≤ 8 ∧ x = .int .i64 0 ∧ v = .int .i64 (k : Int) ∧ u = .slice A1 L c1 ∧ Hid (L = min (8 * i + k) m) ∧
            wr.ownsRow w.heap.size 4 1 (.slice A1 L c1) L (bls ((allBits xs).take L)) ∧ Hid (Clear xs m (8 * i + k)) ∧ Below w.heap.size w wr) (fun _ _ v _ => 8 - (intOf v).toNat)
          case atStart => exact ⟨0, L, A1, c1, Nat.zero_le _, rfl, rfl, rfl, HL, hown, Hcl, hB⟩
          case round =>
            clear HL hown Hcl hB
            obtain ⟨k, L, A1, c1, hk, rfl, rfl, rfl, HL, hown, Hcl, hB⟩ := hrel
            by_cases hlt2 : k < 8
            · have hcell := hcell0
              rw [← hB.cell (p := ad.add i) (by rw [block_of_add]; exact hbk)] at hcell
              have hbit := allBits_get xs i k b hb' hlt2
              have hbv := bit_of b.toNat k hb256
              generalize (b.toNat / 2 ^ k % 2 == 1) = bv at hbit hbv
              have hbase := hB.size
              by_cases htm : 8 * i + k < m
              · obtain rfl : L = 8 * i + k := by have := HL.out; omega
                have hnx := take_next _ _ _ hbit
                have Hnx := Lib.hid hnx
                have hs1 : 8 * i + k + 1 ≤ maxLen := by simp only [maxLen]; omega
                have hs2 : (8 * i + k + 1) * 1 ≤ 70368744177664 := by omega
                clear hbit hnx
                go_wp2_with (at_builtin
                             refine wpList_append_any _ rfl (.tmp 44) (.tmp 46) 22 rfl w.heap.size 4 i0 (.bool false) 1 1 Try.underlying22 hi0 hz0 hz1 hz2 rfl (by decide) A1 _ c1 _ rfl (hown.alloc _) _ 1 1 _ rfl (reads_new _ _ _) (one_bool _) hs1 hs2 (by simp; omega) ?_
                             intro A2 c2 w2 hown2 hb2 hg2 hc2 hm2
                             rw [show [Value.bool bv] = bls [bv] from rfl, ← bls_append, ← Hnx.out] at hown2)
                go_roundw
                case rel => exact ⟨k + 1, 8 * i + k + 1, A2, c2, by omega, rfl, by go_num, rfl, by show 8 * i + k + 1 = min (8 * i + (k + 1)) m; omega, hown2, clear_low _ _ _ (by omega), (hB.alloc hbase _).trans hb2⟩
                case measure => simp [intOf]; omega
              · obtain rfl : L = m := by have := HL.out; omega
                have heq : ((L : Int) == (L : Int)) = true := by simp
                cases bv
                · have hcl := clear_next xs L (8 * i + k) Hcl.out hbit
                  clear hbit
                  go_wp2
                  go_roundw
                  case rel => exact ⟨k + 1, L, A1, c1, by omega, rfl, by go_num, rfl, by show L = min (8 * i + (k + 1)) L; omega, hown, hcl, hB⟩
                  case measure => simp [intOf]; omega
                · have hbad := unpack_bad xs L (8 * i + k) (by rw [Hlen.out]; omega) (by omega) (by omega) hbit
                  have Hbad := Lib.hid hbad
                  clear hbit hbad
                  go_wp2
                  rw [Exit.noGoto_ret]
                  go_ret3
                  rw [Hbad.out]
                  exact ⟨none, 0, rfl, Nat.le_refl _, by simp [maxLen], Reads.none_, hB⟩
            · have hk8 : k = 8 := by omega
              go_wp2
              go_roundw
              case rel =>
                subst hk8
                exact ⟨i + 1, L, A1, c1, by omega, rfl, by go_num, rfl, HL, hown, Hcl, hB⟩
              case measure => simp [intOf]; omega
        · have hL : L = m := by have := HL.out; have := need_le m; omega
          subst hL
          obtain ⟨A', c', hv, h1, h2⟩ := own_shape hown
          injection hv with hA hn hc'
          subst hA hc'
          have hie : i = need L := by omega
          subst hie
          go_wp2_with fail
          with_reducible refine (clip_any _ _ _ _ h1 h2).mono ?_
          rintro e w' ⟨rfl, rfl⟩
          go_wp2
          rw [Exit.noGoto_ret]
          go_ret3
          rw [unpack_good xs L (by rw [Hlen.out]; omega) Hcl.out]
          have hlen : ((allBits xs).take L).length = L := by have := hown.1; simpa using this
          refine ⟨A1, L, by rw [hlen]; rfl, by rw [hlen]; exact Nat.le_refl _, by simp only [maxLen]; omega, by rw [hlen]; exact own_reads hown, hB⟩
end Go.Proofs.Ytbcfdlhhmifneaa
