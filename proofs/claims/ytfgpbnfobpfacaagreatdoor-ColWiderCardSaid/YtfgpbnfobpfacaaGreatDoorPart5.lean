/- Part 5 of the walks, merged: each text under its own heading. Conditions: none of its own; each lemma states what it asks. -/
import Derived.Test.YtfgpbnfobpfacaaGreatDoorPart4
import Derived.WalkMore
import Derived.RegionTactic
import Derived.Lib.SlicesS
import Derived.Maps.OwnSet
import Derived.Maps.OwnOps
import Derived.StringKeys
/- Layer 14, walked: both Unpack. -/
set_option linter.unusedVariables false
set_option linter.unusedSimpArgs false
namespace Go.Proofs.YtfgpbnfobpfacaaGreatDoor
open Go.RowKit

theorem bit_of (b k : Nat) (hb : b < 256) : (bits .and .u8 ((b : Int) / 2 ^ k) 1 == 1) = (b / 2 ^ k % 2 == 1) := by
  have e : ((b : Int) / 2 ^ k) = ((b / 2 ^ k : Nat) : Int) := by rw [Int.natCast_ediv, Int.natCast_pow]; rfl
  have hle : b / 2 ^ k ≤ b := Nat.div_le_self _ _
  rw [e, show (1 : Int) = ((1 : Nat) : Int) from rfl, u8_and_nat _ _ (by omega) (by omega), nat_mask1]
  rw [Bool.eq_iff_iff]
  simp
  omega
/-- What Unpack hands back. -/
def Unpacked (r : List Bool × Nat × Nat) (w : World) (e : Ending) (w' : World) : Prop :=
  ∃ A c, e = .returned (.tuple #[.slice A r.1.length c, .int .i64 (r.2.1 : Int), .int .i64 (r.2.2 : Int)]) ∧ r.1.length ≤ c ∧ c ≤ maxLen ∧ Reads w' w'.heap.size 1 A r.1.length (bls r.1) ∧ Below w.heap.size w w'

theorem munpack_err (er : Nat) (w : World) : Unpacked ([], 0, er) w (.returned (.tuple #[.slice none 0 0, .int .i64 0, .int .i64 (er : Int)])) w :=
  ⟨none, 0, rfl, Nat.le_refl _, by simp [maxLen], Reads.none_, Below.refl _ _⟩

set_option maxRecDepth 100000 in
set_option maxHeartbeats 400000 in
theorem clip_any (A : Option Addr) (l c : Nat) (w : World) (hl : l ≤ c) (hc : c ≤ maxLen) :
    Calls Tryz.prog 102 #[.slice A l c] w fun e w' => e = .returned (.slice A l l) ∧ w = w' := by
  unfold maxLen at hc
  go_enter Tryz.func102, Tryz.ntmps102
  go_wp2
  go_ret
  exact ⟨rfl, rfl⟩
set_option maxRecDepth 100000 in
set_option maxHeartbeats 1000000 in
theorem munpack_any (A : Option Addr) (l c : Nat) (xs : List UInt8) (n : Int) (w : World) (hr : Reads w w.heap.size 1 A l (u8s xs)) (hl : l ≤ c) (hc : c ≤ maxLen) (h1 : -9223372036854775808 ≤ n) (h2 : n ≤ 9223372036854775807) :
    Calls Tryz.prog 57 #[.slice A l c, .int .i64 n] w (Unpacked (unpackL xs n) w) := by
  obtain ⟨i0, hi0, hz0, hz1, hz2⟩ := info_parts bool_info
  unfold maxLen at hc
  have Hlen := Lib.hid (reads_len hr)
  have hsz := fun w => msize_any n w h1 h2
  have Hsz := Lib.hid hsz
  clear hsz
  by_cases hn : n < 0 ∨ 1048576 < n
  · have hu : unpackL xs n = ([], 0, 6) := by unfold unpackL; rw [if_pos hn]
    rw [hu]
    clear hu h1 h2
    rcases hn with hn | hn
    all_goals
      go_enter Tryz.func57, Tryz.ntmps57
      go_wp2
      go_step3
      go_wp2_with fail
      refine (Hsz.out _).mono ?_
      rintro e w' ⟨rfl, rfl⟩
      go_wp2
      rw [Exit.noGoto_ret]
      go_ret3
      exact munpack_err 6 w
  · obtain ⟨m, rfl⟩ := Int.eq_ofNat_of_zero_le (by omega : 0 ≤ n)
    have hm : m ≤ 1048576 := by omega
    have hu : unpackL xs (m : Int) = unpackN xs m := by unfold unpackL; rw [if_neg hn, Int.toNat_natCast]
    have hss : sizeL (m : Int) = need m := by unfold sizeL; rw [if_neg hn, Int.toNat_natCast]
    rw [hu]
    rw [hss] at Hsz
    clear hu hss h1 h2 hn
    have hnm : need m ≤ 131072 := by unfold need; omega
    by_cases hshort : l < need m
    · have hu : unpackN xs m = ([], 0, 3) := by unfold unpackN; rw [if_pos (by rw [Hlen.out]; exact hshort)]
      rw [hu]
      clear hu
      go_enter Tryz.func57, Tryz.ntmps57
      go_wp2
      go_step3
      go_wp2_with fail
      refine (Hsz.out _).mono ?_
      rintro e w' ⟨rfl, rfl⟩
      go_wp2
      rw [Exit.noGoto_ret]
      go_ret3
      exact munpack_err 3 w
    · go_enter Tryz.func57, Tryz.ntmps57
      go_wp2
      go_step3
      go_wp2_with fail
      refine (Hsz.out _).mono ?_
      rintro e w' ⟨rfl, rfl⟩
      go_wp2
      go_step3
      go_wp2
      go_loopw [4, 6, 25] (fun u x v wr => ∃ (i L : Nat) (A1 : Option Addr) (c1 : Nat), i ≤ need m ∧ x = .int .i64 0 ∧ v = .int .i64 (i : Int) ∧ u = .slice A1 L c1 ∧ Hid (L = min (8 * i) m) ∧
        wr.ownsRow w.heap.size 4 1 (.slice A1 L c1) L (bls ((allBits xs).take L)) ∧ Hid (Clear xs m (8 * i)) ∧ Below w.heap.size w wr) (fun _ _ v _ => need m - (intOf v).toNat)
      case atStart => exact ⟨0, 0, none, 0, Nat.zero_le _, rfl, rfl, rfl, by show 0 = min (8 * 0) m; omega, World.ownsRow_nil _ _ _ _, clear_low _ _ _ (by omega), Below.refl _ _⟩
      case round =>
        obtain ⟨i, L, A1, c1, hi, rfl, rfl, rfl, HL, hown, Hcl, hB⟩ := hrel
        by_cases hlt : i < need m
        · obtain ⟨ad, v, rfl, hbk, hx, hcell0⟩ := hr.at_ (k := i) (by omega)
          obtain ⟨b, hb', rfl⟩ := u8s_get _ _ _ hx
          have hb256 : b.toNat < 256 := b.toNat_lt
          clear hx
          have db : decide ((i : Int) < (need m : Int)) = true := by simp; omega
          go_wp2
          go_loopw [4, 6, 28] (fun u x v wr => ∃ (k L : Nat) (A1 : Option Addr) (c1 : Nat), k ≤ 8 ∧ x = .int .i64 0 ∧ v = .int .i64 (k : Int) ∧ u = .slice A1 L c1 ∧ Hid (L = min (8 * i + k) m) ∧
            wr.ownsRow w.heap.size 4 1 (.slice A1 L c1) L (bls ((allBits xs).take L)) ∧ Hid (Clear xs m (8 * i + k)) ∧ Below w.heap.size w wr) (fun _ _ v _ => 8 - (intOf v).toNat)
          case atStart => exact ⟨0, L, A1, c1, Nat.zero_le _, rfl, rfl, rfl, HL, hown, Hcl, hB⟩
          case round =>
            clear HL hown Hcl hB
            obtain ⟨k, L, A1, c1, hk, rfl, rfl, rfl, HL, hown, Hcl, hB⟩ := hrel
            by_cases hlt2 : k < 8
            · have hcell := hcell0
              rw [← hB.cell (p := ad.add i) (by rw [block_of_add]; exact hbk)] at hcell
              have hbit := allBits_get xs i k b hb' hlt2
              have hbv := bit_of b.toNat k hb256
              generalize (b.toNat / 2 ^ k % 2 == 1) = bv at hbit hbv
              have hbase := hB.size
              by_cases htm : 8 * i + k < m
              · obtain rfl : L = 8 * i + k := by have := HL.out; omega
                have hnx := take_next _ _ _ hbit
                have Hnx := Lib.hid hnx
                have hs1 : 8 * i + k + 1 ≤ maxLen := by simp only [maxLen]; omega
                have hs2 : (8 * i + k + 1) * 1 ≤ 70368744177664 := by omega
                clear hbit hnx
                go_wp2_with (at_builtin
                             refine wpList_append_any _ rfl (.tmp 44) (.tmp 46) 42 rfl w.heap.size 4 i0 (.bool false) 1 1 Tryz.underlying42 hi0 hz0 hz1 hz2 rfl (by decide) A1 _ c1 _ rfl (hown.alloc _) _ 1 1 _ rfl (reads_new _ _ _) (one_bool _) hs1 hs2 (by simp; omega) ?_
                             intro A2 c2 w2 hown2 hb2 hg2 hc2 hm2
                             rw [show [Value.bool bv] = bls [bv] from rfl, ← bls_append, ← Hnx.out] at hown2)
                go_roundw
                case rel => exact ⟨k + 1, 8 * i + k + 1, A2, c2, by omega, rfl, by go_num, rfl, by show 8 * i + k + 1 = min (8 * i + (k + 1)) m; omega, hown2, clear_low _ _ _ (by omega), (hB.alloc hbase _).trans hb2⟩
                case measure => simp [intOf]; omega
              · obtain rfl : L = m := by have := HL.out; omega
                have heq : ((L : Int) == (L : Int)) = true := by simp
                cases bv
                · have hcl := clear_next xs L (8 * i + k) Hcl.out hbit
                  clear hbit
                  go_wp2
                  go_roundw
                  case rel => exact ⟨k + 1, L, A1, c1, by omega, rfl, by go_num, rfl, by show L = min (8 * i + (k + 1)) L; omega, hown, hcl, hB⟩
                  case measure => simp [intOf]; omega
                · have hbad := unpack_bad xs L (8 * i + k) (by rw [Hlen.out]; omega) (by omega) (by omega) hbit
                  have Hbad := Lib.hid hbad
                  clear hbit hbad
                  go_wp2
                  rw [Exit.noGoto_ret]
                  go_ret3
                  rw [Hbad.out]
                  exact ⟨none, 0, rfl, Nat.le_refl _, by simp [maxLen], Reads.none_, hB⟩
            · have hk8 : k = 8 := by omega
              go_wp2
              go_roundw
              case rel =>
                subst hk8
                exact ⟨i + 1, L, A1, c1, by omega, rfl, by go_num, rfl, HL, hown, Hcl, hB⟩
              case measure => simp [intOf]; omega
        · have hL : L = m := by have := HL.out; have := need_le m; omega
          subst hL
          obtain ⟨A', c', hv, h1, h2⟩ := own_shape hown
          injection hv with hA hn hc'
          subst hA hc'
          have hie : i = need L := by omega
          subst hie
          go_wp2_with fail
          with_reducible refine (clip_any _ _ _ _ h1 h2).mono ?_
          rintro e w' ⟨rfl, rfl⟩
          go_wp2
          rw [Exit.noGoto_ret]
          go_ret3
          rw [unpack_good xs L (by rw [Hlen.out]; omega) Hcl.out]
          have hlen : ((allBits xs).take L).length = L := by have := hown.1; simpa using this
          refine ⟨A1, L, by rw [hlen]; rfl, by rw [hlen]; exact Nat.le_refl _, by simp only [maxLen]; omega, by rw [hlen]; exact own_reads hown, hB⟩
end Go.Proofs.YtfgpbnfobpfacaaGreatDoor
/- Layer 14, walked: the reference's Unpack. -/
set_option linter.unusedVariables false
set_option linter.unusedSimpArgs false
namespace Go.Proofs.YtfgpbnfobpfacaaGreatDoor
open Go.RowKit
theorem reads_len2 {w : World} {B n : Nat} {A : Option Addr} {l : List Bool} (h : Reads w B 1 A n (bls l)) : l.length = n := blen h
theorem half_cast (b k : Nat) (hb : b < 256) : ((b / 2 ^ k : Nat) : Int) / 2 = ((b / 2 ^ (k + 1) : Nat) : Int) := by
  rw [Nat.pow_succ, ← Nat.div_div_eq_div_mul]; rfl
set_option maxRecDepth 100000 in
set_option maxHeartbeats 1000000 in
theorem refmunpack_any (A : Option Addr) (l c : Nat) (xs : List UInt8) (n : Int) (w : World) (hr : Reads w w.heap.size 1 A l (u8s xs)) (hl : l ≤ c) (hc : c ≤ maxLen) (h1 : -9223372036854775808 ≤ n) (h2 : n ≤ 9223372036854775807) :
    Calls Tryz.prog 39 #[.slice A l c, .int .i64 n] w (Unpacked (unpackL xs n) w) := by
  obtain ⟨i0, hi0, hz0, hz1, hz2⟩ := info_parts bool_info
  unfold maxLen at hc
  have Hlen := Lib.hid (reads_len hr)
  have hsz := fun w => refmsize_any n w h1 h2
  have Hsz := Lib.hid hsz
  clear hsz
  by_cases hn : n < 0 ∨ 1048576 < n
  · have hu : unpackL xs n = ([], 0, 6) := by unfold unpackL; rw [if_pos hn]
    rw [hu]
    clear hu h1 h2
    rcases hn with hn | hn
    all_goals
      go_enter Tryz.func39, Tryz.ntmps39
      go_wp2
      go_ret3
      exact munpack_err 6 w
  · obtain ⟨m, rfl⟩ := Int.eq_ofNat_of_zero_le (by omega : 0 ≤ n)
    have hm : m ≤ 1048576 := by omega
    have hu : unpackL xs (m : Int) = unpackN xs m := by unfold unpackL; rw [if_neg hn, Int.toNat_natCast]
    have hss : sizeL (m : Int) = need m := by unfold sizeL; rw [if_neg hn, Int.toNat_natCast]
    rw [hu]
    rw [hss] at Hsz
    clear hu hss h1 h2 hn
    have hnm : need m ≤ 131072 := by unfold need; omega
    by_cases hshort : l < need m
    · have hu : unpackN xs m = ([], 0, 3) := by unfold unpackN; rw [if_pos (by rw [Hlen.out]; exact hshort)]
      rw [hu]
      clear hu
      go_enter Tryz.func39, Tryz.ntmps39
      go_wp2_with fail
      refine (Hsz.out _).mono ?_
      rintro e w' ⟨rfl, rfl⟩
      go_wp2
      go_ret3
      exact munpack_err 3 w
    · go_enter Tryz.func39, Tryz.ntmps39
      go_wp2_with fail
      refine (Hsz.out _).mono ?_
      rintro e w' ⟨rfl, rfl⟩
      go_wp2
      go_loopw [7, 8] (fun u v wr => ∃ (i : Nat) (A1 : Option Addr) (c1 : Nat), i ≤ need m ∧ v = .int .i64 (i : Int) ∧ u = .slice A1 (8 * i) c1 ∧
        wr.ownsRow w.heap.size 4 1 (.slice A1 (8 * i) c1) (8 * i) (bls ((allBits xs).take (8 * i))) ∧ Below w.heap.size w wr) (fun _ v _ => need m - (intOf v).toNat)
      case atStart => exact ⟨0, none, 0, Nat.zero_le _, rfl, rfl, World.ownsRow_nil _ _ _ _, Below.refl _ _⟩
      case round =>
        obtain ⟨i, A1, c1, hi, rfl, rfl, hown, hB⟩ := hrel
        by_cases hlt : i < need m
        · obtain ⟨ad, v, rfl, hbk, hx, hcell0⟩ := hr.at_ (k := i) (by omega)
          obtain ⟨b, hb', rfl⟩ := u8s_get _ _ _ hx
          have hcell := hcell0
          rw [← hB.cell (p := ad.add i) (by rw [block_of_add]; exact hbk)] at hcell
          have hb256 : b.toNat < 256 := b.toNat_lt
          clear hx
          have db : decide (i < need m) = true := by simp; omega
          go_wp2_with fail
          refine (Hsz.out _).mono ?_
          rintro e w' ⟨rfl, rfl⟩
          go_wp2
          clear hcell
          go_loopw [7, 9, 10] (fun u x v wr => ∃ (k : Nat) (A1 : Option Addr) (c1 : Nat), k ≤ 8 ∧ x = .int .u8 ((b.toNat / 2 ^ k : Nat) : Int) ∧ v = .int .i64 (k : Int) ∧ u = .slice A1 (8 * i + k) c1 ∧
            wr.ownsRow w.heap.size 4 1 (.slice A1 (8 * i + k) c1) (8 * i + k) (bls ((allBits xs).take (8 * i + k))) ∧ Below w.heap.size w wr) (fun _ _ v _ => 8 - (intOf v).toNat)
          case atStart => exact ⟨0, A1, c1, Nat.zero_le _, by simp, rfl, rfl, hown, hB⟩
          case round =>
            clear hown hB
            obtain ⟨k, A1, c1, hk, rfl, rfl, rfl, hown, hB⟩ := hrel
            by_cases hlt2 : k < 8
            · have hbit := allBits_get xs i k b hb' hlt2
              have hq : b.toNat / 2 ^ k < 256 := Nat.lt_of_le_of_lt (Nat.div_le_self _ _) hb256
              have Hhalf := Lib.hid (half_cast b.toNat k hb256)
              generalize b.toNat / 2 ^ k = q at hbit hq Hhalf ⊢
              have hnx := take_next _ _ _ hbit
              have Hnx := Lib.hid hnx
              have hbv : (((q : Int) % 2) == 1) = (q % 2 == 1) := by rw [Bool.eq_iff_iff]; simp; omega
              generalize (q % 2 == 1) = bv at hbv Hnx
              have hbase := hB.size
              have hs1 : 8 * i + k + 1 ≤ maxLen := by simp only [maxLen]; omega
              have hs2 : (8 * i + k + 1) * 1 ≤ 70368744177664 := by omega
              clear hbit hnx
              go_wp2_with (at_builtin
                           refine wpList_append_any _ rfl (.tmp 36) (.tmp 40) 42 rfl w.heap.size 4 i0 (.bool false) 1 1 Tryz.underlying42 hi0 hz0 hz1 hz2 rfl (by decide) A1 _ c1 _ rfl (hown.alloc _) _ 1 1 _ rfl (reads_new _ _ _) (one_bool _) hs1 hs2 (by simp; omega) ?_
                           intro A2 c2 w2 hown2 hb2 hg2 hc2 hm2
                           rw [show [Value.bool bv] = bls [bv] from rfl, ← bls_append, ← Hnx.out] at hown2)
              go_roundw
              case rel => exact ⟨k + 1, A2, c2, by omega, by rw [← Hhalf.out], by go_num, rfl, hown2, (hB.alloc hbase _).trans hb2⟩
              case measure => simp [intOf]; omega
            · have hk8 : k = 8 := by omega
              go_wp2
              go_roundw
              case rel =>
                subst hk8
                exact ⟨i + 1, A1, c1, by omega, by go_num, rfl, hown, hB⟩
              case measure => simp [intOf]; omega
        · have hie : i = need m := by omega
          subst hie
          obtain ⟨A', c', hv, h1, h2⟩ := own_shape hown
          injection hv with hA hn hc'
          subst hA hc'
          have hrd := own_reads hown
          have hml := need_le m
          have hcut := hrd.cut (k := m) (cap := c1) hml h1
          rw [Nat.mul_one, bls_drop] at hcut
          have hhead := hrd.head (k := m) hml
          rw [Nat.mul_one, bls_take, List.take_take, Nat.min_eq_left hml] at hhead
          have hur := unpack_ref xs m (by rw [Hlen.out]; omega)
          have hmc : m ≤ c1 := by omega
          have hlenm : ((allBits xs).take m).length = m := by have := hhead.1; simpa using this
          have Hhead := Lib.hid (reads_len2 hhead)
          unfold maxLen at h2
          have hcl := countL_le (((allBits xs).take (8 * need m)).drop m)
          rw [blen hcut] at hcl
          have Hur := Lib.hid hur
          clear hur
          clear hlenm
          by_cases hcm : c1 = m
          · rw [if_pos hcm] at hcut
            have hcm1 : c1 - m = 0 := by omega
            have hcmb : c1 ≤ m := by omega
            go_wp2_with fail
            refine (Hsz.out _).mono ?_
            rintro e w' ⟨rfl, rfl⟩
            go_wp2_with fail
            with_reducible refine (refmcount_any _ _ _ _ _ hcut (by omega) (by simp only [maxLen]; omega)).mono ?_
            rintro e w' ⟨rfl, rfl⟩
            generalize countL (((allBits xs).take (8 * need m)).drop m) = q at hcl Hur ⊢
            by_cases hq : 0 < q
            · have dq : decide ((0 : Int) < (q : Int)) = true := by simp; omega
              go_wp2
              go_ret3
              rw [Hur.out, if_pos hq]
              exact ⟨none, 0, rfl, Nat.le_refl _, by simp [maxLen], Reads.none_, hB⟩
            · have dq : decide ((0 : Int) < (q : Int)) = false := by simp; omega
              have hu2 := Hur.out
              rw [if_neg hq] at hu2
              have Hu2 := Lib.hid hu2
              clear hu2
              go_wp2
              refine wp_region_order [(0, false), (1, false), (2, false), (3, false), (4, true), (5, false), (6, false), (7, false)] (by kernel_rfl) (by kernel_rfl) (by kernel_rfl) (fun d _ _ _ _ h => by cases d <;> exact h) ?_
              refine mix_pure (v := ?_) rfl rfl (by simp [Region.wanted, yielded]) ?_ ?_
              rotate_left
              · intro w; go_simp; try with_reducible rfl
              simp only [Act.put, List.setIfInBounds_toArray, List.set_cons_succ, List.set_cons_zero]
              refine mix_pure (v := ?_) rfl rfl (by simp [Region.wanted, yielded]) ?_ ?_
              rotate_left
              · intro w; go_simp; try with_reducible rfl
              simp only [Act.put, List.setIfInBounds_toArray, List.set_cons_succ, List.set_cons_zero]
              refine mix_pure (v := ?_) rfl rfl (by simp [Region.wanted, yielded]) ?_ ?_
              rotate_left
              · intro w; go_simp; try with_reducible rfl
              simp only [Act.put, List.setIfInBounds_toArray, List.set_cons_succ, List.set_cons_zero]
              refine mix_pure (v := ?_) rfl rfl (by simp [Region.wanted, yielded]) ?_ ?_
              rotate_left
              · intro w; go_simp; try with_reducible rfl
              simp only [Act.put, List.setIfInBounds_toArray, List.set_cons_succ, List.set_cons_zero]
              refine mix_eff rfl fun K hK => ?_
              go_simp
              refine (Hsz.out _).mono ?_
              rintro e w' ⟨rfl, rfl⟩
              refine hK _ _ ?_
              clear hK K
              try simp only [Act.put, List.setIfInBounds_toArray, List.set_cons_succ, List.set_cons_zero]
              refine mix_pure (v := ?_) rfl rfl (by simp [Region.wanted, yielded]) ?_ ?_
              rotate_left
              · intro w; go_simp; try with_reducible rfl
              simp only [Act.put, List.setIfInBounds_toArray, List.set_cons_succ, List.set_cons_zero]
              refine mix_pure (v := ?_) rfl rfl (by simp [Region.wanted, yielded]) ?_ ?_
              rotate_left
              · intro w; go_simp; try with_reducible rfl
              simp only [Act.put, List.setIfInBounds_toArray, List.set_cons_succ, List.set_cons_zero]
              refine mix_pure (v := ?_) rfl rfl (by simp [Region.wanted, yielded]) ?_ ?_
              rotate_left
              · intro w; go_simp; try with_reducible rfl
              simp only [Act.put, List.setIfInBounds_toArray, List.set_cons_succ, List.set_cons_zero]
              refine mix_end ?_
              go_wp2
              go_ret3
              rw [Hu2.out]
              exact ⟨A1, m, by rw [Hhead.out]; rfl, by rw [Hhead.out]; exact Nat.le_refl _, by simp only [maxLen]; omega, by rw [Hhead.out]; exact hhead.drew, hB.drew⟩
          · rw [if_neg hcm] at hcut
            go_wp2_with fail
            refine (Hsz.out _).mono ?_
            rintro e w' ⟨rfl, rfl⟩
            go_wp2_with fail
            with_reducible refine (refmcount_any _ _ _ _ _ hcut (by omega) (by simp only [maxLen]; omega)).mono ?_
            rintro e w' ⟨rfl, rfl⟩
            generalize countL (((allBits xs).take (8 * need m)).drop m) = q at hcl Hur ⊢
            by_cases hq : 0 < q
            · have dq : decide ((0 : Int) < (q : Int)) = true := by simp; omega
              go_wp2
              go_ret3
              rw [Hur.out, if_pos hq]
              exact ⟨none, 0, rfl, Nat.le_refl _, by simp [maxLen], Reads.none_, hB⟩
            · have dq : decide ((0 : Int) < (q : Int)) = false := by simp; omega
              have hu2 := Hur.out
              rw [if_neg hq] at hu2
              have Hu2 := Lib.hid hu2
              clear hu2
              go_wp2
              refine wp_region_order [(0, false), (1, false), (2, false), (3, false), (4, true), (5, false), (6, false), (7, false)] (by kernel_rfl) (by kernel_rfl) (by kernel_rfl) (fun d _ _ _ _ h => by cases d <;> exact h) ?_
              refine mix_pure (v := ?_) rfl rfl (by simp [Region.wanted, yielded]) ?_ ?_
              rotate_left
              · intro w; go_simp; try with_reducible rfl
              simp only [Act.put, List.setIfInBounds_toArray, List.set_cons_succ, List.set_cons_zero]
              refine mix_pure (v := ?_) rfl rfl (by simp [Region.wanted, yielded]) ?_ ?_
              rotate_left
              · intro w; go_simp; try with_reducible rfl
              simp only [Act.put, List.setIfInBounds_toArray, List.set_cons_succ, List.set_cons_zero]
              refine mix_pure (v := ?_) rfl rfl (by simp [Region.wanted, yielded]) ?_ ?_
              rotate_left
              · intro w; go_simp; try with_reducible rfl
              simp only [Act.put, List.setIfInBounds_toArray, List.set_cons_succ, List.set_cons_zero]
              refine mix_pure (v := ?_) rfl rfl (by simp [Region.wanted, yielded]) ?_ ?_
              rotate_left
              · intro w; go_simp; try with_reducible rfl
              simp only [Act.put, List.setIfInBounds_toArray, List.set_cons_succ, List.set_cons_zero]
              refine mix_eff rfl fun K hK => ?_
              go_simp
              refine (Hsz.out _).mono ?_
              rintro e w' ⟨rfl, rfl⟩
              refine hK _ _ ?_
              clear hK K
              try simp only [Act.put, List.setIfInBounds_toArray, List.set_cons_succ, List.set_cons_zero]
              refine mix_pure (v := ?_) rfl rfl (by simp [Region.wanted, yielded]) ?_ ?_
              rotate_left
              · intro w; go_simp; try with_reducible rfl
              simp only [Act.put, List.setIfInBounds_toArray, List.set_cons_succ, List.set_cons_zero]
              refine mix_pure (v := ?_) rfl rfl (by simp [Region.wanted, yielded]) ?_ ?_
              rotate_left
              · intro w; go_simp; try with_reducible rfl
              simp only [Act.put, List.setIfInBounds_toArray, List.set_cons_succ, List.set_cons_zero]
              refine mix_pure (v := ?_) rfl rfl (by simp [Region.wanted, yielded]) ?_ ?_
              rotate_left
              · intro w; go_simp; try with_reducible rfl
              simp only [Act.put, List.setIfInBounds_toArray, List.set_cons_succ, List.set_cons_zero]
              refine mix_end ?_
              go_wp2
              go_ret3
              rw [Hu2.out]
              exact ⟨A1, c1, by rw [Hhead.out]; rfl, by rw [Hhead.out]; exact hmc, by simp only [maxLen]; omega, by rw [Hhead.out]; exact hhead.drew, hB.drew⟩
end Go.Proofs.YtfgpbnfobpfacaaGreatDoor
/- Texts and numbers as cells. -/
set_option linter.unusedVariables false
set_option linter.unusedSimpArgs false
namespace Go.Proofs.YtfgpbnfobpfacaaGreatDoor
def txs (l : List ByteArray) : List Value := l.map Value.string
@[simp] theorem txs_length (l : List ByteArray) : (txs l).length = l.length := by simp [txs]
theorem txs_append (l m : List ByteArray) : txs (l ++ m) = txs l ++ txs m := by simp [txs]
theorem txs_take (l : List ByteArray) (k : Nat) : (txs l).take k = txs (l.take k) := by simp [txs, List.map_take]
theorem txs_drop (l : List ByteArray) (k : Nat) : (txs l).drop k = txs (l.drop k) := by simp [txs, List.map_drop]
theorem txs_set (l : List ByteArray) (i : Nat) (c : ByteArray) : (txs l).set i (.string c) = txs (l.set i c) := by simp [txs, List.map_set]
theorem txs_one (l : List ByteArray) : ∀ u ∈ txs l, u.oneCell' = true := by
  intro u hu
  simp only [txs, List.mem_map] at hu
  obtain ⟨c, _, rfl⟩ := hu
  rfl
theorem txs_get (xs : List ByteArray) (k : Nat) (v : Value) (h : (txs xs)[k]? = some v) : ∃ c : ByteArray, xs[k]? = some c ∧ v = .string c := by
  simp only [txs, List.getElem?_map, Option.map_eq_some_iff] at h
  obtain ⟨c, h1, h2⟩ := h
  exact ⟨c, h1, h2.symm⟩
theorem tlen {w : World} {B n : Nat} {A : Option Addr} {l : List ByteArray} (h : Reads w B 1 A n (txs l)) : l.length = n := by
  have := h.1
  simpa using this
def ins (l : List Int) : List Value := l.map (Value.int .i64)
@[simp] theorem ins_length (l : List Int) : (ins l).length = l.length := by simp [ins]
theorem ins_append (l m : List Int) : ins (l ++ m) = ins l ++ ins m := by simp [ins]
theorem ins_take (l : List Int) (k : Nat) : (ins l).take k = ins (l.take k) := by simp [ins, List.map_take]
theorem ins_drop (l : List Int) (k : Nat) : (ins l).drop k = ins (l.drop k) := by simp [ins, List.map_drop]
theorem ins_one (l : List Int) : ∀ u ∈ ins l, u.oneCell' = true := by
  intro u hu
  simp only [ins, List.mem_map] at hu
  obtain ⟨c, _, rfl⟩ := hu
  rfl
theorem ins_get (xs : List Int) (k : Nat) (v : Value) (h : (ins xs)[k]? = some v) : ∃ c : Int, xs[k]? = some c ∧ v = .int .i64 c := by
  simp only [ins, List.getElem?_map, Option.map_eq_some_iff] at h
  obtain ⟨c, h1, h2⟩ := h
  exact ⟨c, h1, h2.symm⟩
theorem ilen {w : World} {B n : Nat} {A : Option Addr} {l : List Int} (h : Reads w B 1 A n (ins l)) : l.length = n := by
  have := h.1
  simpa using this
end Go.Proofs.YtfgpbnfobpfacaaGreatDoor
/- The helpers of the references for texts and numbers: each one's contract. -/
set_option linter.unusedVariables false
set_option linter.unusedSimpArgs false
namespace Go.Proofs.YtfgpbnfobpfacaaGreatDoor
open Go.RowKit
theorem text_info : (Tryz.prog.info? 9).map (fun i => (i.zero, i.size, i.bytes)) = some (some (.string ⟨#[]⟩), 1, 16) := by kernel_rfl
theorem int_info : (Tryz.prog.info? 3).map (fun i => (i.zero, i.size, i.bytes)) = some (some (.int .i64 0), 1, 8) := by kernel_rfl

theorem eq_step {α : Type} {l m : List α} {k : Nat} {x y : α} (hx : l[k]? = some x) (hy : m[k]? = some y) (h : l.take k = m.take k) (hxy : x = y) : l.take (k + 1) = m.take (k + 1) := by
  rw [List.take_add_one, List.take_add_one, hx, hy, h, hxy]
theorem neq_step {α : Type} [DecidableEq α] {l m : List α} {k : Nat} {x y : α} (hx : l[k]? = some x) (hy : m[k]? = some y) (hxy : x ≠ y) : decide (l = m) = false := by
  rw [decide_eq_false_iff_not]
  intro h
  subst h
  rw [hx] at hy
  exact hxy (Option.some.inj hy)

end Go.Proofs.YtfgpbnfobpfacaaGreatDoor
/- Layer 15, walked: what the laws' cut keeps of a list of texts. -/
set_option linter.unusedVariables false
set_option linter.unusedSimpArgs false
namespace Go.Proofs.YtfgpbnfobpfacaaGreatDoor
open Go.RowKit

def cutT (s : ByteArray) : ByteArray := s.extract 0 (min s.size 200)
def cutTs (l : List ByteArray) : List ByteArray := (l.take 60).map cutT
theorem cutT_size (s : ByteArray) : (cutT s).size ≤ 200 := by
  unfold cutT
  rw [ByteArray.size_extract]
  omega
theorem cutT_eq (s : ByteArray) : s.extract 0 (min (s.size : Int) 200).toNat = cutT s := by
  unfold cutT
  rw [show (min (s.size : Int) 200).toNat = min s.size 200 from by omega]
theorem cutTs_len (l : List ByteArray) : (cutTs l).length ≤ 60 := by unfold cutTs; simp; omega
theorem cutTs_size (l : List ByteArray) : ∀ s ∈ cutTs l, s.size ≤ 200 := by
  intro s hs
  unfold cutTs at hs
  obtain ⟨t, _, rfl⟩ := List.mem_map.1 hs
  exact cutT_size t
theorem cutTs_next (l : List ByteArray) (k : Nat) (s : ByteArray) (h : l[k]? = some s) (hk : k < 60) : (cutTs l).take (k + 1) = (cutTs l).take k ++ [cutT s] := by
  rw [List.take_add_one]
  congr 1
  unfold cutTs
  rw [List.getElem?_map, List.getElem?_take, if_pos hk, h]
  rfl
theorem cutTs_length (l : List ByteArray) : (cutTs l).length = min l.length 60 := by unfold cutTs; simp [Nat.min_comm]

end Go.Proofs.YtfgpbnfobpfacaaGreatDoor
/- A map from texts to numbers that the call made: what it holds, as a plain function. Conditions: none of its own. -/
set_option linter.unusedVariables false
set_option linter.unusedSimpArgs false
namespace Go.Proofs.YtfgpbnfobpfacaaGreatDoor
open Go.RowKit
open Go.Maps (Keyed)

/-- Block g of w is a map of texts: m texts are in it (of at most n that were put), and f tells the number of each. -/
def MapS (P : Program) (k e : TypeId) (w : World) (g n m : Nat) (f : ByteArray → Option Int) : Prop :=
  ∃ D : DataW Unit, w.ownsMap P k (plainElem P e) g n D ∧ Maps.size D = m ∧ ∀ s : ByteArray, Maps.has D (.string s.data.toList) = (f s).isSome ∧ ∀ z x, f s = some x → D.atKey (.string s.data.toList) z = .lit (.int .i64 x)

theorem strLit_inj {s t : ByteArray} (h : (Lit.string s.data.toList) = .string t.data.toList) : s = t := by
  injection h with h
  cases s; cases t
  simp only at h
  congr 1
  exact Array.toList_inj.1 h
section
variable {P : Program} {k e t : TypeId} {w w' : World} {g n m : Nat} {f : ByteArray → Option Int}
theorem MapS.made (w : World) : MapS P k e (w.alloc (.map #[] 0)) w.heap.size 0 0 (fun _ => none) :=
  ⟨.map [], World.ownsMap_made _ _ _ _, rfl, fun s => ⟨rfl, fun z x h => by cases h⟩⟩
theorem MapS.lt (h : MapS P k e w g n m f) : g < w.heap.size := h.choose_spec.1.lt
theorem MapS.block (h : MapS P k e w g n m f) (hb : w'.heap[g]? = w.heap[g]?) : MapS P k e w' g n m f := by
  obtain ⟨D, ⟨es, clock, h1, h2⟩, h3⟩ := h
  exact ⟨D, ⟨es, clock, hb.trans h1, h2⟩, h3⟩
theorem MapS.below {B : Nat} (h : MapS P k e w g n m f) (hb : Below B w w') (hg : g < B) : MapS P k e w' g n m f := h.block (hb.block g hg)
theorem MapS.on (h : MapS P k e w g n m f) (hb : Below w.heap.size w w') : MapS P k e w' g n m f := h.below hb h.lt
theorem MapS.al (h : MapS P k e w g n m f) (o : Obj) : MapS P k e (w.alloc o) g n m f := h.on ((Below.refl _ _).alloc (Nat.le_refl _) o)
theorem MapS.drew (h : MapS P k e w g n m f) : MapS P k e w.drew g n m f := h.block rfl
theorem MapS.grown (h : MapS P k e w g n m f) {row : Option Nat} (hg : w.grownBy w' row) (hne : some g ≠ row) : MapS P k e w' g n m f := by
  obtain ⟨D, h1, h2⟩ := h
  exact ⟨D, h1.kept hg hne, h2⟩
theorem MapS.set (h : MapS P k e w g n m f) {a : Addr} (ha : g ≠ a.block) (u : Value) : MapS P k e (w.setCell a u) g n m f := by
  obtain ⟨D, h1, h2⟩ := h
  exact ⟨D, h1.setCell ha u, h2⟩
theorem MapS.mono (h : MapS P k e w g n m f) {n' : Nat} (hn : n ≤ n') : MapS P k e w g n' m f := by
  obtain ⟨D, h1, h2⟩ := h
  exact ⟨D, h1.mono hn, h2⟩
theorem MapS.same (h : MapS P k e w g n m f) {f' : ByteArray → Option Int} (hf : ∀ s, f' s = f s) : MapS P k e w g n m f' := by
  obtain rfl : f' = f := funext hf
  exact h
theorem MapS.wf (h : MapS P k e w g n m f) (he : P.underlying e = some (.int .i64)) (hk : P.underlying k = some .string) (ht : P.underlying t = some (.map k e)) (hz : (zeroValue e).run P w = .ok (.int .i64 0) w) (s : ByteArray) (hs : s.size ≤ maxLen) :
    (Instr.lookup t (.map (some g)) (.string s) true).run P w = .ok (.tuple #[.int .i64 ((f s).getD 0), .bool (f s).isSome]) w ∧
    (Instr.lookup t (.map (some g)) (.string s) false).run P w = .ok (.int .i64 ((f s).getD 0)) w := by
  obtain ⟨D, h1, h2, h3⟩ := h
  have hkey := WideMaps.keyOf_string_mk hk hs
  have hw0 : (Lit.int .i64 0).wf = true := by decide
  obtain ⟨v, ps, hrun, hv⟩ := h1.look_ok (string_keyed' hk) ht hz (plainElem_int he hw0) hkey
  obtain ⟨c, rfl, hc, hwc⟩ := plainElem_int_inv he hv
  simp only [Prod.mk.injEq] at hc
  obtain ⟨c', hrun', hat', -⟩ := h1.lookup_int (string_keyed' hk) ht he hz hkey
  have hcc : c' = c := by
    have := hat'.symm.trans hc.1
    simpa using this
  subst hcc
  have hval : c' = (f s).getD 0 := by
    rcases hf : f s with _ | x
    · have hno := (h3 s).1
      rw [hf] at hno
      have := Maps.atKey_of_not_has hno (.lit (.int .i64 0))
      rw [this] at hat'
      simpa using hat'.symm
    · have := (h3 s).2 (.lit (.int .i64 0)) x hf
      rw [this] at hat'
      simpa using hat'.symm
  rw [hrun, hrun', (h3 s).1, hval]
  exact ⟨rfl, rfl⟩
 where string_keyed' {k : TypeId} (hk : P.underlying k = some .string) : Keyed P k := Maps.string_keyed hk
theorem MapS.len_ (h : MapS P k e w g n m f) (ht : P.underlying t = some (.map k e)) (ty : TypeId) : (Builtin.len_ #[t] ty #[.map (some g)]).run P w = .ok (.int .i64 (m : Int)) w := by
  obtain ⟨D, h1, h2, h3⟩ := h
  rw [h1.len ht ty, h2]
theorem MapS.store (h : MapS P k e w g n m f) (he : P.underlying e = some (.int .i64)) (hk : P.underlying k = some .string) (ht : P.underlying t = some (.map k e)) (hn : n < maxLen) (s : ByteArray) (hs : s.size ≤ maxLen) (x : Int) (hx : (Lit.int .i64 x).wf = true) :
    ∃ w', (Instr.mapUpdate t (.map (some g)) (.string s) (.int .i64 x)).run P w = .ok () w' ∧ MapS P k e w' g (n + 1) (if (f s).isSome then m else m + 1) (fun r => if r = s then some x else f r) ∧ w.grownBy w' (some g) := by
  obtain ⟨D, h1, h2, h3⟩ := h
  have hkey := WideMaps.keyOf_string_mk hk hs
  obtain ⟨w', hrun, hown, hg⟩ := h1.update (Maps.string_keyed hk) ht hn hkey (plainElem_int he hx)
  refine ⟨w', hrun, ⟨_, hown, ?_, fun r => ?_⟩, hg⟩
  · rw [Maps.size_put (h1.tidy (Maps.string_keyed hk)), (h3 s).1, h2]
  · by_cases hr : r = s
    · subst hr
      dsimp only
      rw [if_pos rfl]
      refine ⟨Maps.has_put_same h1.isMap (by trivial) _, fun z y hy => ?_⟩
      rw [Maps.atKey_put_same h1.isMap (by trivial)]
      simpa using hy
    · dsimp only
      rw [if_neg hr]
      have hne : (Lit.string r.data.toList) ≠ .string s.data.toList := fun e => hr (strLit_inj e)
      refine ⟨(Maps.has_put_other hne _).trans (h3 r).1, fun z y hy => ?_⟩
      rw [Maps.atKey_put_other hne]
      exact (h3 r).2 z y hy
end
section
variable {P : Program} {k e : TypeId} {w : World} {g n m : Nat} {f : ByteArray → Option Int}
theorem wpList_mapS_store {ops : Array Oper} {rest : List Oper} {o : Oper} {a : Act} {Q : Exit → Act → World → Prop}
    (hg : o.guard = none) (mo x v : Operand) (t : TypeId) (hop : o.op = Op.mapUpdate t mo x v) (h : MapS P k e w g n m f) (he : P.underlying e = some (.int .i64)) (hk : P.underlying k = some .string) (ht : P.underlying t = some (.map k e)) (hn : n < maxLen)
    (s : ByteArray) (hs : s.size ≤ maxLen) (y : Int) (hy : (Lit.int .i64 y).wf = true) (hm : a.eval mo = .map (some g)) (hx : a.eval x = .string s) (hv : a.eval v = .int .i64 y)
    (hK : ∀ w', MapS P k e w' g (n + 1) (if (f s).isSome then m else m + 1) (fun r => if r = s then some y else f r) → w.grownBy w' (some g) → wpList P ops Q rest (a.put o.dst undef) w') :
    wpList P ops Q (o :: rest) a w := by
  refine wpList_plain hg fun K' hK' => ?_
  obtain ⟨w', hrun, r1, r2⟩ := h.store he hk ht hn s hs y hy
  unfold Oper.wp
  simp [execOp, hop, hm, hx, hv, hrun, Result.andThen]
  exact hK' _ _ (hK w' r1 r2)
theorem wpList_mapS_ok {ops : Array Oper} {rest : List Oper} {o : Oper} {a : Act} {Q : Exit → Act → World → Prop}
    (hg : o.guard = none) (mo x : Operand) (t : TypeId) (hop : o.op = Op.lookup t mo x true) (h : MapS P k e w g n m f) (he : P.underlying e = some (.int .i64)) (hk : P.underlying k = some .string) (ht : P.underlying t = some (.map k e)) (hz : (zeroValue e).run P w = .ok (.int .i64 0) w)
    (s : ByteArray) (hs : s.size ≤ maxLen) (r : Option Int) (hr : f s = r) (hm : a.eval mo = .map (some g)) (hx : a.eval x = .string s)
    (hK : wpList P ops Q rest (a.put o.dst (.tuple #[.int .i64 (r.getD 0), .bool r.isSome])) w) :
    wpList P ops Q (o :: rest) a w := by
  subst hr
  refine wpList_plain hg fun K' hK' => ?_
  have hrun := (h.wf he hk ht hz s hs).1
  unfold Oper.wp
  simp [execOp, hop, hm, hx, hrun, Result.andThen]
  exact hK' _ _ hK
theorem wpList_mapS_get {ops : Array Oper} {rest : List Oper} {o : Oper} {a : Act} {Q : Exit → Act → World → Prop}
    (hg : o.guard = none) (mo x : Operand) (t : TypeId) (hop : o.op = Op.lookup t mo x false) (h : MapS P k e w g n m f) (he : P.underlying e = some (.int .i64)) (hk : P.underlying k = some .string) (ht : P.underlying t = some (.map k e)) (hz : (zeroValue e).run P w = .ok (.int .i64 0) w)
    (s : ByteArray) (hs : s.size ≤ maxLen) (r : Option Int) (hr : f s = r) (hm : a.eval mo = .map (some g)) (hx : a.eval x = .string s)
    (hK : wpList P ops Q rest (a.put o.dst (.int .i64 (r.getD 0))) w) :
    wpList P ops Q (o :: rest) a w := by
  subst hr
  refine wpList_plain hg fun K' hK' => ?_
  have hrun := (h.wf he hk ht hz s hs).2
  unfold Oper.wp
  simp [execOp, hop, hm, hx, hrun, Result.andThen]
  exact hK' _ _ hK
end
/-! ### Rows and maps of the call's own, side by side -/
theorem own_apart {w w' : World} {base base2 : Nat} {e e2 : TypeId} {v v2 : Value} {n n2 size size2 : Nat} {xs ys : List Value} (h : w.ownsRow base e size v n xs) (h2 : w.ownsRow base2 e2 size2 v2 n2 ys) (hne : e ≠ e2) (hg : w.grownBy w' v2.ownBlock) : w'.ownsRow base e size v n xs := by
  refine h.kept hg ?_
  rcases h.2 with ⟨rfl, _⟩ | ⟨g, cap, cur, rfl, _, hh, _⟩
  · exact .inl rfl
  · right
    rcases h2.2 with ⟨rfl, _⟩ | ⟨g2, cap2, cur2, rfl, _, hh2, _⟩
    · simp [Value.ownBlock]
    · simp only [Value.ownBlock, ne_eq, Option.some.injEq]
      rintro rfl
      rw [hh] at hh2
      injection hh2 with hh2
      injection hh2 with _ h3
      exact hne h3
theorem MapS.apart {P : Program} {k e : TypeId} {w : World} {g n m : Nat} {f : ByteArray → Option Int} (h : MapS P k e w g n m f) {base : Nat} {e2 : TypeId} {size n2 : Nat} {v : Value} {ys : List Value} (h2 : w.ownsRow base e2 size v n2 ys) : some g ≠ v.ownBlock := by
  obtain ⟨D, ⟨es, clock, h1, -⟩, -⟩ := h
  rcases h2.2 with ⟨rfl, _⟩ | ⟨g2, cap2, cur2, rfl, _, hh2, _⟩
  · simp [Value.ownBlock]
  · simp only [Value.ownBlock, ne_eq, Option.some.injEq]
    rintro rfl
    rw [h1] at hh2
    injection hh2 with hh2
    cases hh2
theorem own_map {P : Program} {k e : TypeId} {w w' : World} {g n m : Nat} {f : ByteArray → Option Int} (h : MapS P k e w g n m f) {base : Nat} {e2 : TypeId} {size n2 : Nat} {v : Value} {ys : List Value} (h2 : w.ownsRow base e2 size v n2 ys) (hg : w.grownBy w' (some g)) : w'.ownsRow base e2 size v n2 ys :=
  h2.kept hg (.inr (h.apart h2).symm)
end Go.Proofs.YtfgpbnfobpfacaaGreatDoor
/- Layer 15, walked: Split of the program and of the reference. -/
set_option linter.unusedVariables false
set_option linter.unusedSimpArgs false
namespace Go.Proofs.YtfgpbnfobpfacaaGreatDoor
open Go.RowKit

def nns (l : List Nat) : List Value := l.map fun (n : Nat) => Value.int .i64 (n : Int)
@[simp] theorem nns_length (l : List Nat) : (nns l).length = l.length := by simp [nns]
theorem nns_append (l m : List Nat) : nns (l ++ m) = nns l ++ nns m := by simp [nns]
theorem nns_ins (l : List Nat) : nns l = ins (l.map Int.ofNat) := by simp [nns, ins]

theorem placeL_take_miss {d : List ByteArray} {s x : ByteArray} {k : Nat} (h : placeL (d.take k) s = none) (hx : d[k]? = some x) (hne : x ≠ s) : placeL (d.take (k + 1)) s = none := by
  rw [placeL_none] at h ⊢
  rw [List.take_add_one, hx, List.mem_append, not_or]
  refine ⟨h, ?_⟩
  simp only [Option.toList_some, List.mem_singleton]
  exact fun e => hne e.symm
theorem placeL_take_hit : ∀ {d : List ByteArray} {s : ByteArray} {k : Nat} (h : placeL (d.take k) s = none) (hx : d[k]? = some s), placeL d s = some k
  | x :: r, s, 0, h, hx => by
    obtain rfl : x = s := by simpa using hx
    simp [placeL]
  | x :: r, s, k + 1, h, hx => by
    rw [List.take_succ_cons, placeL] at h
    split at h
    · cases h
    · rename_i hne
      rw [Option.map_eq_none_iff] at h
      rw [placeL, if_neg hne, placeL_take_hit h (by simpa using hx)]
      rfl
def placeI (d : List ByteArray) (s : ByteArray) : Int := match placeL d s with | some k => (k : Int) | none => -1

set_option maxRecDepth 100000 in
set_option maxHeartbeats 400000 in
theorem place_any (A : Option Addr) (n c : Nat) (d : List ByteArray) (s : ByteArray) (w : World) (hr : Reads w w.heap.size 1 A n (txs d)) (hn : n ≤ maxLen) :
    Calls Tryz.prog 106 #[.slice A n c, .string s] w fun e w' => e = .returned (.int .i64 (placeI d s)) ∧ w = w' := by
  unfold maxLen at hn
  have Hlen := Lib.hid (tlen hr)
  go_enter Tryz.func106, Tryz.ntmps106
  go_wp2
  go_loop [5] (fun i => ∃ k : Nat, k ≤ n ∧ i = .int .i64 (k : Int) ∧ Hid (placeL (d.take k) s = none)) (fun i => n - (intOf i).toNat)
  case atStart => exact ⟨0, Nat.zero_le _, rfl, Lib.hid rfl⟩
  case round =>
    obtain ⟨k, hk, rfl, hno⟩ := hrel
    by_cases hlt : k < n
    · obtain ⟨ad, v, rfl, hbk, hx, hcell⟩ := hr.at_ hlt
      obtain ⟨x, hx', rfl⟩ := txs_get _ _ _ hx
      clear hx
      by_cases hxs : x = s
      · subst hxs
        have Hp := Lib.hid (placeL_take_hit hno.out hx')
        clear hx'
        go_wp2
        go_ret
        exact ⟨by unfold placeI; rw [Hp.out]; rfl, rfl⟩
      · have Hp := Lib.hid (placeL_take_miss hno.out hx' hxs)
        have hne : (x.toList == s.toList) = false := by rw [Lib.bytes_beq_false_iff]; exact hxs
        clear hx' hxs
        go_wp2
        go_round
        case rel => exact ⟨k + 1, by omega, by go_num, Hp⟩
        case measure => simp [intOf]; omega
    · have hkn : k = n := by omega
      have he := hno.out
      subst hkn
      rw [List.take_of_length_le (by rw [Hlen.out]; exact Nat.le_refl _)] at he
      have He := Lib.hid he
      clear he
      go_wp2
      go_ret
      exact ⟨by unfold placeI; rw [He.out]; rfl, rfl⟩

/-- What Split hands back. -/
def Parted (l : List ByteArray) (w : World) (e : Ending) (w' : World) : Prop :=
  ∃ (A : Option Addr) (c : Nat) (A2 : Option Addr) (c2 : Nat), e = .returned (.tuple #[.slice A (splitL l).1.length c, .slice A2 l.length c2]) ∧ (splitL l).1.length ≤ c ∧ c ≤ maxLen ∧ l.length ≤ c2 ∧ c2 ≤ maxLen ∧
    w'.ownsRow w.heap.size 9 1 (.slice A (splitL l).1.length c) (splitL l).1.length (txs (splitL l).1) ∧ w'.ownsRow w.heap.size 3 1 (.slice A2 l.length c2) l.length (nns (splitL l).2) ∧ Below w.heap.size w w'

theorem splitL_len (l : List ByteArray) : (splitL l).1.length ≤ l.length ∧ (splitL l).2.length = l.length := by
  have h : ∀ (l : List ByteArray) (st : List ByteArray × List Nat), (l.foldl splitStep st).1.length ≤ st.1.length + l.length ∧ (l.foldl splitStep st).2.length = st.2.length + l.length := by
    intro l
    induction l with
    | nil => intro st; simp
    | cons s l ih =>
      intro st
      rw [List.foldl_cons]
      have := ih (splitStep st s)
      have h2 : (splitStep st s).1.length ≤ st.1.length + 1 ∧ (splitStep st s).2.length = st.2.length + 1 := by
        unfold splitStep
        split <;> simp
      simp only [List.length_cons]
      omega
  have := h l ([], [])
  simpa [splitL] using this
theorem splitL_take (l : List ByteArray) (k : Nat) (s : ByteArray) (h : l[k]? = some s) : splitL (l.take (k + 1)) = splitStep (splitL (l.take k)) s := by
  rw [List.take_add_one, h]
  exact splitL_snoc _ _
theorem one_text (s : ByteArray) : ∀ u ∈ [Value.string s], u.oneCell' = true := txs_one [s]

set_option maxRecDepth 100000 in
set_option maxHeartbeats 1000000 in
theorem refsplit_any (A : Option Addr) (n c : Nat) (l : List ByteArray) (w : World) (hr : Reads w w.heap.size 1 A n (txs l)) (hn : n ≤ 1099511627776) :
    Calls Tryz.prog 100 #[.slice A n c] w (Parted l w) := by
  obtain ⟨i0, hi0, hz0, hz1, hz2⟩ := info_parts text_info
  obtain ⟨j0, hj0, hy0, hy1, hy2⟩ := info_parts int_info
  have Hlen := Lib.hid (tlen hr)
  go_enter Tryz.func100, Tryz.ntmps100
  go_wp2
  go_loopw [4, 5, 6] (fun u v i wr => ∃ (k nd : Nat) (A1 : Option Addr) (c1 : Nat) (A2 : Option Addr) (c2 : Nat) (d : List ByteArray) (ns : List Nat), k ≤ n ∧ nd ≤ k ∧ i = .int .i64 (k : Int) ∧ u = .slice A1 nd c1 ∧ v = .slice A2 k c2 ∧ Hid (splitL (l.take k) = (d, ns)) ∧
    wr.ownsRow w.heap.size 9 1 (.slice A1 nd c1) nd (txs d) ∧ wr.ownsRow w.heap.size 3 1 (.slice A2 k c2) k (nns ns) ∧ Below w.heap.size w wr) (fun _ _ i _ => n - (intOf i).toNat)
  case atStart => exact ⟨0, 0, none, 0, none, 0, [], [], Nat.zero_le _, Nat.zero_le _, rfl, rfl, rfl, Lib.hid rfl, World.ownsRow_nil _ _ _ _, World.ownsRow_nil _ _ _ _, Below.refl _ _⟩
  case round =>
    obtain ⟨k, nd, A1, c1, A2, c2, d, ns, hk, hnd, rfl, rfl, rfl, hs, hown, hown2, hB⟩ := hrel
    by_cases hlt : k < n
    · obtain ⟨ad, v, rfl, hbk, hx, hcell⟩ := hr.at_ hlt
      rw [← hB.cell (p := ad.add k) (by rw [block_of_add]; exact hbk)] at hcell
      obtain ⟨s, hs', rfl⟩ := txs_get _ _ _ hx
      have hst := splitL_take l k s hs'
      rw [hs.out] at hst
      clear hx hs' hbk hs
      have hbase := hB.size
      have hs1 : nd + 1 ≤ maxLen := by simp only [maxLen]; omega
      have hs2 : (nd + 1) * 16 ≤ 70368744177664 := by omega
      have hs3 : k + 1 ≤ maxLen := by simp only [maxLen]; omega
      have hs4 : (k + 1) * 8 ≤ 70368744177664 := by omega
      have Hdl := Lib.hid (show d.length = nd from by have := hown.1; simpa using this)
      rcases hp : placeL d s with _ | j
      · have hpi : placeI d s = -1 := by unfold placeI; rw [hp]
        have hst2 : splitL (l.take (k + 1)) = (d ++ [s], ns ++ [nd]) := by rw [hst]; unfold splitStep; simp only [hp]; rw [Hdl.out]
        have Hst := Lib.hid hst2
        have Hpi := Lib.hid hpi
        clear hst hst2 hpi hp
        go_wp2_with fail
        with_reducible refine (place_any _ nd c1 d s _ (own_reads hown) (by simp only [maxLen]; omega)).mono ?_
        rintro e w' ⟨rfl, rfl⟩
        rw [Hpi.out]
        go_wp2_with (first
          | (at_builtin
             refine wpList_append_any _ rfl (.tmp 24) (.tmp 29) 93 rfl w.heap.size 9 i0 (.string ⟨#[]⟩) 1 16 Tryz.underlying93 hi0 hz0 hz1 hz2 rfl (by decide) A1 nd c1 _ rfl (hown.alloc _) _ 1 1 [.string s] rfl (reads_new _ _ _) (one_text s) hs1 hs2 (by simp; omega) ?_
             intro A3 c3 w3 hown3 hb3 hg3 hc3 hm3
             replace hown2 := own_apart (hown2.alloc (.cells #[.string s] 9)) (hown.alloc _) (by decide) hg3
             have hB3 := (hB.alloc hbase (.cells #[.string s] 9)).trans hb3
             have hbase3 := hB3.size)
          | (at_builtin
             refine wpList_append_any _ rfl (.tmp 31) (.tmp 33) 119 rfl w.heap.size 3 j0 (.int .i64 0) 1 8 Tryz.underlying119 hj0 hy0 hy1 hy2 rfl (by decide) A2 k c2 _ rfl (hown2.alloc _) _ 1 1 [.int .i64 (nd : Int)] rfl (reads_new _ _ _) (one_int _ _) hs3 hs4 (by simp; omega) ?_
             intro A4 c4 w4 hown4 hb4 hg4 hc4 hm4))
        replace hown3 := own_apart (hown3.alloc (.cells #[.int .i64 (nd : Int)] 3)) (hown2.alloc _) (by decide) hg4
        have hB4 := (hB3.alloc hbase3 (.cells #[.int .i64 (nd : Int)] 3)).trans hb4
        rw [show txs d ++ [Value.string s] = txs (d ++ [s]) from by simp [txs]] at hown3
        rw [show nns ns ++ [Value.int .i64 (nd : Int)] = nns (ns ++ [nd]) from by simp [nns]] at hown4
        go_roundw
        case rel => exact ⟨k + 1, nd + 1, A3, c3, A4, c4, _, _, by omega, by omega, by go_num, rfl, rfl, Hst, hown3, hown4, hB4⟩
        case measure => simp [intOf]; omega
      · have hpi : placeI d s = (j : Int) := by unfold placeI; rw [hp]
        have hst2 : splitL (l.take (k + 1)) = (d, ns ++ [j]) := by rw [hst]; unfold splitStep; simp only [hp]
        have Hst := Lib.hid hst2
        have Hpi := Lib.hid hpi
        clear hst hst2 hpi hp
        go_wp2_with fail
        with_reducible refine (place_any _ nd c1 d s _ (own_reads hown) (by simp only [maxLen]; omega)).mono ?_
        rintro e w' ⟨rfl, rfl⟩
        rw [Hpi.out]
        go_wp2_with (at_builtin
                     refine wpList_append_any _ rfl (.tmp 31) (.tmp 33) 119 rfl w.heap.size 3 j0 (.int .i64 0) 1 8 Tryz.underlying119 hj0 hy0 hy1 hy2 rfl (by decide) A2 k c2 _ rfl (hown2.alloc _) _ 1 1 [.int .i64 (j : Int)] rfl (reads_new _ _ _) (one_int _ _) hs3 hs4 (by simp; omega) ?_
                     intro A4 c4 w4 hown4 hb4 hg4 hc4 hm4)
        replace hown := own_apart (hown.alloc (.cells #[.int .i64 (j : Int)] 3)) (hown2.alloc _) (by decide) hg4
        have hB4 := (hB.alloc hbase (.cells #[.int .i64 (j : Int)] 3)).trans hb4
        rw [show nns ns ++ [Value.int .i64 (j : Int)] = nns (ns ++ [j]) from by simp [nns]] at hown4
        go_roundw
        case rel => exact ⟨k + 1, nd, A1, c1, A4, c4, _, _, by omega, by omega, by go_num, rfl, rfl, Hst, hown, hown4, hB4⟩
        case measure => simp [intOf]; omega
    · have hkn : k = n := by omega
      subst hkn
      have hs2 := hs.out
      rw [List.take_of_length_le (by rw [Hlen.out]; exact Nat.le_refl _)] at hs2
      have H2 := Lib.hid hs2
      have Hdl := Lib.hid (show d.length = nd from by have := hown.1; simpa using this)
      obtain ⟨_, _, hv, h1, h2⟩ := own_shape hown
      injection hv with hA hn hc'
      subst hA hc'
      obtain ⟨_, _, hv, h3, h4⟩ := own_shape hown2
      injection hv with hA hn hc'
      subst hA hc'
      clear hs2
      go_wp2
      go_ret2
      unfold Parted
      rw [H2.out, Hlen.out]
      simp only [Hdl.out]
      exact ⟨A1, c1, A2, c2, rfl, h1, h2, h3, h4, hown, hown2, hB⟩
end Go.Proofs.YtfgpbnfobpfacaaGreatDoor
