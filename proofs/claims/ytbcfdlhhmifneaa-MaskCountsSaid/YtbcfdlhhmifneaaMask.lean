/- Layer 14, walked: each function's contract. -/
import Derived.Test.YtbcfdlhhmifneaaBase
import Derived.Test.YtbcfdlhhmifneaaMaskPure
import Derived.Test.YtbcfdlhhmifneaaOrder
set_option linter.unusedVariables false
set_option linter.unusedSimpArgs false
namespace Go.Proofs.Ytbcfdlhhmifneaa
open Go.RowKit
theorem bool_info : (Try.prog.info? 4).map (fun i => (i.zero, i.size, i.bytes)) = some (some (.bool false), 1, 1) := by kernel_rfl

theorem need_cast (n : Nat) : ((n : Int) + 8 - 1) / 8 = ((need n : Nat) : Int) := by unfold need; omega
set_option maxRecDepth 100000 in
set_option maxHeartbeats 400000 in
theorem need_any (n : Nat) (w : World) (hn : n ≤ 4611686018427387904) :
    Calls Try.prog 24 #[.int .i64 (n : Int)] w fun e w' => e = .returned (.int .i64 ((need n : Nat) : Int)) ∧ w = w' := by
  go_enter Try.func24, Try.ntmps24
  go_wp2
  go_ret
  exact ⟨by rw [← need_cast]; rfl, rfl⟩

set_option maxRecDepth 100000 in
set_option maxHeartbeats 400000 in
theorem msize_any (n : Int) (w : World) (h1 : -9223372036854775808 ≤ n) (h2 : n ≤ 9223372036854775807) :
    Calls Try.prog 17 #[.int .i64 n] w fun e w' => e = .returned (.int .i64 ((sizeL n : Nat) : Int)) ∧ w = w' := by
  by_cases h : n < 0 ∨ 1048576 < n
  · have hs : sizeL n = 0 := by unfold sizeL; rw [if_pos h]
    rw [hs]
    rcases h with h | h
    all_goals
      go_enter Try.func17, Try.ntmps17
      go_wp2
      go_ret
      exact ⟨rfl, rfl⟩
  · have hs : sizeL n = need n.toNat := by unfold sizeL; rw [if_neg h]
    rw [hs]
    obtain ⟨m, rfl⟩ := Int.eq_ofNat_of_zero_le (by omega : 0 ≤ n)
    rw [Int.toNat_natCast]
    clear hs h1 h2
    have hm : m ≤ 1048576 := by omega
    clear h
    go_enter Try.func17, Try.ntmps17
    go_wp2_with fail
    with_reducible refine (need_any m _ (by omega)).mono ?_
    rintro e w' ⟨rfl, rfl⟩
    go_wp2
    go_ret
    exact ⟨rfl, rfl⟩
set_option maxRecDepth 100000 in
set_option maxHeartbeats 400000 in
theorem refmsize_any (n : Int) (w : World) (h1 : -9223372036854775808 ≤ n) (h2 : n ≤ 9223372036854775807) :
    Calls Try.prog 18 #[.int .i64 n] w fun e w' => e = .returned (.int .i64 ((sizeL n : Nat) : Int)) ∧ w = w' := by
  by_cases h : n < 0 ∨ 1048576 < n
  · have hs : sizeL n = 0 := by unfold sizeL; rw [if_pos h]
    rw [hs]
    rcases h with h | h
    all_goals
      go_enter Try.func18, Try.ntmps18
      go_wp2
      go_ret
      exact ⟨rfl, rfl⟩
  · have hs : sizeL n = need n.toNat := by unfold sizeL; rw [if_neg h]
    rw [hs]
    obtain ⟨m, rfl⟩ := Int.eq_ofNat_of_zero_le (by omega : 0 ≤ n)
    rw [Int.toNat_natCast]
    clear hs h1 h2
    have hm : m ≤ 1048576 := by omega
    clear h
    have hc : ((m : Int) + 7) / 8 = ((need m : Nat) : Int) := by unfold need; omega
    have Hc := Lib.hid hc
    clear hc
    go_enter Try.func18, Try.ntmps18
    go_wp2
    go_ret
    exact ⟨by rw [← Hc.out]; rfl, rfl⟩

/-- How a byte of bits takes in one more. -/
theorem bit_or (x s : Nat) (hx : x < 2 ^ s) (hs : s < 8) : bits .or .u8 (x : Int) (2 ^ s) = ((x + 2 ^ s : Nat) : Int) := by
  have h2 : (2 : Nat) ^ s ≤ 2 ^ 7 := Nat.pow_le_pow_right (by omega) (by omega)
  have e : ((2 : Int) ^ s) = ((2 ^ s : Nat) : Int) := by rw [Int.natCast_pow]; rfl
  rw [e, u8_or_nat _ _ (by omega) (by omega)]
  have := nat_join s (2 ^ s) x (Nat.mod_self _) hx
  rw [Nat.or_comm, this, Nat.add_comm]

set_option maxRecDepth 100000 in
set_option maxHeartbeats 1000000 in
theorem mpack_any (A : Option Addr) (l c : Nat) (xs : List Bool) (w : World) (hr : Reads w w.heap.size 1 A l (bls xs)) (hl : l ≤ c) (hc : c ≤ maxLen) (hb : l ≤ 1099511627776) :
    Calls Try.prog 11 #[.slice A l c] w fun e w' => ∃ A' c', e = .returned (.slice A' (packL xs).length c') ∧ (packL xs).length ≤ c' ∧ c' ≤ maxLen ∧
      w'.ownsRow w.heap.size 5 1 (.slice A' (packL xs).length c') (packL xs).length (u8s (packL xs)) ∧ Below w.heap.size w w' := by
  obtain ⟨i0, hi0, hz0, hz1, hz2⟩ := info_parts u8_info
  unfold maxLen at hc
  have hlen := blen hr
  have Hlen := Lib.hid hlen
  have hN : need l ≤ 1099511627776 := by unfold need; omega
  have hmk := fun W : World => run_make (P := Try.prog) W 24 5 i0 (.int .u8 0) Try.underlying24 hi0 hz0 .i64 .i64 ((need l : Nat) : Int) ((need l : Nat) : Int) (by omega) (by omega) (by rw [hz2]; omega) (by omega)
  simp only [Int.toNat_natCast, hz1, Nat.mul_one] at hmk
  clear hlen
  go_enter Try.func11, Try.ntmps11
  go_wp2_with fail
  with_reducible refine (need_any l _ (by omega)).mono ?_
  rintro e w' ⟨rfl, rfl⟩
  go_wp2
  go_loopw [12] (fun v wr => ∃ i : Nat, i ≤ l ∧ v = .int .i64 (i : Int) ∧ Blk wr w.heap.size 5 (u8s (packF (need l) (xs.take i))).toArray ∧ Below w.heap.size w wr) (fun v _ => l - (intOf v).toNat)
  case atStart =>
    refine ⟨0, Nat.zero_le _, rfl, ?_, (Below.refl _ _).alloc (Nat.le_refl _) _⟩
    have e : madeCells #[Value.int .u8 0] (need l) = (u8s (packF (need l) (xs.take 0))).toArray := by
      apply Array.ext'
      rw [toList_madeCells_one, packF_none]
      simp [u8s]
    rw [← e]
    exact Blk.new _ _ _
  case round =>
    obtain ⟨i, hi, rfl, hblk, hB⟩ := hrel
    by_cases hlt : i < l
    · obtain ⟨ad, v, rfl, hbk, hx, hcell⟩ := hr.at_ hlt
      rw [← hB.cell (p := ad.add i) (by rw [block_of_add]; exact hbk)] at hcell
      obtain ⟨b, hb', rfl⟩ := bls_get _ _ _ hx
      have hf : i / 8 < need l := by unfold need; omega
      clear hx hbk
      cases b with
      | false =>
        have hs := Lib.hid (packF_false (need l) xs i hb' hf)
        clear hb'
        go_wp2
        go_roundw
        case rel => exact ⟨i + 1, by omega, by go_num, by rw [hs.out]; exact hblk, hB⟩
        case measure => simp [intOf]; omega
      | true =>
        obtain ⟨s1, s2, s3⟩ := packF_step (need l) xs i true hb' hf
        generalize byteOf (chunk xs i (i / 8)) = x at s1 s2 s3
        have hx8 : x < 256 := by
          have : 2 ^ (i % 8) ≤ 2 ^ 8 := Nat.pow_le_pow_right (by omega) (by omega)
          omega
        have hold : wr.cell? ⟨w.heap.size, i / 8, none⟩ = some (.int .u8 (x : Int)) := by
          rw [hblk.cell]
          simp [u8s, s3, Nat.mod_eq_of_lt hx8]
        have hfz := hblk.frozen (i / 8)
        have S1 := Lib.hid s1
        have S2 := Lib.hid s2
        clear s1 s2 s3 hb'
        go_wp2
        go_region
        have hv : bits .or .u8 (x : Int) ((2 : Int) ^ (i % 8) % 256) = ((UInt8.ofNat (x + 2 ^ (i % 8))).toNat : Int) := by
          have h2 : (2 : Nat) ^ (i % 8) ≤ 2 ^ 7 := Nat.pow_le_pow_right (by omega) (by omega)
          have e : ((2 : Int) ^ (i % 8)) % 256 = (2 : Int) ^ (i % 8) := by
            have e : ((2 : Int) ^ (i % 8)) = ((2 ^ (i % 8) : Nat) : Int) := by rw [Int.natCast_pow]; rfl
            rw [e]
            generalize 2 ^ (i % 8) = q at h2 ⊢
            omega
          have := S2.out
          rw [e, bit_or x (i % 8) S2.out (by omega), ofNat_toNat' _ (by omega)]
        rw [hv]
        have hblk2 := (hblk.set_ (i / 8) (.int .u8 ((UInt8.ofNat (x + 2 ^ (i % 8))).toNat : Int))).drew
        have hB2 := (bset (p := ⟨w.heap.size, i / 8, none⟩) hB (Nat.le_refl _) (.int .u8 ((UInt8.ofNat (x + 2 ^ (i % 8))).toNat : Int))).drew
        have hs1 := S1.out
        rw [if_pos trivial] at hs1
        rw [List.setIfInBounds_toArray, u8s_set, ← hs1] at hblk2
        clear hs1 hblk hB
        go_wp2
        go_roundw
        case rel => exact ⟨i + 1, by omega, by go_num, hblk2, hB2⟩
        case measure => simp [intOf]; omega
    · go_wp2
      go_ret
      have hil : xs.take i = xs := List.take_of_length_le (by rw [Hlen.out]; omega)
      rw [hil] at hblk
      have hpl : (packL xs).length = need l := by rw [packL_length, Hlen.out]
      have hpe : packF (need l) xs = packL xs := by rw [packL, Hlen.out]
      rw [hpl]
      rw [hpe] at hblk
      exact ⟨some ⟨w.heap.size, 0, none⟩, need l, rfl, Nat.le_refl _, by simp only [maxLen]; omega, hblk.own (Nat.le_refl _) rfl (by simp [hpl]) (by simp only [maxLen]; omega), hB⟩

set_option maxRecDepth 100000 in
set_option maxHeartbeats 1000000 in
theorem mcount_any (A : Option Addr) (l c : Nat) (xs : List Bool) (w : World) (hr : Reads w w.heap.size 1 A l (bls xs)) (hl : l ≤ c) (hc : c ≤ maxLen) :
    Calls Try.prog 15 #[.slice A l c] w fun e w' => e = .returned (.int .i64 ((countL xs : Nat) : Int)) ∧ w = w' := by
  unfold maxLen at hc
  have Hlen := Lib.hid (blen hr)
  go_enter Try.func15, Try.ntmps15
  go_wp2
  go_loop [2, 7] (fun u v => ∃ i k : Nat, i ≤ l ∧ v = .int .i64 (i : Int) ∧ u = .int .i64 (k : Int) ∧ k ≤ i ∧ Hid (k = countL (xs.take i))) (fun _ v => l - (intOf v).toNat)
  case atStart => exact ⟨0, 0, Nat.zero_le _, rfl, rfl, Nat.le_refl _, by show 0 = countL (xs.take 0); simp [countL]⟩
  case round =>
    obtain ⟨i, k, hi, rfl, rfl, hk, Hk⟩ := hrel
    by_cases hlt : i < l
    · obtain ⟨ad, v, rfl, hbk, hx, hcell⟩ := hr.at_ hlt
      obtain ⟨b, hb', rfl⟩ := bls_get _ _ _ hx
      have hs := count_step xs i b hb'
      rw [← Hk.out] at hs
      have Hs := Lib.hid hs
      clear hx hb' hs hbk
      cases b
      · go_wp2
        go_round
        case rel => exact ⟨i + 1, k, by omega, by go_num, rfl, by omega, by show _ = _; rw [Hs.out]; simp⟩
        case measure => simp [intOf]; omega
      · go_wp2
        go_round
        case rel => exact ⟨i + 1, k + 1, by omega, by go_num, by go_num, by omega, by show _ = _; rw [Hs.out]; simp⟩
        case measure => simp [intOf]; omega
    · go_wp2
      go_ret
      have hil : xs.take i = xs := List.take_of_length_le (by rw [Hlen.out]; omega)
      exact ⟨by have := Hk.out; rw [hil] at this; rw [← this]; rfl, rfl⟩
set_option maxRecDepth 100000 in
set_option maxHeartbeats 1000000 in
theorem refmcount_any (A : Option Addr) (l c : Nat) (xs : List Bool) (w : World) (hr : Reads w w.heap.size 1 A l (bls xs)) (hl : l ≤ c) (hc : c ≤ maxLen) :
    Calls Try.prog 16 #[.slice A l c] w fun e w' => e = .returned (.int .i64 ((countL xs : Nat) : Int)) ∧ w = w' := by
  unfold maxLen at hc
  have Hlen := Lib.hid (blen hr)
  go_enter Try.func16, Try.ntmps16
  go_wp2
  go_loop [3, 4] (fun u v => ∃ i k : Nat, i ≤ l ∧ v = .int .i64 (i : Int) ∧ u = .int .i64 (k : Int) ∧ k ≤ i ∧ Hid (k = countL (xs.take i))) (fun _ v => l - (intOf v).toNat)
  case atStart => exact ⟨0, 0, Nat.zero_le _, rfl, rfl, Nat.le_refl _, by show 0 = countL (xs.take 0); simp [countL]⟩
  case round =>
    obtain ⟨i, k, hi, rfl, rfl, hk, Hk⟩ := hrel
    by_cases hlt : i < l
    · obtain ⟨ad, v, rfl, hbk, hx, hcell⟩ := hr.at_ hlt
      obtain ⟨b, hb', rfl⟩ := bls_get _ _ _ hx
      have hs := count_step xs i b hb'
      rw [← Hk.out] at hs
      have Hs := Lib.hid hs
      clear hx hb' hs hbk
      cases b
      · go_wp2
        go_round
        case rel => exact ⟨i + 1, k, by omega, by go_num, rfl, by omega, by show _ = _; rw [Hs.out]; simp⟩
        case measure => simp [intOf]; omega
      · go_wp2
        go_round
        case rel => exact ⟨i + 1, k + 1, by omega, by go_num, by go_num, by omega, by show _ = _; rw [Hs.out]; simp⟩
        case measure => simp [intOf]; omega
    · go_wp2
      go_ret
      have hil : xs.take i = xs := List.take_of_length_le (by rw [Hlen.out]; omega)
      exact ⟨by have := Hk.out; rw [hil] at this; rw [← this]; rfl, rfl⟩
set_option maxRecDepth 100000 in
set_option maxHeartbeats 1000000 in
theorem same_yes (A B : Option Addr) (l c m d : Nat) (xs ys : List Bool) (w : World) (hr : Reads w w.heap.size 1 A l (bls xs)) (hr2 : Reads w w.heap.size 1 B m (bls ys)) (hl : l ≤ c) (hc : c ≤ maxLen) (hm : m ≤ d) (hd : d ≤ maxLen) (heq : xs = ys) :
    Calls Try.prog 14 #[.slice A l c, .slice B m d] w fun e w' => e = .returned (.bool true) ∧ Below w.heap.size w w' := by
  subst heq
  obtain rfl : l = m := by rw [← blen hr, ← blen hr2]
  unfold maxLen at hc hd
  go_enter Try.func14, Try.ntmps14
  go_wp2
  go_loopw [5] (fun v wr => ∃ i : Nat, i ≤ l ∧ v = .int .i64 (i : Int) ∧ Below w.heap.size w wr) (fun v _ => l - (intOf v).toNat)
  case atStart => exact ⟨0, Nat.zero_le _, rfl, Below.refl _ _⟩
  case round =>
    obtain ⟨i, hi, rfl, hB⟩ := hrel
    by_cases hlt : i < l
    · obtain ⟨ad, v, rfl, hbk, hx, hcell⟩ := hr.at_ hlt
      rw [← hB.cell (p := ad.add i) (by rw [block_of_add]; exact hbk)] at hcell
      obtain ⟨b, hb', rfl⟩ := bls_get _ _ _ hx
      obtain ⟨ad2, v2, rfl, hbk2, hx2, hcell2⟩ := hr2.at_ hlt
      rw [← hB.cell (p := ad2.add i) (by rw [block_of_add]; exact hbk2)] at hcell2
      obtain rfl : v2 = .bool b := by rw [hx] at hx2; injection hx2 with h; exact h.symm
      clear hx hx2 hb' hbk hbk2
      go_wp2
      go_region
      all_goals
        go_wp2
        go_roundw
        case rel => exact ⟨i + 1, by omega, by go_num, hB.drew⟩
        case measure => simp [intOf]; omega
    · go_wp2
      go_ret
      exact ⟨rfl, hB⟩

/-- What the law's cut keeps. -/
def cut300 (xs : List Bool) : List Bool := xs.take 300
theorem cut300_le (xs : List Bool) : (cut300 xs).length ≤ 300 := List.length_take_le _ _
set_option maxRecDepth 100000 in
set_option maxHeartbeats 400000 in
theorem cutb_any (A : Option Addr) (l c : Nat) (xs : List Bool) (w : World) (hr : Reads w w.heap.size 1 A l (bls xs)) (hl : l ≤ c) (hc : c ≤ maxLen) :
    Calls Try.prog 10 #[.slice A l c] w fun e w' => ∃ A' c', e = .returned (.slice A' (cut300 xs).length c') ∧ (cut300 xs).length ≤ c' ∧ c' ≤ maxLen ∧
      w'.ownsRow w.heap.size 4 1 (.slice A' (cut300 xs).length c') (cut300 xs).length (bls (cut300 xs)) ∧ Below w.heap.size w w' := by
  unfold cut300
  obtain ⟨i0, hi0, hz0, hz1, hz2⟩ := info_parts bool_info
  have hlen := blen hr
  have hml : (xs.take 300).length = min l 300 := by rw [List.length_take, hlen, Nat.min_comm]
  have hr2 := hr.head (k := min l 300) (Nat.min_le_left _ _)
  rw [Nat.mul_one, bls_take] at hr2
  have ht : xs.take (min l 300) = xs.take 300 := by rw [← hlen, Nat.min_comm, ← List.take_take, List.take_of_length_le (i := xs.length) (Nat.le_refl _)]
  rw [ht] at hr2
  rw [hml]
  have hmin : min l 300 ≤ l := Nat.min_le_left _ _
  have hmin2 : min l 300 ≤ 300 := Nat.min_le_right _ _
  have hcast : min (l : Int) 300 = ((min l 300 : Nat) : Int) := by omega
  clear hml ht hlen
  generalize xs.take 300 = ys at hr2 ⊢
  generalize min l 300 = m at hr2 hmin hmin2 hcast ⊢
  unfold maxLen at hc
  have hs1 : 0 + m ≤ maxLen := by simp only [maxLen]; omega
  have hs2 : (0 + m) * 1 ≤ 70368744177664 := by omega
  go_enter Try.func10, Try.ntmps10
  go_wp2_with (at_builtin
               refine wpList_append_any _ rfl (.tmp 3) (.tmp 8) 22 rfl w.heap.size 4 i0 (.bool false) 1 1 Try.underlying22 hi0 hz0 hz1 hz2 rfl (by decide) _ 0 0 [] rfl (World.ownsRow_made w #[] 0 (Nat.le_refl _) (by simp [maxLen]) rfl) A m c (bls ys) rfl (hr2.al _) (bls_one _) hs1 hs2 (by simp) ?_
               intro A2 c2 w2 hown2 hb2 hg2 hc2 hm2
               simp only [Nat.zero_add, List.nil_append] at hown2 hc2)
  go_ret
  exact ⟨A2, c2, by simp, hc2, hm2, hown2, ((Below.refl _ _).alloc (Nat.le_refl _) _).trans hb2⟩
end Go.Proofs.Ytbcfdlhhmifneaa
