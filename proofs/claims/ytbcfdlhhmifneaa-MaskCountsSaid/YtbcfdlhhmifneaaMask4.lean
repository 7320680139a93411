/- Layer 14, walked: the reference's Unpack. -/
import Derived.Test.YtbcfdlhhmifneaaMask3
import Derived.Test.YtbcfdlhhmifneaaOrder
set_option linter.unusedVariables false
set_option linter.unusedSimpArgs false
namespace Go.Proofs.Ytbcfdlhhmifneaa
open Go.RowKit
theorem reads_len2 {w : World} {B n : Nat} {A : Option Addr} {l : List Bool} (h : Reads w B 1 A n (bls l)) : l.length = n := blen h
theorem half_cast (b k : Nat) (hb : b < 256) : ((b / 2 ^ k : Nat) : Int) / 2 = ((b / 2 ^ (k + 1) : Nat) : Int) := by
  rw [Nat.pow_succ, ← Nat.div_div_eq_div_mul]; rfl
set_option maxRecDepth 100000 in
set_option maxHeartbeats 1000000 in
theorem refmunpack_any (A : Option Addr) (l c : Nat) (xs : List UInt8) (n : Int) (w : World) (hr : Reads w w.heap.size 1 A l (u8s xs)) (hl : l ≤ c) (hc : c ≤ maxLen) (h1 : -9223372036854775808 ≤ n) (h2 : n ≤ 9223372036854775807) :
    Calls Try.prog 22 #[.slice A l c, .int .i64 n] w (Unpacked (unpackL xs n) w) := by
  obtain ⟨i0, hi0, hz0, hz1, hz2⟩ := info_parts bool_info
  unfold maxLen at hc
  have Hlen := Lib.hid (reads_len hr)
  have hsz := fun w => refmsize_any n w h1 h2
  have Hsz := Lib.hid hsz
  clear hsz
  by_cases hn : n < 0 ∨ 1048576 < n
  · have hu : unpackL xs n = ([], 0, 6) := by unfold unpackL; rw [if_pos hn]
    rw [hu]
    clear hu h1 h2
    rcases hn with hn | hn
    all_goals
      go_enter Try.func22, Try.ntmps22
      go_wp2
      go_ret3
      exact munpack_err 6 w
  · obtain ⟨m, rfl⟩ := Int.eq_ofNat_of_zero_le (by omega : 0 ≤ n)
    have hm : m ≤ 1048576 := by omega
    have hu : unpackL xs (m : Int) = unpackN xs m := by unfold unpackL; rw [if_neg hn, Int.toNat_natCast]
    have hss : sizeL (m : Int) = need m := by unfold sizeL; rw [if_neg hn, Int.toNat_natCast]
    rw [hu]
    rw [hss] at Hsz
    clear hu hss h1 h2 hn
    have hnm : need m ≤ 131072 := by unfold need; omega
    by_cases hshort : l < need m
    · have hu : unpackN xs m = ([], 0, 3) := by unfold unpackN; rw [if_pos (by rw [Hlen.out]; exact hshort)]
      rw [hu]
      clear hu
      go_enter Try.func22, Try.ntmps22
      go_wp2_with fail
      refine (Hsz.out _).mono ?_
      rintro e w' ⟨rfl, rfl⟩
      go_wp2
      go_ret3
      exact munpack_err 3 w
    · go_enter Try.func22, Try.ntmps22
      go_wp2_with fail
      refine (Hsz.out _).mono ?_
      rintro e w' ⟨rfl, rfl⟩
      go_wp2
      go_loopw [7, 8] (fun u v wr => ∃ (i : Nat) (A1 : Option Addr) (c1 : Nat), i ≤ need m ∧ v = .int .i64 (i : Int) ∧ u = .slice A1 (8 * i) c1 ∧
        wr.ownsRow w.heap.size 4 1 (.slice A1 (8 * i) c1) (8 * i) (bls ((allBits xs).take (8 * i))) ∧ Below w.heap.size w wr) (fun _ v _ => need m - (intOf v).toNat)
      case atStart => exact ⟨0, none, 0, Nat.zero_le _, rfl, rfl, World.ownsRow_nil _ _ _ _, Below.refl _ _⟩
      case round =>
        obtain ⟨i, A1, c1, hi, rfl, rfl, hown, hB⟩ := hrel
        by_cases hlt : i < need m
        · obtain ⟨ad, v, rfl, hbk, hx, hcell0⟩ := hr.at_ (k := i) (by omega)
          obtain ⟨b, hb', rfl⟩ := u8s_get _ _ _ hx
          have hcell := hcell0
          rw [← hB.cell (p := ad.add i) (by rw [block_of_add]; exact hbk)] at hcell
          have hb256 : b.toNat < 256 := b.toNat_lt
          clear hx
          have db : decide (i < need m) = true := by simp; omega
          go_wp2_with fail
          refine (Hsz.out _).mono ?_
          rintro e w' ⟨rfl, rfl⟩
          go_wp2
          clear hcell
          go_loopw [7, 9, 10] (fun u x v wr => ∃ (k : Nat) (A1 : Option Addr) (c1 : Nat), k ≤ 8 ∧ x = .int .u8 ((b.toNat / 2 ^ k : Nat) : Int) ∧ v = .int .i64 (k : Int) ∧ u = .slice A1 (8 * i + k) c1 ∧
            wr.ownsRow w.heap.size 4 1 (.slice A1 (8 * i + k) c1) (8 * i + k) (bls ((allBits xs).take (8 * i + k))) ∧ Below w.heap.size w wr) (fun _ _ v _ => 8 - (intOf v).toNat)
          case atStart => exact ⟨0, A1, c1, Nat.zero_le _, by simp, rfl, rfl, hown, hB⟩
          case round =>
            clear hown hB
            obtain ⟨k, A1, c1, hk, rfl, rfl, rfl, hown, hB⟩ := hrel
            by_cases hlt2 : k < 8
            · have hbit := allBits_get xs i k b hb' hlt2
              have hq : b.toNat / 2 ^ k < 256 := Nat.lt_of_le_of_lt (Nat.div_le_self _ _) hb256
              have Hhalf := Lib.hid (half_cast b.toNat k hb256)
              generalize b.toNat / 2 ^ k = q at hbit hq Hhalf ⊢
              have hnx := take_next _ _ _ hbit
              have Hnx := Lib.hid hnx
              have hbv : (((q : Int) % 2) == 1) = (q % 2 == 1) := by rw [Bool.eq_iff_iff]; simp; omega
              generalize (q % 2 == 1) = bv at hbv Hnx
              have hbase := hB.size
              have hs1 : 8 * i + k + 1 ≤ maxLen := by simp only [maxLen]; omega
              have hs2 : (8 * i + k + 1) * 1 ≤ 70368744177664 := by omega
              clear hbit hnx
              go_wp2_with (at_builtin
                           refine wpList_append_any _ rfl (.tmp 36) (.tmp 40) 22 rfl w.heap.size 4 i0 (.bool false) 1 1 Try.underlying22 hi0 hz0 hz1 hz2 rfl (by decide) A1 _ c1 _ rfl (hown.alloc _) _ 1 1 _ rfl (reads_new _ _ _) (one_bool _) hs1 hs2 (by simp; omega) ?_
                           intro A2 c2 w2 hown2 hb2 hg2 hc2 hm2
                           rw [show [Value.bool bv] = bls [bv] from rfl, ← bls_append, ← Hnx.out] at hown2)
              go_roundw
              case rel => exact ⟨k + 1, A2, c2, by omega, by rw [← Hhalf.out], by go_num, rfl, hown2, (hB.alloc hbase _).trans hb2⟩
              case measure => simp [intOf]; omega
            · have hk8 : k = 8 := by omega
              go_wp2
              go_roundw
              case rel =>
                subst hk8
                exact ⟨i + 1, A1, c1, by omega, by go_num, rfl, hown, hB⟩
              case measure => simp [intOf]; omega
        · have hie : i = need m := by omega
          subst hie
          obtain ⟨A', c', hv, h1, h2⟩ := own_shape hown
          injection hv with hA hn hc'
          subst hA hc'
          have hrd := own_reads hown
          have hml := need_le m
          have hcut := hrd.cut (k := m) (cap := c1) hml h1
          rw [Nat.mul_one, bls_drop] at hcut
          have hhead := hrd.head (k := m) hml
          rw [Nat.mul_one, bls_take, List.take_take, Nat.min_eq_left hml] at hhead
          have hur := unpack_ref xs m (by rw [Hlen.out]; omega)
          have hmc : m ≤ c1 := by omega
          have hlenm : ((allBits xs).take m).length = m := by have := hhead.1; simpa using this
          have Hhead := Lib.hid (reads_len2 hhead)
          unfold maxLen at h2
          have hcl := countL_le (((allBits xs).take (8 * need m)).drop m)
          rw [blen hcut] at hcl
          have Hur := Lib.hid hur
          clear hur
          clear hlenm
          by_cases hcm : c1 = m
          · rw [if_pos hcm] at hcut
            have hcm1 : c1 - m = 0 := by omega
            have hcmb : c1 ≤ m := by omega
            go_wp2_with fail
            refine (Hsz.out _).mono ?_
            rintro e w' ⟨rfl, rfl⟩
            go_wp2_with fail
            with_reducible refine (refmcount_any _ _ _ _ _ hcut (by omega) (by simp only [maxLen]; omega)).mono ?_
            rintro e w' ⟨rfl, rfl⟩
            generalize countL (((allBits xs).take (8 * need m)).drop m) = q at hcl Hur ⊢
            by_cases hq : 0 < q
            · have dq : decide ((0 : Int) < (q : Int)) = true := by simp; omega
              go_wp2
              go_ret3
              rw [Hur.out, if_pos hq]
              exact ⟨none, 0, rfl, Nat.le_refl _, by simp [maxLen], Reads.none_, hB⟩
            · have dq : decide ((0 : Int) < (q : Int)) = false := by simp; omega
              have hu2 := Hur.out
              rw [if_neg hq] at hu2
              have Hu2 := Lib.hid hu2
              clear hu2
              go_wp2
              refine wp_region_order [(0, false), (1, false), (2, false), (3, false), (4, true), (5, false), (6, false), (7, false)] (by kernel_rfl) (by kernel_rfl) (by kernel_rfl) (fun d _ _ _ _ h => by cases d <;> exact h) ?_
              refine mix_pure (v := ?_) rfl rfl (by simp [Region.wanted, yielded]) ?_ ?_
              rotate_left
              · intro w; go_simp; try with_reducible rfl
              simp only [Act.put, List.setIfInBounds_toArray, List.set_cons_succ, List.set_cons_zero]
              refine mix_pure (v := ?_) rfl rfl (by simp [Region.wanted, yielded]) ?_ ?_
              rotate_left
              · intro w; go_simp; try with_reducible rfl
              simp only [Act.put, List.setIfInBounds_toArray, List.set_cons_succ, List.set_cons_zero]
              refine mix_pure (v := ?_) rfl rfl (by simp [Region.wanted, yielded]) ?_ ?_
              rotate_left
              · intro w; go_simp; try with_reducible rfl
              simp only [Act.put, List.setIfInBounds_toArray, List.set_cons_succ, List.set_cons_zero]
              refine mix_pure (v := ?_) rfl rfl (by simp [Region.wanted, yielded]) ?_ ?_
              rotate_left
              · intro w; go_simp; try with_reducible rfl
              simp only [Act.put, List.setIfInBounds_toArray, List.set_cons_succ, List.set_cons_zero]
              refine mix_eff rfl fun K hK => ?_
              go_simp
              refine (Hsz.out _).mono ?_
              rintro e w' ⟨rfl, rfl⟩
              refine hK _ _ ?_
              clear hK K
              try simp only [Act.put, List.setIfInBounds_toArray, List.set_cons_succ, List.set_cons_zero]
              refine mix_pure (v := ?_) rfl rfl (by simp [Region.wanted, yielded]) ?_ ?_
              rotate_left
              · intro w; go_simp; try with_reducible rfl
              simp only [Act.put, List.setIfInBounds_toArray, List.set_cons_succ, List.set_cons_zero]
              refine mix_pure (v := ?_) rfl rfl (by simp [Region.wanted, yielded]) ?_ ?_
              rotate_left
              · intro w; go_simp; try with_reducible rfl
              simp only [Act.put, List.setIfInBounds_toArray, List.set_cons_succ, List.set_cons_zero]
              refine mix_pure (v := ?_) rfl rfl (by simp [Region.wanted, yielded]) ?_ ?_
              rotate_left
              · intro w; go_simp; try with_reducible rfl
              simp only [Act.put, List.setIfInBounds_toArray, List.set_cons_succ, List.set_cons_zero]
              refine mix_end ?_
              go_wp2
              go_ret3
              rw [Hu2.out]
              exact ⟨A1, m, by rw [Hhead.out]; rfl, by rw [Hhead.out]; exact Nat.le_refl _, by simp only [maxLen]; omega, by rw [Hhead.out]; exact hhead.drew, hB.drew⟩
          · rw [if_neg hcm] at hcut
            go_wp2_with fail
            refine (Hsz.out _).mono ?_
            rintro e w' ⟨rfl, rfl⟩
            go_wp2_with fail
            with_reducible refine (refmcount_any _ _ _ _ _ hcut (by omega) (by simp only [maxLen]; omega)).mono ?_
            rintro e w' ⟨rfl, rfl⟩
            generalize countL (((allBits xs).take (8 * need m)).drop m) = q at hcl Hur ⊢
            by_cases hq : 0 < q
            · have dq : decide ((0 : Int) < (q : Int)) = true := by simp; omega
              go_wp2
              go_ret3
              rw [Hur.out, if_pos hq]
              exact ⟨none, 0, rfl, Nat.le_refl _, by simp [maxLen], Reads.none_, hB⟩
            · have dq : decide ((0 : Int) < (q : Int)) = false := by simp; omega
              have hu2 := Hur.out
              rw [if_neg hq] at hu2
              have Hu2 := Lib.hid hu2
              clear hu2
              go_wp2
              refine wp_region_order [(0, false), (1, false), (2, false), (3, false), (4, true), (5, false), (6, false), (7, false)] (by kernel_rfl) (by kernel_rfl) (by kernel_rfl) (fun d _ _ _ _ h => by cases d <;> exact h) ?_
              refine mix_pure (v := ?_) rfl rfl (by simp [Region.wanted, yielded]) ?_ ?_
              rotate_left
              · intro w; go_simp; try with_reducible rfl
              simp only [Act.put, List.setIfInBounds_toArray, List.set_cons_succ, List.set_cons_zero]
              refine mix_pure (v := ?_) rfl rfl (by simp [Region.wanted, yielded]) ?_ ?_
              rotate_left
              · intro w; go_simp; try with_reducible rfl
              simp only [Act.put, List.setIfInBounds_toArray, List.set_cons_succ, List.set_cons_zero]
              refine mix_pure (v := ?_) rfl rfl (by simp [Region.wanted, yielded]) ?_ ?_
              rotate_left
              · intro w; go_simp; try with_reducible rfl
              simp only [Act.put, List.setIfInBounds_toArray, List.set_cons_succ, List.set_cons_zero]
              refine mix_pure (v := ?_) rfl rfl (by simp [Region.wanted, yielded]) ?_ ?_
              rotate_left
              · intro w; go_simp; try with_reducible rfl
              simp only [Act.put, List.setIfInBounds_toArray, List.set_cons_succ, List.set_cons_zero]
              refine mix_eff rfl fun K hK => ?_
              go_simp
              refine (Hsz.out _).mono ?_
              rintro e w' ⟨rfl, rfl⟩
              refine hK _ _ ?_
              clear hK K
              try simp only [Act.put, List.setIfInBounds_toArray, List.set_cons_succ, List.set_cons_zero]
              refine mix_pure (v := ?_) rfl rfl (by simp [Region.wanted, yielded]) ?_ ?_
              rotate_left
              · intro w; go_simp; try with_reducible rfl
              simp only [Act.put, List.setIfInBounds_toArray, List.set_cons_succ, List.set_cons_zero]
              refine mix_pure (v := ?_) rfl rfl (by simp [Region.wanted, yielded]) ?_ ?_
              rotate_left
              · intro w; go_simp; try with_reducible rfl
              simp only [Act.put, List.setIfInBounds_toArray, List.set_cons_succ, List.set_cons_zero]
              refine mix_pure (v := ?_) rfl rfl (by simp [Region.wanted, yielded]) ?_ ?_
              rotate_left
              · intro w; go_simp; try with_reducible rfl
              simp only [Act.put, List.setIfInBounds_toArray, List.set_cons_succ, List.set_cons_zero]
              refine mix_end ?_
              go_wp2
              go_ret3
              rw [Hu2.out]
              exact ⟨A1, c1, by rw [Hhead.out]; rfl, by rw [Hhead.out]; exact hmc, by simp only [maxLen]; omega, by rw [Hhead.out]; exact hhead.drew, hB.drew⟩
end Go.Proofs.Ytbcfdlhhmifneaa
