/- The law MaskOnly, walked. -/
import Derived.Test.YtbcfdlhhmifneaaMaskLaw
set_option linter.unusedVariables false
set_option linter.unusedSimpArgs false
namespace Go.Proofs.Ytbcfdlhhmifneaa
open Go.RowKit
set_option maxRecDepth 100000 in
set_option maxHeartbeats 2000000 in
theorem maskOnly_any (A : Option Addr) (l c : Nat) (n : Int) (xs : List UInt8) (w : World) (hr : Reads w w.heap.size 1 A l (u8s xs)) (hl : l ≤ c) (hc : c ≤ maxLen) (h1 : -9223372036854775808 ≤ n) (h2 : n ≤ 9223372036854775807) :
    Calls Try.prog 6 #[.slice A l c, .int .i64 n] w fun e w' => e = .returned (.bool true) ∧ Below w.heap.size w w' := by
  have H1 := Lib.hid h1
  have H2 := Lib.hid h2
  clear h1 h2
  have hlen := reads_len hr
  have hr0 := hr.head (k := min l 60) (Nat.min_le_left _ _)
  rw [Nat.mul_one, u8s_take] at hr0
  have hmin : min l 60 ≤ l := Nat.min_le_left _ _
  have hmin2 : min l 60 ≤ 60 := Nat.min_le_right _ _
  have hcast : min (l : Int) 60 = ((min l 60 : Nat) : Int) := by omega
  clear hlen
  generalize min l 60 = m at hr0 hmin hmin2 hcast
  generalize xs.take m = zs at hr0
  unfold maxLen at hc
  have hB := Below.refl w.heap.size w
  go_enter Try.func6, Try.ntmps6
  go_wp2_with fail
  with_reducible refine (mworks_any _).mono ?_
  rintro e w0 ⟨rfl, hb⟩
  replace hr0 := hr0.on hb
  replace hB := bon hB hb
  clear hb
  go_wp2_with fail
  with_reducible refine (copyBytes_any A m c zs _ hr0 (by omega)).mono ?_
  rintro e w1 ⟨A1, c1, rfl, hc1, hd1, o1, hb⟩
  replace hr0 := hr0.on hb
  replace hB := bon hB hb
  have r1 := own_reads o1
  clear hb
  have hzl := reads_len r1
  go_wp2_with fail
  with_reducible refine (munpack_any A1 _ c1 zs n _ r1 hc1 hd1 H1.out H2.out).mono ?_
  rintro e w2 ⟨A2, c2, rfl, hc2, hd2, r2, hb⟩
  replace hr0 := hr0.on hb
  replace r1 := r1.on hb
  replace hB := bon hB hb
  clear hb
  rcases unpackL_only zs n with ⟨ys, k, h, hn, hk, hpk⟩ | ⟨er, h, he, -⟩
  · rw [h] at hc2 r2 ⊢
    subst hn
    have Hpk := Lib.hid hpk
    have r1a := r1.head (k := k) (by omega)
    rw [Nat.mul_one, u8s_take] at r1a
    clear h hpk
    rw [hzl] at hk
    have hkc : k ≤ c1 := by omega
    have hk2 : decide (k ≤ m) = true := by simpa using hk
    have hyl : ys.length ≤ 1099511627776 := by
      have h1 := packL_length ys
      rw [Hpk.out, List.length_take] at h1
      have h2 := need_le ys.length
      omega
    simp only
    go_wp2
    refine wp_region_order [(0, false), (1, false), (2, false), (3, false), (4, false), (5, false), (6, false), (7, false), (8, false), (9, false), (10, false), (11, false), (13, false), (14, false), (15, false), (12, true), (16, true), (17, false), (18, false)] (by kernel_rfl) (by kernel_rfl) (by kernel_rfl) (fun d _ _ _ _ h => by cases d <;> exact h) ?_
    refine mix_pure (v := ?_) rfl rfl (by simp [Region.wanted, yielded]) ?_ ?_
    rotate_left
    · intro w; go_simp; try with_reducible rfl
    simp only [Act.put, List.setIfInBounds_toArray, List.set_cons_succ, List.set_cons_zero]
    refine mix_pure (v := ?_) rfl rfl (by simp [Region.wanted, yielded]) ?_ ?_
    rotate_left
    · intro w; go_simp; try with_reducible rfl
    simp only [Act.put, List.setIfInBounds_toArray, List.set_cons_succ, List.set_cons_zero]
    refine mix_pure (v := ?_) rfl rfl (by simp [Region.wanted, yielded]) ?_ ?_
    rotate_left
    · intro w; go_simp; try with_reducible rfl
    simp only [Act.put, List.setIfInBounds_toArray, List.set_cons_succ, List.set_cons_zero]
    refine mix_pure (v := ?_) rfl rfl (by simp [Region.wanted, yielded]) ?_ ?_
    rotate_left
    · intro w; go_simp; try with_reducible rfl
    simp only [Act.put, List.setIfInBounds_toArray, List.set_cons_succ, List.set_cons_zero]
    refine mix_pure (v := ?_) rfl rfl (by simp [Region.wanted, yielded]) ?_ ?_
    rotate_left
    · intro w; go_simp; try with_reducible rfl
    simp only [Act.put, List.setIfInBounds_toArray, List.set_cons_succ, List.set_cons_zero]
    refine mix_pure (v := ?_) rfl rfl (by simp [Region.wanted, yielded]) ?_ ?_
    rotate_left
    · intro w; go_simp; try with_reducible rfl
    simp only [Act.put, List.setIfInBounds_toArray, List.set_cons_succ, List.set_cons_zero]
    refine mix_pure (v := ?_) rfl rfl (by simp [Region.wanted, yielded]) ?_ ?_
    rotate_left
    · intro w; go_simp; try with_reducible rfl
    simp only [Act.put, List.setIfInBounds_toArray, List.set_cons_succ, List.set_cons_zero]
    refine mix_pure (v := ?_) rfl rfl (by simp [Region.wanted, yielded]) ?_ ?_
    rotate_left
    · intro w; go_simp; try with_reducible rfl
    simp only [Act.put, List.setIfInBounds_toArray, List.set_cons_succ, List.set_cons_zero]
    refine mix_pure (v := ?_) rfl rfl (by simp [Region.wanted, yielded]) ?_ ?_
    rotate_left
    · intro w; go_simp; try with_reducible rfl
    simp only [Act.put, List.setIfInBounds_toArray, List.set_cons_succ, List.set_cons_zero]
    refine mix_pure (v := ?_) rfl rfl (by simp [Region.wanted, yielded]) ?_ ?_
    rotate_left
    · intro w; go_simp; try with_reducible rfl
    simp only [Act.put, List.setIfInBounds_toArray, List.set_cons_succ, List.set_cons_zero]
    refine mix_pure (v := ?_) rfl rfl (by simp [Region.wanted, yielded]) ?_ ?_
    rotate_left
    · intro w; go_simp; try with_reducible rfl
    simp only [Act.put, List.setIfInBounds_toArray, List.set_cons_succ, List.set_cons_zero]
    refine mix_pure (v := ?_) rfl rfl (by simp [Region.wanted, yielded]) ?_ ?_
    rotate_left
    · intro w; go_simp; try with_reducible rfl
    simp only [Act.put, List.setIfInBounds_toArray, List.set_cons_succ, List.set_cons_zero]
    refine mix_pure (v := ?_) rfl rfl (by simp [Region.wanted, yielded]) ?_ ?_
    rotate_left
    · intro w; go_simp; try with_reducible rfl
    simp only [Act.put, List.setIfInBounds_toArray, List.set_cons_succ, List.set_cons_zero]
    refine mix_pure (v := ?_) rfl rfl (by simp [Region.wanted, yielded]) ?_ ?_
    rotate_left
    · intro w; go_simp; try with_reducible rfl
    simp only [Act.put, List.setIfInBounds_toArray, List.set_cons_succ, List.set_cons_zero]
    refine mix_pure (v := ?_) rfl rfl (by simp [Region.wanted, yielded]) ?_ ?_
    rotate_left
    · intro w; go_simp; try with_reducible rfl
    simp only [Act.put, List.setIfInBounds_toArray, List.set_cons_succ, List.set_cons_zero]
    refine mix_eff rfl fun K hK => ?_
    go_simp
    with_reducible refine (mpack_any A2 _ c2 ys _ (Reads.drew r2) hc2 hd2 (by omega)).mono ?_
    rintro e w4 ⟨A4, c4, rfl, hc4, hd4, o4, hb⟩
    replace hB := bon hB.drew hb
    replace r1a := Reads.on (Reads.drew r1a) hb
    refine hK _ _ ?_
    clear hK K
    try simp only [Act.put, List.setIfInBounds_toArray, List.set_cons_succ, List.set_cons_zero]
    refine mix_eff rfl fun K hK => ?_
    go_simp
    with_reducible refine (eq_yes _ _ _ _ _ _ (packL ys) (zs.take k) _ (own_reads o4) r1a Hpk.out).mono ?_
    rintro e w' ⟨rfl, rfl⟩
    refine hK _ _ ?_
    clear hK K
    try simp only [Act.put, List.setIfInBounds_toArray, List.set_cons_succ, List.set_cons_zero]
    refine mix_pure (v := ?_) rfl rfl (by simp [Region.wanted, yielded]) ?_ ?_
    rotate_left
    · intro w; go_simp; try with_reducible rfl
    simp only [Act.put, List.setIfInBounds_toArray, List.set_cons_succ, List.set_cons_zero]
    refine mix_pure (v := ?_) rfl rfl (by simp [Region.wanted, yielded]) ?_ ?_
    rotate_left
    · intro w; go_simp; try with_reducible rfl
    simp only [Act.put, List.setIfInBounds_toArray, List.set_cons_succ, List.set_cons_zero]
    refine mix_end ?_
    go_wp2
    go_ret
    exact ⟨rfl, hB⟩
  · rw [h] at hc2 r2 ⊢
    have hb : (!((er : Int) == 0)) = true := by simpa using he
    have hb' : ((er : Int) != 0) = true := by simpa using he
    clear h
    simp only [List.length_nil]
    go_wp2
    go_ret
    exact ⟨rfl, hB⟩
end Go.Proofs.Ytbcfdlhhmifneaa
