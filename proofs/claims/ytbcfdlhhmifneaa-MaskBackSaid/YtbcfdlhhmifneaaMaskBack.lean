/- The law MaskBack, walked. -/
import Derived.Test.YtbcfdlhhmifneaaMaskLaw
set_option linter.unusedVariables false
set_option linter.unusedSimpArgs false
namespace Go.Proofs.Ytbcfdlhhmifneaa
open Go.RowKit
set_option maxRecDepth 100000 in
set_option maxHeartbeats 2000000 in
theorem maskBack_any (A B : Option Addr) (l0 c0 l c : Nat) (xs : List Bool) (bs : List UInt8) (w : World) (hr : Reads w w.heap.size 1 A l0 (bls xs)) (hl0 : l0 ≤ c0) (hc0 : c0 ≤ maxLen) (hrb : Reads w w.heap.size 1 B l (u8s bs)) (hl : l ≤ c) (hc : c ≤ maxLen) :
    Calls Try.prog 5 #[.slice A l0 c0, .slice B l c] w fun e w' => e = .returned (.bool true) ∧ Below w.heap.size w w' := by
  have hlen := reads_len hrb
  have hr0 := hrb.head (k := min l 60) (Nat.min_le_left _ _)
  rw [Nat.mul_one, u8s_take] at hr0
  have hmin : min l 60 ≤ l := Nat.min_le_left _ _
  have hmin2 : min l 60 ≤ 60 := Nat.min_le_right _ _
  have hcast : min (l : Int) 60 = ((min l 60 : Nat) : Int) := by omega
  clear hlen
  generalize min l 60 = m at hr0 hmin hmin2 hcast
  generalize bs.take m = zs at hr0
  unfold maxLen at hc
  have hle := cut300_le xs
  obtain ⟨i0, hi0, hz0, hz1, hz2⟩ := info_parts u8_info
  have hB := Below.refl w.heap.size w
  go_enter Try.func5, Try.ntmps5
  go_wp2_with fail
  with_reducible refine (cutb_any A l0 c0 xs _ hr hl0 hc0).mono ?_
  rintro e w1 ⟨A1, c1, rfl, hc1, hd1, o1, hb⟩
  replace hr0 := hr0.on hb
  replace hB := bon hB hb
  have r1 := own_reads o1
  clear hb
  go_wp2_with fail
  with_reducible refine (mpack_any A1 _ c1 _ _ r1 hc1 hd1 (by omega)).mono ?_
  rintro e w2 ⟨A2, c2, rfl, hc2, hd2, o2, hb⟩
  replace hr0 := hr0.on hb
  replace r1 := r1.on hb
  replace hB := bon hB hb
  have r2 := own_reads o2
  clear hb
  have hpl := packL_length (cut300 xs)
  have hN : (packL (cut300 xs)).length ≤ 300 := by rw [hpl]; unfold need; omega
  have hmin3 : m ≤ c := by omega
  have hs1 : (packL (cut300 xs)).length + m ≤ maxLen := by simp only [maxLen]; omega
  have hs2 : ((packL (cut300 xs)).length + m) * 1 ≤ 70368744177664 := by omega
  have hB2 := hB
  have hsl : ((sizeL ((cut300 xs).length : Int) : Nat) : Int) = ((need (cut300 xs).length : Nat) : Int) := by
    unfold sizeL
    rw [if_neg (by omega), Int.toNat_natCast]
  have hke : (((need (cut300 xs).length : Nat) : Int) == ((packL (cut300 xs)).length : Int)) = true := by rw [hpl]; simp
  have Hpl := Lib.hid hpl
  clear hpl
  go_wp2
  refine wp_region_order [(0, false), (2, false), (3, false), (4, false), (5, false), (6, false), (8, false), (9, false), (1, true), (7, true), (10, true), (11, false), (12, false), (13, false), (14, false), (15, false), (16, false), (17, false)] (by kernel_rfl) (by kernel_rfl) (by kernel_rfl) (fun d _ _ _ _ h => by cases d <;> exact h) ?_
  refine mix_pure (v := ?_) rfl rfl (by simp [Region.wanted, yielded]) ?_ ?_
  rotate_left
  · intro w; go_simp; try with_reducible rfl
  simp only [Act.put, List.setIfInBounds_toArray, List.set_cons_succ, List.set_cons_zero]
  refine mix_pure (v := ?_) rfl rfl (by simp [Region.wanted, yielded]) ?_ ?_
  rotate_left
  · intro w; go_simp; try with_reducible rfl
  simp only [Act.put, List.setIfInBounds_toArray, List.set_cons_succ, List.set_cons_zero]
  refine mix_pure (v := ?_) rfl rfl (by simp [Region.wanted, yielded]) ?_ ?_
  rotate_left
  · intro w; go_simp; try with_reducible rfl
  simp only [Act.put, List.setIfInBounds_toArray, List.set_cons_succ, List.set_cons_zero]
  refine mix_pure (v := ?_) rfl rfl (by simp [Region.wanted, yielded]) ?_ ?_
  rotate_left
  · intro w; go_simp; try with_reducible rfl
  simp only [Act.put, List.setIfInBounds_toArray, List.set_cons_succ, List.set_cons_zero]
  refine mix_pure (v := ?_) rfl rfl (by simp [Region.wanted, yielded]) ?_ ?_
  rotate_left
  · intro w; go_simp; try with_reducible rfl
  simp only [Act.put, List.setIfInBounds_toArray, List.set_cons_succ, List.set_cons_zero]
  refine mix_pure (v := ?_) rfl rfl (by simp [Region.wanted, yielded]) ?_ ?_
  rotate_left
  · intro w; go_simp; try with_reducible rfl
  simp only [Act.put, List.setIfInBounds_toArray, List.set_cons_succ, List.set_cons_zero]
  refine mix_pure (v := ?_) rfl rfl (by simp [Region.wanted, yielded]) ?_ ?_
  rotate_left
  · intro w; go_simp; try with_reducible rfl
  simp only [Act.put, List.setIfInBounds_toArray, List.set_cons_succ, List.set_cons_zero]
  refine mix_pure (v := ?_) rfl rfl (by simp [Region.wanted, yielded]) ?_ ?_
  rotate_left
  · intro w; go_simp; try with_reducible rfl
  simp only [Act.put, List.setIfInBounds_toArray, List.set_cons_succ, List.set_cons_zero]
  refine mix_eff rfl fun K hK => ?_
  go_simp
  with_reducible refine (copyBytes_any A2 _ c2 _ _ (Reads.drew r2) (by omega)).mono ?_
  rintro e w3 ⟨A3, c3, rfl, hc3, hd3, o3, hb⟩
  replace hB := bon hB.drew hb
  replace hr0 := Reads.on (Reads.drew hr0) hb
  have r1k := r1
  have hb23 := hb
  clear r1
  have hw23 : w2.heap.size ≤ w3.heap.size := hb.size
  have hBz : w.heap.size ≤ w2.heap.size := hB2.size
  clear r2
  refine hK _ _ ?_
  clear hK K
  try simp only [Act.put, List.setIfInBounds_toArray, List.set_cons_succ, List.set_cons_zero]
  refine mix_eff rfl fun K hK => ?_
  rw [if_pos (by simp [Region.wanted, yielded])]
  refine wp_append_any _ (.tmp 16) (.tmp 21) 24 rfl w2.heap.size 5 i0 (.int .u8 0) 1 1 Try.underlying24 hi0 hz0 hz1 hz2 rfl (by decide) A3 _ c3 (u8s (packL (cut300 xs))) rfl o3 B m c (u8s zs) rfl hr0 (u8s_one _) hs1 hs2 hw23 ?_
  intro A5 c5 w5 o5 hb hg5 hc5 hm5
  rw [← u8s_append] at o5
  replace hB := hB.trans (hb.mono hBz)
  have hb25 := hb23.trans hb
  have r1 := Reads.on (Reads.drew r1k) hb25
  have r5 := own_reads o5
  clear hb hg5 o5 o3 hb25 hb23 r1k hr0
  refine hK _ _ ?_
  clear hK K
  try simp only [Act.put, List.setIfInBounds_toArray, List.set_cons_succ, List.set_cons_zero]
  refine mix_eff rfl fun K hK => ?_
  go_simp
  with_reducible refine (munpack_any A5 _ c5 _ _ _ r5 hc5 hm5 (by omega) (by omega)).mono ?_
  rw [unpackL_pack _ _ (by omega)]
  rintro e w6 ⟨A6, c6, rfl, hc6, hd6, r6, hb⟩
  replace hB := bon hB hb
  replace r1 := r1.on hb
  simp only at hc6 r6 ⊢
  clear hb
  refine hK _ _ ?_
  clear hK K
  try simp only [Act.put, List.setIfInBounds_toArray, List.set_cons_succ, List.set_cons_zero]
  refine mix_pure (v := ?_) rfl rfl (by simp [Region.wanted, yielded]) ?_ ?_
  rotate_left
  · intro w; go_simp; try with_reducible rfl
  simp only [Act.put, List.setIfInBounds_toArray, List.set_cons_succ, List.set_cons_zero]
  refine mix_pure (v := ?_) rfl rfl (by simp [Region.wanted, yielded]) ?_ ?_
  rotate_left
  · intro w; go_simp; try with_reducible rfl
  simp only [Act.put, List.setIfInBounds_toArray, List.set_cons_succ, List.set_cons_zero]
  refine mix_pure (v := ?_) rfl rfl (by simp [Region.wanted, yielded]) ?_ ?_
  rotate_left
  · intro w; go_simp; try with_reducible rfl
  simp only [Act.put, List.setIfInBounds_toArray, List.set_cons_succ, List.set_cons_zero]
  refine mix_pure (v := ?_) rfl rfl (by simp [Region.wanted, yielded]) ?_ ?_
  rotate_left
  · intro w; go_simp; try with_reducible rfl
  simp only [Act.put, List.setIfInBounds_toArray, List.set_cons_succ, List.set_cons_zero]
  refine mix_pure (v := ?_) rfl rfl (by simp [Region.wanted, yielded]) ?_ ?_
  rotate_left
  · intro w; go_simp; try with_reducible rfl
  simp only [Act.put, List.setIfInBounds_toArray, List.set_cons_succ, List.set_cons_zero]
  refine mix_pure (v := ?_) rfl rfl (by simp [Region.wanted, yielded]) ?_ ?_
  rotate_left
  · intro w; go_simp; try with_reducible rfl
  simp only [Act.put, List.setIfInBounds_toArray, List.set_cons_succ, List.set_cons_zero]
  refine mix_pure (v := ?_) rfl rfl (by simp [Region.wanted, yielded]) ?_ ?_
  rotate_left
  · intro w; go_simp; try with_reducible rfl
  simp only [Act.put, List.setIfInBounds_toArray, List.set_cons_succ, List.set_cons_zero]
  refine mix_end ?_
  go_wp2_with fail
  with_reducible refine (same_yes _ _ _ _ _ _ _ _ _ r6 r1 hc6 hd6 hc1 hd1 rfl).mono ?_
  rintro e w7 ⟨rfl, hb⟩
  replace r1 := r1.on hb
  replace r6 := r6.on hb
  replace hB := bon hB hb
  clear hb
  go_wp2_with fail
  with_reducible refine (msize_lit _ ((need (cut300 xs).length : Nat) : Int) _ (by omega) (by omega) hsl).mono ?_
  rintro e w' ⟨rfl, rfl⟩
  go_wp2_with fail
  with_reducible refine (mworks_any _).mono ?_
  rintro e w8 ⟨rfl, hb⟩
  replace r1 := r1.on hb
  replace r6 := r6.on hb
  replace hB := bon hB hb
  clear hb
  go_wp2
  go_ret
  exact ⟨rfl, hB⟩
end Go.Proofs.Ytbcfdlhhmifneaa
