/- The law LebApart, walked. -/
import Derived.Test.YtgkeoiljafnkeaaLebLaw
import Derived.Test.YtgkeoiljafnkeaaOrder
set_option linter.unusedVariables false
set_option linter.unusedSimpArgs false
namespace Go.Proofs.Ytgkeoiljafnkeaa
open Go.RowKit
set_option maxRecDepth 100000 in
set_option maxHeartbeats 2000000 in
theorem lebApart_eq (n m : Nat) (w : World) (hn : n < 18446744073709551616) (hm : m < 18446744073709551616) (hnm : n = m) :
    Calls Try.prog 7 #[.int .u64 (n : Int), .int .u64 (m : Int)] w fun e w' => e = .returned (.bool true) ∧ Below w.heap.size w w' := by
  have Hn := Lib.hid hn
  have Hm := Lib.hid hm
  subst hnm
  clear hn hm
  have hB := Below.refl w.heap.size w
  go_enter Try.func7, Try.ntmps7
  go_wp2_with fail
  with_reducible refine (put_nil n _ Hn.out).mono ?_
  rintro e w1 ⟨A1, c1, rfl, hc1, he1, o1, hb⟩
  replace hB := bon hB hb
  have r1 := own_reads o1
  clear hb
  go_wp2_with fail
  with_reducible refine (put_nil n _ Hn.out).mono ?_
  rintro e w2 ⟨A2, c2, rfl, hc2, he2, o2, hb⟩
  replace r1 := r1.on hb
  replace hB := bon hB hb
  have r2 := own_reads o2
  clear hb
  go_wp2_with fail
  with_reducible refine (eq_yes _ _ _ _ _ _ _ _ _ r1 r2 rfl).mono ?_
  rintro e w' ⟨rfl, rfl⟩
  go_wp2_with fail
  with_reducible refine (works_any _).mono ?_
  rintro e w3 ⟨rfl, hb⟩
  replace r1 := r1.on hb
  replace r2 := r2.on hb
  replace hB := bon hB hb
  clear hb
  go_wp2
  go_ret
  exact ⟨rfl, hB⟩
set_option maxRecDepth 100000 in
set_option maxHeartbeats 2000000 in
theorem lebApart_lt (n m : Nat) (w : World) (hn : n < 18446744073709551616) (hm : m < 18446744073709551616) (hnm : n < m) (hsz : (leb n).length < (leb m).length) :
    Calls Try.prog 7 #[.int .u64 (n : Int), .int .u64 (m : Int)] w fun e w' => e = .returned (.bool true) ∧ Below w.heap.size w w' := by
  have Hn := Lib.hid hn
  have Hm := Lib.hid hm
  have hap := leb_apart n m hn hm (by omega)
  have hd1 : decide (n < m) = true := by simpa using hnm
  rw [Nat.min_eq_left (by omega)] at hap
  have hmin : min (((leb n).length : Nat) : Int) ((leb m).length : Int) = ((leb n).length : Int) := by omega
  have hd2 : decide ((leb n).length < (leb m).length) = true := by simpa using hsz
  have Hap := Lib.hid hap
  have Hsz := Lib.hid hsz
  have hne : ((n : Int) == (m : Int)) = false := by simp; omega
  clear hn hm hap
  have hB := Below.refl w.heap.size w
  go_enter Try.func7, Try.ntmps7
  go_wp2_with fail
  with_reducible refine (put_nil n _ Hn.out).mono ?_
  rintro e w1 ⟨A1, c1, rfl, hc1, he1, o1, hb⟩
  replace hB := bon hB hb
  have r1 := own_reads o1
  clear hb
  go_wp2_with fail
  with_reducible refine (put_nil m _ Hm.out).mono ?_
  rintro e w2 ⟨A2, c2, rfl, hc2, he2, o2, hb⟩
  replace r1 := r1.on hb
  replace hB := bon hB hb
  have r2 := own_reads o2
  clear hb
  go_wp2
  have r1a := (r1.head (k := (leb n).length) (by omega)).drew
  have r2a := (r2.head (k := (leb n).length) (by omega)).drew
  rw [Nat.mul_one, u8s_take] at r1a r2a
  have hk1 : (leb n).length ≤ c1 := by omega
  have hk2 : (leb n).length ≤ c2 := by omega
  refine wp_region_order [(0, false), (1, false), (2, false), (3, false), (4, false), (5, false), (6, true), (7, false), (8, false), (9, false), (10, false), (11, false), (12, false), (14, false), (13, true), (15, true), (16, false), (17, false), (18, false), (20, false), (19, true), (21, true), (22, false), (23, false), (24, false), (25, false), (26, false), (27, false), (28, false), (29, false), (30, false), (31, false), (32, false), (33, false), (34, false), (35, true), (36, false), (37, false), (38, false), (39, true), (40, false), (41, false)] (by kernel_rfl) (by kernel_rfl) (by kernel_rfl) (fun d _ _ _ _ h => by cases d <;> exact h) ?_
  refine mix_pure (v := ?_) rfl rfl (by simp [Region.wanted, yielded]) ?_ ?_
  rotate_left
  · intro w; go_simp; try with_reducible rfl
  simp only [Act.put, List.setIfInBounds_toArray, List.set_cons_succ, List.set_cons_zero]
  refine mix_pure (v := ?_) rfl rfl (by simp [Region.wanted, yielded]) ?_ ?_
  rotate_left
  · intro w; go_simp; try with_reducible rfl
  simp only [Act.put, List.setIfInBounds_toArray, List.set_cons_succ, List.set_cons_zero]
  refine mix_pure (v := ?_) rfl rfl (by simp [Region.wanted, yielded]) ?_ ?_
  rotate_left
  · intro w; go_simp; try with_reducible rfl
  simp only [Act.put, List.setIfInBounds_toArray, List.set_cons_succ, List.set_cons_zero]
  refine mix_pure (v := ?_) rfl rfl (by simp [Region.wanted, yielded]) ?_ ?_
  rotate_left
  · intro w; go_simp; try with_reducible rfl
  simp only [Act.put, List.setIfInBounds_toArray, List.set_cons_succ, List.set_cons_zero]
  refine mix_pure (v := ?_) rfl rfl (by simp [Region.wanted, yielded]) ?_ ?_
  rotate_left
  · intro w; go_simp; try with_reducible rfl
  simp only [Act.put, List.setIfInBounds_toArray, List.set_cons_succ, List.set_cons_zero]
  refine mix_pure (v := ?_) rfl rfl (by simp [Region.wanted, yielded]) ?_ ?_
  rotate_left
  · intro w; go_simp; try with_reducible rfl
  simp only [Act.put, List.setIfInBounds_toArray, List.set_cons_succ, List.set_cons_zero]
  refine mix_eff rfl fun K hK => ?_
  go_simp
  with_reducible refine (eq_no _ _ _ _ _ _ _ _ _ r1a r2a Hap.out).mono ?_
  rintro e w' ⟨rfl, rfl⟩
  refine hK _ _ ?_
  clear hK K
  try simp only [Act.put, List.setIfInBounds_toArray, List.set_cons_succ, List.set_cons_zero]
  refine mix_pure (v := ?_) rfl rfl (by simp [Region.wanted, yielded]) ?_ ?_
  rotate_left
  · intro w; go_simp; try with_reducible rfl
  simp only [Act.put, List.setIfInBounds_toArray, List.set_cons_succ, List.set_cons_zero]
  refine mix_pure (v := ?_) rfl rfl (by simp [Region.wanted, yielded]) ?_ ?_
  rotate_left
  · intro w; go_simp; try with_reducible rfl
  simp only [Act.put, List.setIfInBounds_toArray, List.set_cons_succ, List.set_cons_zero]
  refine mix_pure (v := ?_) rfl rfl (by simp [Region.wanted, yielded]) ?_ ?_
  rotate_left
  · intro w; go_simp; try with_reducible rfl
  simp only [Act.put, List.setIfInBounds_toArray, List.set_cons_succ, List.set_cons_zero]
  refine mix_pure (v := ?_) rfl rfl (by simp [Region.wanted, yielded]) ?_ ?_
  rotate_left
  · intro w; go_simp; try with_reducible rfl
  simp only [Act.put, List.setIfInBounds_toArray, List.set_cons_succ, List.set_cons_zero]
  refine mix_pure (v := ?_) rfl rfl (by simp [Region.wanted, yielded]) ?_ ?_
  rotate_left
  · intro w; go_simp; try with_reducible rfl
  simp only [Act.put, List.setIfInBounds_toArray, List.set_cons_succ, List.set_cons_zero]
  refine mix_pure (v := ?_) rfl rfl (by simp [Region.wanted, yielded]) ?_ ?_
  rotate_left
  · intro w; go_simp; try with_reducible rfl
  simp only [Act.put, List.setIfInBounds_toArray, List.set_cons_succ, List.set_cons_zero]
  refine mix_pure (v := ?_) rfl rfl (by simp [Region.wanted, yielded]) ?_ ?_
  rotate_left
  · intro w; go_simp; try with_reducible rfl
  simp only [Act.put, List.setIfInBounds_toArray, List.set_cons_succ, List.set_cons_zero]
  refine mix_eff rfl fun K hK => ?_
  go_simp
  with_reducible refine (size_any _ _ Hn.out).mono ?_
  rintro e w' ⟨rfl, rfl⟩
  refine hK _ _ ?_
  clear hK K
  try simp only [Act.put, List.setIfInBounds_toArray, List.set_cons_succ, List.set_cons_zero]
  refine mix_eff rfl fun K hK => ?_
  go_simp
  with_reducible refine (size_any _ _ Hm.out).mono ?_
  rintro e w' ⟨rfl, rfl⟩
  refine hK _ _ ?_
  clear hK K
  try simp only [Act.put, List.setIfInBounds_toArray, List.set_cons_succ, List.set_cons_zero]
  refine mix_pure (v := ?_) rfl rfl (by simp [Region.wanted, yielded]) ?_ ?_
  rotate_left
  · intro w; go_simp; try with_reducible rfl
  simp only [Act.put, List.setIfInBounds_toArray, List.set_cons_succ, List.set_cons_zero]
  refine mix_pure (v := ?_) rfl rfl (by simp [Region.wanted, yielded]) ?_ ?_
  rotate_left
  · intro w; go_simp; try with_reducible rfl
  simp only [Act.put, List.setIfInBounds_toArray, List.set_cons_succ, List.set_cons_zero]
  refine mix_off rfl rfl (by simp [Region.wanted, yielded, undef]) ?_
  simp only [Act.put, List.setIfInBounds_toArray, List.set_cons_succ, List.set_cons_zero]
  refine mix_off rfl rfl (by simp [Region.wanted, yielded, undef]) ?_
  simp only [Act.put, List.setIfInBounds_toArray, List.set_cons_succ, List.set_cons_zero]
  refine mix_eff rfl fun K hK => ?_
  go_simp
  refine hK _ _ ?_
  clear hK K
  try simp only [Act.put, List.setIfInBounds_toArray, List.set_cons_succ, List.set_cons_zero]
  refine mix_eff rfl fun K hK => ?_
  go_simp
  refine hK _ _ ?_
  clear hK K
  try simp only [Act.put, List.setIfInBounds_toArray, List.set_cons_succ, List.set_cons_zero]
  refine mix_off rfl rfl (by simp [Region.wanted, yielded, undef]) ?_
  simp only [Act.put, List.setIfInBounds_toArray, List.set_cons_succ, List.set_cons_zero]
  refine mix_off rfl rfl (by simp [Region.wanted, yielded, undef]) ?_
  simp only [Act.put, List.setIfInBounds_toArray, List.set_cons_succ, List.set_cons_zero]
  refine mix_off rfl rfl (by simp [Region.wanted, yielded, undef]) ?_
  simp only [Act.put, List.setIfInBounds_toArray, List.set_cons_succ, List.set_cons_zero]
  refine mix_off rfl rfl (by simp [Region.wanted, yielded, undef]) ?_
  simp only [Act.put, List.setIfInBounds_toArray, List.set_cons_succ, List.set_cons_zero]
  refine mix_off rfl rfl (by simp [Region.wanted, yielded, undef]) ?_
  simp only [Act.put, List.setIfInBounds_toArray, List.set_cons_succ, List.set_cons_zero]
  refine mix_off rfl rfl (by simp [Region.wanted, yielded, undef]) ?_
  simp only [Act.put, List.setIfInBounds_toArray, List.set_cons_succ, List.set_cons_zero]
  refine mix_pure (v := ?_) rfl rfl (by simp [Region.wanted, yielded]) ?_ ?_
  rotate_left
  · intro w; go_simp; try with_reducible rfl
  simp only [Act.put, List.setIfInBounds_toArray, List.set_cons_succ, List.set_cons_zero]
  refine mix_pure (v := ?_) rfl rfl (by simp [Region.wanted, yielded]) ?_ ?_
  rotate_left
  · intro w; go_simp; try with_reducible rfl
  simp only [Act.put, List.setIfInBounds_toArray, List.set_cons_succ, List.set_cons_zero]
  refine mix_pure (v := ?_) rfl rfl (by simp [Region.wanted, yielded]) ?_ ?_
  rotate_left
  · intro w; go_simp; try with_reducible rfl
  simp only [Act.put, List.setIfInBounds_toArray, List.set_cons_succ, List.set_cons_zero]
  refine mix_pure (v := ?_) rfl rfl (by simp [Region.wanted, yielded]) ?_ ?_
  rotate_left
  · intro w; go_simp; try with_reducible rfl
  simp only [Act.put, List.setIfInBounds_toArray, List.set_cons_succ, List.set_cons_zero]
  refine mix_pure (v := ?_) rfl rfl (by simp [Region.wanted, yielded]) ?_ ?_
  rotate_left
  · intro w; go_simp; try with_reducible rfl
  simp only [Act.put, List.setIfInBounds_toArray, List.set_cons_succ, List.set_cons_zero]
  refine mix_pure (v := ?_) rfl rfl (by simp [Region.wanted, yielded]) ?_ ?_
  rotate_left
  · intro w; go_simp; try with_reducible rfl
  simp only [Act.put, List.setIfInBounds_toArray, List.set_cons_succ, List.set_cons_zero]
  refine mix_pure (v := ?_) rfl rfl (by simp [Region.wanted, yielded]) ?_ ?_
  rotate_left
  · intro w; go_simp; try with_reducible rfl
  simp only [Act.put, List.setIfInBounds_toArray, List.set_cons_succ, List.set_cons_zero]
  refine mix_eff rfl fun K hK => ?_
  go_simp
  with_reducible refine (size_any _ _ Hn.out).mono ?_
  rintro e w' ⟨rfl, rfl⟩
  refine hK _ _ ?_
  clear hK K
  try simp only [Act.put, List.setIfInBounds_toArray, List.set_cons_succ, List.set_cons_zero]
  refine mix_pure (v := ?_) rfl rfl (by simp [Region.wanted, yielded]) ?_ ?_
  rotate_left
  · intro w; go_simp; try with_reducible rfl
  simp only [Act.put, List.setIfInBounds_toArray, List.set_cons_succ, List.set_cons_zero]
  refine mix_pure (v := ?_) rfl rfl (by simp [Region.wanted, yielded]) ?_ ?_
  rotate_left
  · intro w; go_simp; try with_reducible rfl
  simp only [Act.put, List.setIfInBounds_toArray, List.set_cons_succ, List.set_cons_zero]
  refine mix_pure (v := ?_) rfl rfl (by simp [Region.wanted, yielded]) ?_ ?_
  rotate_left
  · intro w; go_simp; try with_reducible rfl
  simp only [Act.put, List.setIfInBounds_toArray, List.set_cons_succ, List.set_cons_zero]
  refine mix_eff rfl fun K hK => ?_
  go_simp
  with_reducible refine (works_any _).mono ?_
  rintro e w3 ⟨rfl, hb⟩
  replace hB := bon hB.drew hb
  clear hb
  refine hK _ _ ?_
  clear hK K
  try simp only [Act.put, List.setIfInBounds_toArray, List.set_cons_succ, List.set_cons_zero]
  refine mix_pure (v := ?_) rfl rfl (by simp [Region.wanted, yielded]) ?_ ?_
  rotate_left
  · intro w; go_simp; try with_reducible rfl
  simp only [Act.put, List.setIfInBounds_toArray, List.set_cons_succ, List.set_cons_zero]
  refine mix_pure (v := ?_) rfl rfl (by simp [Region.wanted, yielded]) ?_ ?_
  rotate_left
  · intro w; go_simp; try with_reducible rfl
  simp only [Act.put, List.setIfInBounds_toArray, List.set_cons_succ, List.set_cons_zero]
  refine mix_end ?_
  go_wp2
  go_ret
  exact ⟨rfl, hB⟩
set_option maxRecDepth 100000 in
set_option maxHeartbeats 2000000 in
theorem lebApart_le (n m : Nat) (w : World) (hn : n < 18446744073709551616) (hm : m < 18446744073709551616) (hnm : n < m) (hsz : (leb m).length = (leb n).length) :
    Calls Try.prog 7 #[.int .u64 (n : Int), .int .u64 (m : Int)] w fun e w' => e = .returned (.bool true) ∧ Below w.heap.size w w' := by
  have Hn := Lib.hid hn
  have Hm := Lib.hid hm
  have hap := leb_apart n m hn hm (by omega)
  have hd1 : decide (n < m) = true := by simpa using hnm
  rw [hsz, Nat.min_self] at hap
  have hmin : min (((leb n).length : Nat) : Int) ((leb n).length : Int) = ((leb n).length : Int) := by omega
  have hd2 : decide ((leb n).length < (leb n).length) = false := by simp
  have Hap := Lib.hid hap
  have Hsz := Lib.hid hsz
  have hne : ((n : Int) == (m : Int)) = false := by simp; omega
  clear hn hm hap hsz
  have hB := Below.refl w.heap.size w
  go_enter Try.func7, Try.ntmps7
  go_wp2_with fail
  with_reducible refine (put_nil n _ Hn.out).mono ?_
  rintro e w1 ⟨A1, c1, rfl, hc1, he1, o1, hb⟩
  replace hB := bon hB hb
  have r1 := own_reads o1
  clear hb
  go_wp2_with fail
  with_reducible refine (put_nil m _ Hm.out).mono ?_
  rintro e w2 ⟨A2, c2, rfl, hc2, he2, o2, hb⟩
  replace r1 := r1.on hb
  replace hB := bon hB hb
  have r2 := own_reads o2
  clear hb
  rw [Hsz.out] at hc2 r2 ⊢
  clear o2
  go_wp2
  have r1a := (r1.head (k := (leb n).length) (by omega)).drew
  have r2a := (r2.head (k := (leb n).length) (by omega)).drew
  rw [Nat.mul_one, u8s_take] at r1a r2a
  have hk1 : (leb n).length ≤ c1 := by omega
  have hk2 : (leb n).length ≤ c2 := by omega
  refine wp_region_order [(0, false), (1, false), (2, false), (3, false), (4, false), (5, false), (6, true), (7, false), (8, false), (9, false), (10, false), (11, false), (12, false), (14, false), (13, true), (15, true), (16, false), (17, false), (18, false), (20, false), (19, true), (21, true), (22, false), (23, false), (24, false), (25, false), (26, false), (27, false), (28, false), (29, false), (30, false), (31, false), (32, false), (33, false), (34, false), (35, true), (36, false), (37, false), (38, false), (39, true), (40, false), (41, false)] (by kernel_rfl) (by kernel_rfl) (by kernel_rfl) (fun d _ _ _ _ h => by cases d <;> exact h) ?_
  refine mix_pure (v := ?_) rfl rfl (by simp [Region.wanted, yielded]) ?_ ?_
  rotate_left
  · intro w; go_simp; try with_reducible rfl
  simp only [Act.put, List.setIfInBounds_toArray, List.set_cons_succ, List.set_cons_zero]
  refine mix_pure (v := ?_) rfl rfl (by simp [Region.wanted, yielded]) ?_ ?_
  rotate_left
  · intro w; go_simp; try with_reducible rfl
  simp only [Act.put, List.setIfInBounds_toArray, List.set_cons_succ, List.set_cons_zero]
  refine mix_pure (v := ?_) rfl rfl (by simp [Region.wanted, yielded]) ?_ ?_
  rotate_left
  · intro w; go_simp; try with_reducible rfl
  simp only [Act.put, List.setIfInBounds_toArray, List.set_cons_succ, List.set_cons_zero]
  refine mix_pure (v := ?_) rfl rfl (by simp [Region.wanted, yielded]) ?_ ?_
  rotate_left
  · intro w; go_simp; try with_reducible rfl
  simp only [Act.put, List.setIfInBounds_toArray, List.set_cons_succ, List.set_cons_zero]
  refine mix_pure (v := ?_) rfl rfl (by simp [Region.wanted, yielded]) ?_ ?_
  rotate_left
  · intro w; go_simp; try with_reducible rfl
  simp only [Act.put, List.setIfInBounds_toArray, List.set_cons_succ, List.set_cons_zero]
  refine mix_pure (v := ?_) rfl rfl (by simp [Region.wanted, yielded]) ?_ ?_
  rotate_left
  · intro w; go_simp; try with_reducible rfl
  simp only [Act.put, List.setIfInBounds_toArray, List.set_cons_succ, List.set_cons_zero]
  refine mix_eff rfl fun K hK => ?_
  go_simp
  with_reducible refine (eq_no _ _ _ _ _ _ _ _ _ r1a r2a Hap.out).mono ?_
  rintro e w' ⟨rfl, rfl⟩
  refine hK _ _ ?_
  clear hK K
  try simp only [Act.put, List.setIfInBounds_toArray, List.set_cons_succ, List.set_cons_zero]
  refine mix_pure (v := ?_) rfl rfl (by simp [Region.wanted, yielded]) ?_ ?_
  rotate_left
  · intro w; go_simp; try with_reducible rfl
  simp only [Act.put, List.setIfInBounds_toArray, List.set_cons_succ, List.set_cons_zero]
  refine mix_pure (v := ?_) rfl rfl (by simp [Region.wanted, yielded]) ?_ ?_
  rotate_left
  · intro w; go_simp; try with_reducible rfl
  simp only [Act.put, List.setIfInBounds_toArray, List.set_cons_succ, List.set_cons_zero]
  refine mix_pure (v := ?_) rfl rfl (by simp [Region.wanted, yielded]) ?_ ?_
  rotate_left
  · intro w; go_simp; try with_reducible rfl
  simp only [Act.put, List.setIfInBounds_toArray, List.set_cons_succ, List.set_cons_zero]
  refine mix_pure (v := ?_) rfl rfl (by simp [Region.wanted, yielded]) ?_ ?_
  rotate_left
  · intro w; go_simp; try with_reducible rfl
  simp only [Act.put, List.setIfInBounds_toArray, List.set_cons_succ, List.set_cons_zero]
  refine mix_pure (v := ?_) rfl rfl (by simp [Region.wanted, yielded]) ?_ ?_
  rotate_left
  · intro w; go_simp; try with_reducible rfl
  simp only [Act.put, List.setIfInBounds_toArray, List.set_cons_succ, List.set_cons_zero]
  refine mix_pure (v := ?_) rfl rfl (by simp [Region.wanted, yielded]) ?_ ?_
  rotate_left
  · intro w; go_simp; try with_reducible rfl
  simp only [Act.put, List.setIfInBounds_toArray, List.set_cons_succ, List.set_cons_zero]
  refine mix_pure (v := ?_) rfl rfl (by simp [Region.wanted, yielded]) ?_ ?_
  rotate_left
  · intro w; go_simp; try with_reducible rfl
  simp only [Act.put, List.setIfInBounds_toArray, List.set_cons_succ, List.set_cons_zero]
  refine mix_eff rfl fun K hK => ?_
  go_simp
  with_reducible refine (size_any _ _ Hn.out).mono ?_
  rintro e w' ⟨rfl, rfl⟩
  refine hK _ _ ?_
  clear hK K
  try simp only [Act.put, List.setIfInBounds_toArray, List.set_cons_succ, List.set_cons_zero]
  refine mix_eff rfl fun K hK => ?_
  go_simp
  with_reducible refine (size_any _ _ Hm.out).mono ?_
  rintro e w' ⟨rfl, rfl⟩
  refine hK _ _ ?_
  clear hK K
  try simp only [Act.put, List.setIfInBounds_toArray, List.set_cons_succ, List.set_cons_zero]
  rw [Hsz.out]
  refine mix_pure (v := ?_) rfl rfl (by simp [Region.wanted, yielded]) ?_ ?_
  rotate_left
  · intro w; go_simp; try with_reducible rfl
  simp only [Act.put, List.setIfInBounds_toArray, List.set_cons_succ, List.set_cons_zero]
  refine mix_pure (v := ?_) rfl rfl (by simp [Region.wanted, yielded]) ?_ ?_
  rotate_left
  · intro w; go_simp; try with_reducible rfl
  simp only [Act.put, List.setIfInBounds_toArray, List.set_cons_succ, List.set_cons_zero]
  refine mix_pure (v := ?_) rfl rfl (by simp [Region.wanted, yielded]) ?_ ?_
  rotate_left
  · intro w; go_simp; try with_reducible rfl
  simp only [Act.put, List.setIfInBounds_toArray, List.set_cons_succ, List.set_cons_zero]
  refine mix_pure (v := ?_) rfl rfl (by simp [Region.wanted, yielded]) ?_ ?_
  rotate_left
  · intro w; go_simp; try with_reducible rfl
  simp only [Act.put, List.setIfInBounds_toArray, List.set_cons_succ, List.set_cons_zero]
  refine mix_eff rfl fun K hK => ?_
  go_simp
  with_reducible refine (size_any _ _ Hn.out).mono ?_
  rintro e w' ⟨rfl, rfl⟩
  refine hK _ _ ?_
  clear hK K
  try simp only [Act.put, List.setIfInBounds_toArray, List.set_cons_succ, List.set_cons_zero]
  refine mix_eff rfl fun K hK => ?_
  go_simp
  with_reducible refine (size_any _ _ Hm.out).mono ?_
  rintro e w' ⟨rfl, rfl⟩
  refine hK _ _ ?_
  clear hK K
  try simp only [Act.put, List.setIfInBounds_toArray, List.set_cons_succ, List.set_cons_zero]
  rw [Hsz.out]
  refine mix_pure (v := ?_) rfl rfl (by simp [Region.wanted, yielded]) ?_ ?_
  rotate_left
  · intro w; go_simp; try with_reducible rfl
  simp only [Act.put, List.setIfInBounds_toArray, List.set_cons_succ, List.set_cons_zero]
  refine mix_pure (v := ?_) rfl rfl (by simp [Region.wanted, yielded]) ?_ ?_
  rotate_left
  · intro w; go_simp; try with_reducible rfl
  simp only [Act.put, List.setIfInBounds_toArray, List.set_cons_succ, List.set_cons_zero]
  refine mix_pure (v := ?_) rfl rfl (by simp [Region.wanted, yielded]) ?_ ?_
  rotate_left
  · intro w; go_simp; try with_reducible rfl
  simp only [Act.put, List.setIfInBounds_toArray, List.set_cons_succ, List.set_cons_zero]
  refine mix_pure (v := ?_) rfl rfl (by simp [Region.wanted, yielded]) ?_ ?_
  rotate_left
  · intro w; go_simp; try with_reducible rfl
  simp only [Act.put, List.setIfInBounds_toArray, List.set_cons_succ, List.set_cons_zero]
  refine mix_pure (v := ?_) rfl rfl (by simp [Region.wanted, yielded]) ?_ ?_
  rotate_left
  · intro w; go_simp; try with_reducible rfl
  simp only [Act.put, List.setIfInBounds_toArray, List.set_cons_succ, List.set_cons_zero]
  refine mix_pure (v := ?_) rfl rfl (by simp [Region.wanted, yielded]) ?_ ?_
  rotate_left
  · intro w; go_simp; try with_reducible rfl
  simp only [Act.put, List.setIfInBounds_toArray, List.set_cons_succ, List.set_cons_zero]
  refine mix_pure (v := ?_) rfl rfl (by simp [Region.wanted, yielded]) ?_ ?_
  rotate_left
  · intro w; go_simp; try with_reducible rfl
  simp only [Act.put, List.setIfInBounds_toArray, List.set_cons_succ, List.set_cons_zero]
  refine mix_pure (v := ?_) rfl rfl (by simp [Region.wanted, yielded]) ?_ ?_
  rotate_left
  · intro w; go_simp; try with_reducible rfl
  simp only [Act.put, List.setIfInBounds_toArray, List.set_cons_succ, List.set_cons_zero]
  refine mix_pure (v := ?_) rfl rfl (by simp [Region.wanted, yielded]) ?_ ?_
  rotate_left
  · intro w; go_simp; try with_reducible rfl
  simp only [Act.put, List.setIfInBounds_toArray, List.set_cons_succ, List.set_cons_zero]
  refine mix_pure (v := ?_) rfl rfl (by simp [Region.wanted, yielded]) ?_ ?_
  rotate_left
  · intro w; go_simp; try with_reducible rfl
  simp only [Act.put, List.setIfInBounds_toArray, List.set_cons_succ, List.set_cons_zero]
  refine mix_pure (v := ?_) rfl rfl (by simp [Region.wanted, yielded]) ?_ ?_
  rotate_left
  · intro w; go_simp; try with_reducible rfl
  simp only [Act.put, List.setIfInBounds_toArray, List.set_cons_succ, List.set_cons_zero]
  refine mix_pure (v := ?_) rfl rfl (by simp [Region.wanted, yielded]) ?_ ?_
  rotate_left
  · intro w; go_simp; try with_reducible rfl
  simp only [Act.put, List.setIfInBounds_toArray, List.set_cons_succ, List.set_cons_zero]
  refine mix_pure (v := ?_) rfl rfl (by simp [Region.wanted, yielded]) ?_ ?_
  rotate_left
  · intro w; go_simp; try with_reducible rfl
  simp only [Act.put, List.setIfInBounds_toArray, List.set_cons_succ, List.set_cons_zero]
  refine mix_eff rfl fun K hK => ?_
  go_simp
  with_reducible refine (size_any _ _ Hn.out).mono ?_
  rintro e w' ⟨rfl, rfl⟩
  refine hK _ _ ?_
  clear hK K
  try simp only [Act.put, List.setIfInBounds_toArray, List.set_cons_succ, List.set_cons_zero]
  refine mix_pure (v := ?_) rfl rfl (by simp [Region.wanted, yielded]) ?_ ?_
  rotate_left
  · intro w; go_simp; try with_reducible rfl
  simp only [Act.put, List.setIfInBounds_toArray, List.set_cons_succ, List.set_cons_zero]
  refine mix_pure (v := ?_) rfl rfl (by simp [Region.wanted, yielded]) ?_ ?_
  rotate_left
  · intro w; go_simp; try with_reducible rfl
  simp only [Act.put, List.setIfInBounds_toArray, List.set_cons_succ, List.set_cons_zero]
  refine mix_pure (v := ?_) rfl rfl (by simp [Region.wanted, yielded]) ?_ ?_
  rotate_left
  · intro w; go_simp; try with_reducible rfl
  simp only [Act.put, List.setIfInBounds_toArray, List.set_cons_succ, List.set_cons_zero]
  refine mix_eff rfl fun K hK => ?_
  go_simp
  with_reducible refine (works_any _).mono ?_
  rintro e w3 ⟨rfl, hb⟩
  replace hB := bon hB.drew hb
  clear hb
  refine hK _ _ ?_
  clear hK K
  try simp only [Act.put, List.setIfInBounds_toArray, List.set_cons_succ, List.set_cons_zero]
  refine mix_pure (v := ?_) rfl rfl (by simp [Region.wanted, yielded]) ?_ ?_
  rotate_left
  · intro w; go_simp; try with_reducible rfl
  simp only [Act.put, List.setIfInBounds_toArray, List.set_cons_succ, List.set_cons_zero]
  refine mix_pure (v := ?_) rfl rfl (by simp [Region.wanted, yielded]) ?_ ?_
  rotate_left
  · intro w; go_simp; try with_reducible rfl
  simp only [Act.put, List.setIfInBounds_toArray, List.set_cons_succ, List.set_cons_zero]
  refine mix_end ?_
  go_wp2
  go_ret
  exact ⟨rfl, hB⟩
set_option maxRecDepth 100000 in
set_option maxHeartbeats 2000000 in
theorem lebApart_ge (n m : Nat) (w : World) (hn : n < 18446744073709551616) (hm : m < 18446744073709551616) (hnm : m < n) (hsz : (leb m).length = (leb n).length) :
    Calls Try.prog 7 #[.int .u64 (n : Int), .int .u64 (m : Int)] w fun e w' => e = .returned (.bool true) ∧ Below w.heap.size w w' := by
  have Hn := Lib.hid hn
  have Hm := Lib.hid hm
  have hap := leb_apart n m hn hm (by omega)
  have hd1 : decide (n < m) = false := by simp; omega
  have hd1b : ¬ n < m := by omega
  rw [hsz, Nat.min_self] at hap
  have hmin : min (((leb n).length : Nat) : Int) ((leb n).length : Int) = ((leb n).length : Int) := by omega
  have hd2 : decide ((leb n).length < (leb n).length) = false := by simp
  have Hap := Lib.hid hap
  have Hsz := Lib.hid hsz
  have hne : ((n : Int) == (m : Int)) = false := by simp; omega
  clear hn hm hap hsz
  have hB := Below.refl w.heap.size w
  go_enter Try.func7, Try.ntmps7
  go_wp2_with fail
  with_reducible refine (put_nil n _ Hn.out).mono ?_
  rintro e w1 ⟨A1, c1, rfl, hc1, he1, o1, hb⟩
  replace hB := bon hB hb
  have r1 := own_reads o1
  clear hb
  go_wp2_with fail
  with_reducible refine (put_nil m _ Hm.out).mono ?_
  rintro e w2 ⟨A2, c2, rfl, hc2, he2, o2, hb⟩
  replace r1 := r1.on hb
  replace hB := bon hB hb
  have r2 := own_reads o2
  clear hb
  rw [Hsz.out] at hc2 r2 ⊢
  clear o2
  go_wp2
  have r1a := (r1.head (k := (leb n).length) (by omega)).drew
  have r2a := (r2.head (k := (leb n).length) (by omega)).drew
  rw [Nat.mul_one, u8s_take] at r1a r2a
  have hk1 : (leb n).length ≤ c1 := by omega
  have hk2 : (leb n).length ≤ c2 := by omega
  refine wp_region_order [(0, false), (1, false), (2, false), (3, false), (4, false), (5, false), (6, true), (7, false), (8, false), (9, false), (10, false), (11, false), (12, false), (14, false), (13, true), (15, true), (16, false), (17, false), (18, false), (20, false), (19, true), (21, true), (22, false), (23, false), (24, false), (25, false), (26, false), (27, false), (28, false), (29, false), (30, false), (31, false), (32, false), (33, false), (34, false), (35, true), (36, false), (37, false), (38, false), (39, true), (40, false), (41, false)] (by kernel_rfl) (by kernel_rfl) (by kernel_rfl) (fun d _ _ _ _ h => by cases d <;> exact h) ?_
  refine mix_pure (v := ?_) rfl rfl (by simp [Region.wanted, yielded]) ?_ ?_
  rotate_left
  · intro w; go_simp; try with_reducible rfl
  simp only [Act.put, List.setIfInBounds_toArray, List.set_cons_succ, List.set_cons_zero]
  refine mix_pure (v := ?_) rfl rfl (by simp [Region.wanted, yielded]) ?_ ?_
  rotate_left
  · intro w; go_simp; try with_reducible rfl
  simp only [Act.put, List.setIfInBounds_toArray, List.set_cons_succ, List.set_cons_zero]
  refine mix_pure (v := ?_) rfl rfl (by simp [Region.wanted, yielded]) ?_ ?_
  rotate_left
  · intro w; go_simp; try with_reducible rfl
  simp only [Act.put, List.setIfInBounds_toArray, List.set_cons_succ, List.set_cons_zero]
  refine mix_pure (v := ?_) rfl rfl (by simp [Region.wanted, yielded]) ?_ ?_
  rotate_left
  · intro w; go_simp; try with_reducible rfl
  simp only [Act.put, List.setIfInBounds_toArray, List.set_cons_succ, List.set_cons_zero]
  refine mix_pure (v := ?_) rfl rfl (by simp [Region.wanted, yielded]) ?_ ?_
  rotate_left
  · intro w; go_simp; try with_reducible rfl
  simp only [Act.put, List.setIfInBounds_toArray, List.set_cons_succ, List.set_cons_zero]
  refine mix_pure (v := ?_) rfl rfl (by simp [Region.wanted, yielded]) ?_ ?_
  rotate_left
  · intro w; go_simp; try with_reducible rfl
  simp only [Act.put, List.setIfInBounds_toArray, List.set_cons_succ, List.set_cons_zero]
  refine mix_eff rfl fun K hK => ?_
  go_simp
  with_reducible refine (eq_no _ _ _ _ _ _ _ _ _ r1a r2a Hap.out).mono ?_
  rintro e w' ⟨rfl, rfl⟩
  refine hK _ _ ?_
  clear hK K
  try simp only [Act.put, List.setIfInBounds_toArray, List.set_cons_succ, List.set_cons_zero]
  refine mix_pure (v := ?_) rfl rfl (by simp [Region.wanted, yielded]) ?_ ?_
  rotate_left
  · intro w; go_simp; try with_reducible rfl
  simp only [Act.put, List.setIfInBounds_toArray, List.set_cons_succ, List.set_cons_zero]
  refine mix_pure (v := ?_) rfl rfl (by simp [Region.wanted, yielded]) ?_ ?_
  rotate_left
  · intro w; go_simp; try with_reducible rfl
  simp only [Act.put, List.setIfInBounds_toArray, List.set_cons_succ, List.set_cons_zero]
  refine mix_pure (v := ?_) rfl rfl (by simp [Region.wanted, yielded]) ?_ ?_
  rotate_left
  · intro w; go_simp; try with_reducible rfl
  simp only [Act.put, List.setIfInBounds_toArray, List.set_cons_succ, List.set_cons_zero]
  refine mix_pure (v := ?_) rfl rfl (by simp [Region.wanted, yielded]) ?_ ?_
  rotate_left
  · intro w; go_simp; try with_reducible rfl
  simp only [Act.put, List.setIfInBounds_toArray, List.set_cons_succ, List.set_cons_zero]
  refine mix_pure (v := ?_) rfl rfl (by simp [Region.wanted, yielded]) ?_ ?_
  rotate_left
  · intro w; go_simp; try with_reducible rfl
  simp only [Act.put, List.setIfInBounds_toArray, List.set_cons_succ, List.set_cons_zero]
  refine mix_pure (v := ?_) rfl rfl (by simp [Region.wanted, yielded]) ?_ ?_
  rotate_left
  · intro w; go_simp; try with_reducible rfl
  simp only [Act.put, List.setIfInBounds_toArray, List.set_cons_succ, List.set_cons_zero]
  refine mix_pure (v := ?_) rfl rfl (by simp [Region.wanted, yielded]) ?_ ?_
  rotate_left
  · intro w; go_simp; try with_reducible rfl
  simp only [Act.put, List.setIfInBounds_toArray, List.set_cons_succ, List.set_cons_zero]
  refine mix_eff rfl fun K hK => ?_
  go_simp
  with_reducible refine (size_any _ _ Hn.out).mono ?_
  rintro e w' ⟨rfl, rfl⟩
  refine hK _ _ ?_
  clear hK K
  try simp only [Act.put, List.setIfInBounds_toArray, List.set_cons_succ, List.set_cons_zero]
  refine mix_eff rfl fun K hK => ?_
  go_simp
  with_reducible refine (size_any _ _ Hm.out).mono ?_
  rintro e w' ⟨rfl, rfl⟩
  refine hK _ _ ?_
  clear hK K
  try simp only [Act.put, List.setIfInBounds_toArray, List.set_cons_succ, List.set_cons_zero]
  rw [Hsz.out]
  refine mix_pure (v := ?_) rfl rfl (by simp [Region.wanted, yielded]) ?_ ?_
  rotate_left
  · intro w; go_simp; try with_reducible rfl
  simp only [Act.put, List.setIfInBounds_toArray, List.set_cons_succ, List.set_cons_zero]
  refine mix_pure (v := ?_) rfl rfl (by simp [Region.wanted, yielded]) ?_ ?_
  rotate_left
  · intro w; go_simp; try with_reducible rfl
  simp only [Act.put, List.setIfInBounds_toArray, List.set_cons_succ, List.set_cons_zero]
  refine mix_pure (v := ?_) rfl rfl (by simp [Region.wanted, yielded]) ?_ ?_
  rotate_left
  · intro w; go_simp; try with_reducible rfl
  simp only [Act.put, List.setIfInBounds_toArray, List.set_cons_succ, List.set_cons_zero]
  refine mix_pure (v := ?_) rfl rfl (by simp [Region.wanted, yielded]) ?_ ?_
  rotate_left
  · intro w; go_simp; try with_reducible rfl
  simp only [Act.put, List.setIfInBounds_toArray, List.set_cons_succ, List.set_cons_zero]
  refine mix_eff rfl fun K hK => ?_
  go_simp
  with_reducible refine (size_any _ _ Hn.out).mono ?_
  rintro e w' ⟨rfl, rfl⟩
  refine hK _ _ ?_
  clear hK K
  try simp only [Act.put, List.setIfInBounds_toArray, List.set_cons_succ, List.set_cons_zero]
  refine mix_eff rfl fun K hK => ?_
  go_simp
  with_reducible refine (size_any _ _ Hm.out).mono ?_
  rintro e w' ⟨rfl, rfl⟩
  refine hK _ _ ?_
  clear hK K
  try simp only [Act.put, List.setIfInBounds_toArray, List.set_cons_succ, List.set_cons_zero]
  rw [Hsz.out]
  refine mix_pure (v := ?_) rfl rfl (by simp [Region.wanted, yielded]) ?_ ?_
  rotate_left
  · intro w; go_simp; try with_reducible rfl
  simp only [Act.put, List.setIfInBounds_toArray, List.set_cons_succ, List.set_cons_zero]
  refine mix_pure (v := ?_) rfl rfl (by simp [Region.wanted, yielded]) ?_ ?_
  rotate_left
  · intro w; go_simp; try with_reducible rfl
  simp only [Act.put, List.setIfInBounds_toArray, List.set_cons_succ, List.set_cons_zero]
  refine mix_pure (v := ?_) rfl rfl (by simp [Region.wanted, yielded]) ?_ ?_
  rotate_left
  · intro w; go_simp; try with_reducible rfl
  simp only [Act.put, List.setIfInBounds_toArray, List.set_cons_succ, List.set_cons_zero]
  refine mix_pure (v := ?_) rfl rfl (by simp [Region.wanted, yielded]) ?_ ?_
  rotate_left
  · intro w; go_simp; try with_reducible rfl
  simp only [Act.put, List.setIfInBounds_toArray, List.set_cons_succ, List.set_cons_zero]
  refine mix_pure (v := ?_) rfl rfl (by simp [Region.wanted, yielded]) ?_ ?_
  rotate_left
  · intro w; go_simp; try with_reducible rfl
  simp only [Act.put, List.setIfInBounds_toArray, List.set_cons_succ, List.set_cons_zero]
  refine mix_pure (v := ?_) rfl rfl (by simp [Region.wanted, yielded]) ?_ ?_
  rotate_left
  · intro w; go_simp; try with_reducible rfl
  simp only [Act.put, List.setIfInBounds_toArray, List.set_cons_succ, List.set_cons_zero]
  refine mix_pure (v := ?_) rfl rfl (by simp [Region.wanted, yielded]) ?_ ?_
  rotate_left
  · intro w; go_simp; try with_reducible rfl
  simp only [Act.put, List.setIfInBounds_toArray, List.set_cons_succ, List.set_cons_zero]
  refine mix_pure (v := ?_) rfl rfl (by simp [Region.wanted, yielded]) ?_ ?_
  rotate_left
  · intro w; go_simp; try with_reducible rfl
  simp only [Act.put, List.setIfInBounds_toArray, List.set_cons_succ, List.set_cons_zero]
  refine mix_pure (v := ?_) rfl rfl (by simp [Region.wanted, yielded]) ?_ ?_
  rotate_left
  · intro w; go_simp; try with_reducible rfl
  simp only [Act.put, List.setIfInBounds_toArray, List.set_cons_succ, List.set_cons_zero]
  refine mix_pure (v := ?_) rfl rfl (by simp [Region.wanted, yielded]) ?_ ?_
  rotate_left
  · intro w; go_simp; try with_reducible rfl
  simp only [Act.put, List.setIfInBounds_toArray, List.set_cons_succ, List.set_cons_zero]
  refine mix_pure (v := ?_) rfl rfl (by simp [Region.wanted, yielded]) ?_ ?_
  rotate_left
  · intro w; go_simp; try with_reducible rfl
  simp only [Act.put, List.setIfInBounds_toArray, List.set_cons_succ, List.set_cons_zero]
  refine mix_pure (v := ?_) rfl rfl (by simp [Region.wanted, yielded]) ?_ ?_
  rotate_left
  · intro w; go_simp; try with_reducible rfl
  simp only [Act.put, List.setIfInBounds_toArray, List.set_cons_succ, List.set_cons_zero]
  refine mix_pure (v := ?_) rfl rfl (by simp [Region.wanted, yielded]) ?_ ?_
  rotate_left
  · intro w; go_simp; try with_reducible rfl
  simp only [Act.put, List.setIfInBounds_toArray, List.set_cons_succ, List.set_cons_zero]
  refine mix_eff rfl fun K hK => ?_
  go_simp
  with_reducible refine (size_any _ _ Hn.out).mono ?_
  rintro e w' ⟨rfl, rfl⟩
  refine hK _ _ ?_
  clear hK K
  try simp only [Act.put, List.setIfInBounds_toArray, List.set_cons_succ, List.set_cons_zero]
  refine mix_pure (v := ?_) rfl rfl (by simp [Region.wanted, yielded]) ?_ ?_
  rotate_left
  · intro w; go_simp; try with_reducible rfl
  simp only [Act.put, List.setIfInBounds_toArray, List.set_cons_succ, List.set_cons_zero]
  refine mix_pure (v := ?_) rfl rfl (by simp [Region.wanted, yielded]) ?_ ?_
  rotate_left
  · intro w; go_simp; try with_reducible rfl
  simp only [Act.put, List.setIfInBounds_toArray, List.set_cons_succ, List.set_cons_zero]
  refine mix_pure (v := ?_) rfl rfl (by simp [Region.wanted, yielded]) ?_ ?_
  rotate_left
  · intro w; go_simp; try with_reducible rfl
  simp only [Act.put, List.setIfInBounds_toArray, List.set_cons_succ, List.set_cons_zero]
  refine mix_eff rfl fun K hK => ?_
  go_simp
  with_reducible refine (works_any _).mono ?_
  rintro e w3 ⟨rfl, hb⟩
  replace hB := bon hB.drew hb
  clear hb
  refine hK _ _ ?_
  clear hK K
  try simp only [Act.put, List.setIfInBounds_toArray, List.set_cons_succ, List.set_cons_zero]
  refine mix_pure (v := ?_) rfl rfl (by simp [Region.wanted, yielded]) ?_ ?_
  rotate_left
  · intro w; go_simp; try with_reducible rfl
  simp only [Act.put, List.setIfInBounds_toArray, List.set_cons_succ, List.set_cons_zero]
  refine mix_pure (v := ?_) rfl rfl (by simp [Region.wanted, yielded]) ?_ ?_
  rotate_left
  · intro w; go_simp; try with_reducible rfl
  simp only [Act.put, List.setIfInBounds_toArray, List.set_cons_succ, List.set_cons_zero]
  refine mix_end ?_
  go_wp2
  go_ret
  exact ⟨rfl, hB⟩
set_option maxRecDepth 100000 in
set_option maxHeartbeats 2000000 in
theorem lebApart_gt (n m : Nat) (w : World) (hn : n < 18446744073709551616) (hm : m < 18446744073709551616) (hnm : m < n) (hsz : (leb m).length < (leb n).length) :
    Calls Try.prog 7 #[.int .u64 (n : Int), .int .u64 (m : Int)] w fun e w' => e = .returned (.bool true) ∧ Below w.heap.size w w' := by
  have Hn := Lib.hid hn
  have Hm := Lib.hid hm
  have hap := leb_apart n m hn hm (by omega)
  have hd1 : decide (n < m) = false := by simp; omega
  have hd1b : ¬ n < m := by omega
  rw [Nat.min_eq_right (by omega)] at hap
  have hmin : min (((leb n).length : Nat) : Int) ((leb m).length : Int) = ((leb m).length : Int) := by omega
  have hd2 : decide ((leb n).length < (leb m).length) = false := by simp; omega
  have hd3 : (((leb n).length : Int) == ((leb m).length : Int)) = false := by simp; omega
  have Hap := Lib.hid hap
  have Hsz := Lib.hid hsz
  have hne : ((n : Int) == (m : Int)) = false := by simp; omega
  clear hn hm hap
  have hB := Below.refl w.heap.size w
  go_enter Try.func7, Try.ntmps7
  go_wp2_with fail
  with_reducible refine (put_nil n _ Hn.out).mono ?_
  rintro e w1 ⟨A1, c1, rfl, hc1, he1, o1, hb⟩
  replace hB := bon hB hb
  have r1 := own_reads o1
  clear hb
  go_wp2_with fail
  with_reducible refine (put_nil m _ Hm.out).mono ?_
  rintro e w2 ⟨A2, c2, rfl, hc2, he2, o2, hb⟩
  replace r1 := r1.on hb
  replace hB := bon hB hb
  have r2 := own_reads o2
  clear hb
  go_wp2
  have r1a := (r1.head (k := (leb m).length) (by omega)).drew
  have r2a := (r2.head (k := (leb m).length) (by omega)).drew
  rw [Nat.mul_one, u8s_take] at r1a r2a
  have hk1 : (leb m).length ≤ c1 := by omega
  have hk2 : (leb m).length ≤ c2 := by omega
  refine wp_region_order [(0, false), (1, false), (2, false), (3, false), (4, false), (5, false), (6, true), (7, false), (8, false), (9, false), (10, false), (11, false), (12, false), (14, false), (13, true), (15, true), (16, false), (17, false), (18, false), (20, false), (19, true), (21, true), (22, false), (23, false), (24, false), (25, false), (26, false), (27, false), (28, false), (29, false), (30, false), (31, false), (32, false), (33, false), (34, false), (35, true), (36, false), (37, false), (38, false), (39, true), (40, false), (41, false)] (by kernel_rfl) (by kernel_rfl) (by kernel_rfl) (fun d _ _ _ _ h => by cases d <;> exact h) ?_
  refine mix_pure (v := ?_) rfl rfl (by simp [Region.wanted, yielded]) ?_ ?_
  rotate_left
  · intro w; go_simp; try with_reducible rfl
  simp only [Act.put, List.setIfInBounds_toArray, List.set_cons_succ, List.set_cons_zero]
  refine mix_pure (v := ?_) rfl rfl (by simp [Region.wanted, yielded]) ?_ ?_
  rotate_left
  · intro w; go_simp; try with_reducible rfl
  simp only [Act.put, List.setIfInBounds_toArray, List.set_cons_succ, List.set_cons_zero]
  refine mix_pure (v := ?_) rfl rfl (by simp [Region.wanted, yielded]) ?_ ?_
  rotate_left
  · intro w; go_simp; try with_reducible rfl
  simp only [Act.put, List.setIfInBounds_toArray, List.set_cons_succ, List.set_cons_zero]
  refine mix_pure (v := ?_) rfl rfl (by simp [Region.wanted, yielded]) ?_ ?_
  rotate_left
  · intro w; go_simp; try with_reducible rfl
  simp only [Act.put, List.setIfInBounds_toArray, List.set_cons_succ, List.set_cons_zero]
  refine mix_pure (v := ?_) rfl rfl (by simp [Region.wanted, yielded]) ?_ ?_
  rotate_left
  · intro w; go_simp; try with_reducible rfl
  simp only [Act.put, List.setIfInBounds_toArray, List.set_cons_succ, List.set_cons_zero]
  refine mix_pure (v := ?_) rfl rfl (by simp [Region.wanted, yielded]) ?_ ?_
  rotate_left
  · intro w; go_simp; try with_reducible rfl
  simp only [Act.put, List.setIfInBounds_toArray, List.set_cons_succ, List.set_cons_zero]
  refine mix_eff rfl fun K hK => ?_
  go_simp
  with_reducible refine (eq_no _ _ _ _ _ _ _ _ _ r1a r2a Hap.out).mono ?_
  rintro e w' ⟨rfl, rfl⟩
  refine hK _ _ ?_
  clear hK K
  try simp only [Act.put, List.setIfInBounds_toArray, List.set_cons_succ, List.set_cons_zero]
  refine mix_pure (v := ?_) rfl rfl (by simp [Region.wanted, yielded]) ?_ ?_
  rotate_left
  · intro w; go_simp; try with_reducible rfl
  simp only [Act.put, List.setIfInBounds_toArray, List.set_cons_succ, List.set_cons_zero]
  refine mix_pure (v := ?_) rfl rfl (by simp [Region.wanted, yielded]) ?_ ?_
  rotate_left
  · intro w; go_simp; try with_reducible rfl
  simp only [Act.put, List.setIfInBounds_toArray, List.set_cons_succ, List.set_cons_zero]
  refine mix_pure (v := ?_) rfl rfl (by simp [Region.wanted, yielded]) ?_ ?_
  rotate_left
  · intro w; go_simp; try with_reducible rfl
  simp only [Act.put, List.setIfInBounds_toArray, List.set_cons_succ, List.set_cons_zero]
  refine mix_pure (v := ?_) rfl rfl (by simp [Region.wanted, yielded]) ?_ ?_
  rotate_left
  · intro w; go_simp; try with_reducible rfl
  simp only [Act.put, List.setIfInBounds_toArray, List.set_cons_succ, List.set_cons_zero]
  refine mix_pure (v := ?_) rfl rfl (by simp [Region.wanted, yielded]) ?_ ?_
  rotate_left
  · intro w; go_simp; try with_reducible rfl
  simp only [Act.put, List.setIfInBounds_toArray, List.set_cons_succ, List.set_cons_zero]
  refine mix_pure (v := ?_) rfl rfl (by simp [Region.wanted, yielded]) ?_ ?_
  rotate_left
  · intro w; go_simp; try with_reducible rfl
  simp only [Act.put, List.setIfInBounds_toArray, List.set_cons_succ, List.set_cons_zero]
  refine mix_pure (v := ?_) rfl rfl (by simp [Region.wanted, yielded]) ?_ ?_
  rotate_left
  · intro w; go_simp; try with_reducible rfl
  simp only [Act.put, List.setIfInBounds_toArray, List.set_cons_succ, List.set_cons_zero]
  refine mix_eff rfl fun K hK => ?_
  go_simp
  with_reducible refine (size_any _ _ Hn.out).mono ?_
  rintro e w' ⟨rfl, rfl⟩
  refine hK _ _ ?_
  clear hK K
  try simp only [Act.put, List.setIfInBounds_toArray, List.set_cons_succ, List.set_cons_zero]
  refine mix_eff rfl fun K hK => ?_
  go_simp
  with_reducible refine (size_any _ _ Hm.out).mono ?_
  rintro e w' ⟨rfl, rfl⟩
  refine hK _ _ ?_
  clear hK K
  try simp only [Act.put, List.setIfInBounds_toArray, List.set_cons_succ, List.set_cons_zero]
  refine mix_pure (v := ?_) rfl rfl (by simp [Region.wanted, yielded]) ?_ ?_
  rotate_left
  · intro w; go_simp; try with_reducible rfl
  simp only [Act.put, List.setIfInBounds_toArray, List.set_cons_succ, List.set_cons_zero]
  refine mix_pure (v := ?_) rfl rfl (by simp [Region.wanted, yielded]) ?_ ?_
  rotate_left
  · intro w; go_simp; try with_reducible rfl
  simp only [Act.put, List.setIfInBounds_toArray, List.set_cons_succ, List.set_cons_zero]
  refine mix_pure (v := ?_) rfl rfl (by simp [Region.wanted, yielded]) ?_ ?_
  rotate_left
  · intro w; go_simp; try with_reducible rfl
  simp only [Act.put, List.setIfInBounds_toArray, List.set_cons_succ, List.set_cons_zero]
  refine mix_pure (v := ?_) rfl rfl (by simp [Region.wanted, yielded]) ?_ ?_
  rotate_left
  · intro w; go_simp; try with_reducible rfl
  simp only [Act.put, List.setIfInBounds_toArray, List.set_cons_succ, List.set_cons_zero]
  refine mix_eff rfl fun K hK => ?_
  go_simp
  with_reducible refine (size_any _ _ Hn.out).mono ?_
  rintro e w' ⟨rfl, rfl⟩
  refine hK _ _ ?_
  clear hK K
  try simp only [Act.put, List.setIfInBounds_toArray, List.set_cons_succ, List.set_cons_zero]
  refine mix_eff rfl fun K hK => ?_
  go_simp
  with_reducible refine (size_any _ _ Hm.out).mono ?_
  rintro e w' ⟨rfl, rfl⟩
  refine hK _ _ ?_
  clear hK K
  try simp only [Act.put, List.setIfInBounds_toArray, List.set_cons_succ, List.set_cons_zero]
  refine mix_pure (v := ?_) rfl rfl (by simp [Region.wanted, yielded]) ?_ ?_
  rotate_left
  · intro w; go_simp; try with_reducible rfl
  simp only [Act.put, List.setIfInBounds_toArray, List.set_cons_succ, List.set_cons_zero]
  refine mix_pure (v := ?_) rfl rfl (by simp [Region.wanted, yielded]) ?_ ?_
  rotate_left
  · intro w; go_simp; try with_reducible rfl
  simp only [Act.put, List.setIfInBounds_toArray, List.set_cons_succ, List.set_cons_zero]
  refine mix_off rfl rfl (by simp [Region.wanted, yielded, undef]) ?_
  simp only [Act.put, List.setIfInBounds_toArray, List.set_cons_succ, List.set_cons_zero]
  refine mix_off rfl rfl (by simp [Region.wanted, yielded, undef]) ?_
  simp only [Act.put, List.setIfInBounds_toArray, List.set_cons_succ, List.set_cons_zero]
  refine mix_off rfl rfl (by simp [Region.wanted, yielded, undef]) ?_
  simp only [Act.put, List.setIfInBounds_toArray, List.set_cons_succ, List.set_cons_zero]
  refine mix_pure (v := ?_) rfl rfl (by simp [Region.wanted, yielded]) ?_ ?_
  rotate_left
  · intro w; go_simp; try with_reducible rfl
  simp only [Act.put, List.setIfInBounds_toArray, List.set_cons_succ, List.set_cons_zero]
  refine mix_pure (v := ?_) rfl rfl (by simp [Region.wanted, yielded]) ?_ ?_
  rotate_left
  · intro w; go_simp; try with_reducible rfl
  simp only [Act.put, List.setIfInBounds_toArray, List.set_cons_succ, List.set_cons_zero]
  refine mix_pure (v := ?_) rfl rfl (by simp [Region.wanted, yielded]) ?_ ?_
  rotate_left
  · intro w; go_simp; try with_reducible rfl
  simp only [Act.put, List.setIfInBounds_toArray, List.set_cons_succ, List.set_cons_zero]
  refine mix_pure (v := ?_) rfl rfl (by simp [Region.wanted, yielded]) ?_ ?_
  rotate_left
  · intro w; go_simp; try with_reducible rfl
  simp only [Act.put, List.setIfInBounds_toArray, List.set_cons_succ, List.set_cons_zero]
  refine mix_pure (v := ?_) rfl rfl (by simp [Region.wanted, yielded]) ?_ ?_
  rotate_left
  · intro w; go_simp; try with_reducible rfl
  simp only [Act.put, List.setIfInBounds_toArray, List.set_cons_succ, List.set_cons_zero]
  refine mix_pure (v := ?_) rfl rfl (by simp [Region.wanted, yielded]) ?_ ?_
  rotate_left
  · intro w; go_simp; try with_reducible rfl
  simp only [Act.put, List.setIfInBounds_toArray, List.set_cons_succ, List.set_cons_zero]
  refine mix_pure (v := ?_) rfl rfl (by simp [Region.wanted, yielded]) ?_ ?_
  rotate_left
  · intro w; go_simp; try with_reducible rfl
  simp only [Act.put, List.setIfInBounds_toArray, List.set_cons_succ, List.set_cons_zero]
  refine mix_pure (v := ?_) rfl rfl (by simp [Region.wanted, yielded]) ?_ ?_
  rotate_left
  · intro w; go_simp; try with_reducible rfl
  simp only [Act.put, List.setIfInBounds_toArray, List.set_cons_succ, List.set_cons_zero]
  refine mix_eff rfl fun K hK => ?_
  go_simp
  with_reducible refine (size_any _ _ Hn.out).mono ?_
  rintro e w' ⟨rfl, rfl⟩
  refine hK _ _ ?_
  clear hK K
  try simp only [Act.put, List.setIfInBounds_toArray, List.set_cons_succ, List.set_cons_zero]
  refine mix_pure (v := ?_) rfl rfl (by simp [Region.wanted, yielded]) ?_ ?_
  rotate_left
  · intro w; go_simp; try with_reducible rfl
  simp only [Act.put, List.setIfInBounds_toArray, List.set_cons_succ, List.set_cons_zero]
  refine mix_pure (v := ?_) rfl rfl (by simp [Region.wanted, yielded]) ?_ ?_
  rotate_left
  · intro w; go_simp; try with_reducible rfl
  simp only [Act.put, List.setIfInBounds_toArray, List.set_cons_succ, List.set_cons_zero]
  refine mix_pure (v := ?_) rfl rfl (by simp [Region.wanted, yielded]) ?_ ?_
  rotate_left
  · intro w; go_simp; try with_reducible rfl
  simp only [Act.put, List.setIfInBounds_toArray, List.set_cons_succ, List.set_cons_zero]
  refine mix_eff rfl fun K hK => ?_
  go_simp
  with_reducible refine (works_any _).mono ?_
  rintro e w3 ⟨rfl, hb⟩
  replace hB := bon hB.drew hb
  clear hb
  refine hK _ _ ?_
  clear hK K
  try simp only [Act.put, List.setIfInBounds_toArray, List.set_cons_succ, List.set_cons_zero]
  refine mix_pure (v := ?_) rfl rfl (by simp [Region.wanted, yielded]) ?_ ?_
  rotate_left
  · intro w; go_simp; try with_reducible rfl
  simp only [Act.put, List.setIfInBounds_toArray, List.set_cons_succ, List.set_cons_zero]
  refine mix_pure (v := ?_) rfl rfl (by simp [Region.wanted, yielded]) ?_ ?_
  rotate_left
  · intro w; go_simp; try with_reducible rfl
  simp only [Act.put, List.setIfInBounds_toArray, List.set_cons_succ, List.set_cons_zero]
  refine mix_end ?_
  go_wp2
  go_ret
  exact ⟨rfl, hB⟩
end Go.Proofs.Ytgkeoiljafnkeaa
