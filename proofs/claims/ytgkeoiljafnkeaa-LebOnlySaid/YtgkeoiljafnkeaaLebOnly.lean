/- The law LebOnly, walked. -/
import Derived.Test.YtgkeoiljafnkeaaLebLaw
import Derived.Test.YtgkeoiljafnkeaaOrder
set_option linter.unusedVariables false
set_option linter.unusedSimpArgs false
namespace Go.Proofs.Ytgkeoiljafnkeaa
open Go.RowKit
set_option maxRecDepth 100000 in
set_option maxHeartbeats 2000000 in
theorem lebOnly_any (A : Option Addr) (l c : Nat) (xs : List UInt8) (w : World) (hr : Reads w w.heap.size 1 A l (u8s xs)) (hl : l ≤ c) (hc : c ≤ maxLen) :
    Calls Try.prog 6 #[.slice A l c] w fun e w' => e = .returned (.bool true) ∧ Below w.heap.size w w' := by
  have hB := Below.refl w.heap.size w
  go_enter Try.func6, Try.ntmps6
  go_wp2_with fail
  with_reducible refine (works_any _).mono ?_
  rintro e w1 ⟨rfl, hb⟩
  replace hr := hr.on hb
  replace hB := bon hB hb
  clear hb
  go_wp2_with fail
  with_reducible refine (cut_any A l c xs _ hr hl hc).mono ?_
  rintro e w2 ⟨A2, c2, rfl, hc2, hd2, o2, hb⟩
  replace hr := hr.on hb
  replace hB := bon hB hb
  have r2 := own_reads o2
  clear hb
  generalize cut60 xs = ys at hc2 o2 r2 ⊢
  clear o2
  go_wp2_with fail
  with_reducible refine (get_any A2 _ c2 ys _ r2 hc2 hd2).mono ?_
  rintro e w' ⟨rfl, rfl⟩
  rcases get_only ys with ⟨n, h, hn, hle, htk⟩ | ⟨er, h, he, -⟩
  · rw [h, gotten_ok]
    have hpos := leb_pos n
    have Hn := Lib.hid hn
    have Htk := Lib.hid htk
    generalize hk : (leb n).length = k at hle hpos htk ⊢
    have Hk := Lib.hid hk
    clear h hn htk hk
    have hyl : ys.length ≤ 9223372036854775807 := by unfold maxLen at hd2; omega
    have hkc : k ≤ c2 := by omega
    have hk1 : decide ((1 : Int) ≤ (k : Int)) = true := by simp; omega
    have hk2 : decide (k ≤ ys.length) = true := by simp; omega
    have r2a := r2.head (k := k) hle
    rw [Nat.mul_one, u8s_take] at r2a
    go_wp2
    refine wp_region_order [(0, false), (1, false), (2, false), (3, false), (4, false), (5, false), (6, false), (7, false), (8, false), (9, false), (11, false), (12, false), (13, false), (10, true), (14, true), (15, false), (16, false)] (by kernel_rfl) (by kernel_rfl) (by kernel_rfl) (fun d _ _ _ _ h => by cases d <;> exact h) ?_
    refine mix_pure (v := ?_) rfl rfl (by simp [Region.wanted, yielded]) ?_ ?_
    rotate_left
    · intro w; go_simp; try with_reducible rfl
    simp only [Act.put, List.setIfInBounds_toArray, List.set_cons_succ, List.set_cons_zero]
    refine mix_pure (v := ?_) rfl rfl (by simp [Region.wanted, yielded]) ?_ ?_
    rotate_left
    · intro w; go_simp; try with_reducible rfl
    simp only [Act.put, List.setIfInBounds_toArray, List.set_cons_succ, List.set_cons_zero]
    refine mix_pure (v := ?_) rfl rfl (by simp [Region.wanted, yielded]) ?_ ?_
    rotate_left
    · intro w; go_simp; try with_reducible rfl
    simp only [Act.put, List.setIfInBounds_toArray, List.set_cons_succ, List.set_cons_zero]
    refine mix_pure (v := ?_) rfl rfl (by simp [Region.wanted, yielded]) ?_ ?_
    rotate_left
    · intro w; go_simp; try with_reducible rfl
    simp only [Act.put, List.setIfInBounds_toArray, List.set_cons_succ, List.set_cons_zero]
    refine mix_pure (v := ?_) rfl rfl (by simp [Region.wanted, yielded]) ?_ ?_
    rotate_left
    · intro w; go_simp; try with_reducible rfl
    simp only [Act.put, List.setIfInBounds_toArray, List.set_cons_succ, List.set_cons_zero]
    refine mix_pure (v := ?_) rfl rfl (by simp [Region.wanted, yielded]) ?_ ?_
    rotate_left
    · intro w; go_simp; try with_reducible rfl
    simp only [Act.put, List.setIfInBounds_toArray, List.set_cons_succ, List.set_cons_zero]
    refine mix_pure (v := ?_) rfl rfl (by simp [Region.wanted, yielded]) ?_ ?_
    rotate_left
    · intro w; go_simp; try with_reducible rfl
    simp only [Act.put, List.setIfInBounds_toArray, List.set_cons_succ, List.set_cons_zero]
    refine mix_pure (v := ?_) rfl rfl (by simp [Region.wanted, yielded]) ?_ ?_
    rotate_left
    · intro w; go_simp; try with_reducible rfl
    simp only [Act.put, List.setIfInBounds_toArray, List.set_cons_succ, List.set_cons_zero]
    refine mix_pure (v := ?_) rfl rfl (by simp [Region.wanted, yielded]) ?_ ?_
    rotate_left
    · intro w; go_simp; try with_reducible rfl
    simp only [Act.put, List.setIfInBounds_toArray, List.set_cons_succ, List.set_cons_zero]
    refine mix_pure (v := ?_) rfl rfl (by simp [Region.wanted, yielded]) ?_ ?_
    rotate_left
    · intro w; go_simp; try with_reducible rfl
    simp only [Act.put, List.setIfInBounds_toArray, List.set_cons_succ, List.set_cons_zero]
    refine mix_pure (v := ?_) rfl rfl (by simp [Region.wanted, yielded]) ?_ ?_
    rotate_left
    · intro w; go_simp; try with_reducible rfl
    simp only [Act.put, List.setIfInBounds_toArray, List.set_cons_succ, List.set_cons_zero]
    refine mix_pure (v := ?_) rfl rfl (by simp [Region.wanted, yielded]) ?_ ?_
    rotate_left
    · intro w; go_simp; try with_reducible rfl
    simp only [Act.put, List.setIfInBounds_toArray, List.set_cons_succ, List.set_cons_zero]
    refine mix_pure (v := ?_) rfl rfl (by simp [Region.wanted, yielded]) ?_ ?_
    rotate_left
    · intro w; go_simp; try with_reducible rfl
    simp only [Act.put, List.setIfInBounds_toArray, List.set_cons_succ, List.set_cons_zero]
    refine mix_eff rfl fun K hK => ?_
    go_simp
    with_reducible refine (put_nil n _ Hn.out).mono ?_
    rintro e w3 ⟨A3, c3, rfl, hc3, hd3, o3, hb⟩
    replace hB := bon hB.drew hb
    replace r2a := Reads.on r2a.drew hb
    clear hb
    refine hK _ _ ?_
    clear hK K
    try simp only [Act.put, List.setIfInBounds_toArray, List.set_cons_succ, List.set_cons_zero]
    refine mix_eff rfl fun K hK => ?_
    go_simp
    with_reducible refine (eq_yes _ _ _ _ _ _ (leb n) (ys.take k) _ (own_reads o3) r2a (by rw [← Hk.out]; exact Htk.out)).mono ?_
    rintro e w' ⟨rfl, rfl⟩
    refine hK _ _ ?_
    clear hK K
    try simp only [Act.put, List.setIfInBounds_toArray, List.set_cons_succ, List.set_cons_zero]
    refine mix_pure (v := ?_) rfl rfl (by simp [Region.wanted, yielded]) ?_ ?_
    rotate_left
    · intro w; go_simp; try with_reducible rfl
    simp only [Act.put, List.setIfInBounds_toArray, List.set_cons_succ, List.set_cons_zero]
    refine mix_pure (v := ?_) rfl rfl (by simp [Region.wanted, yielded]) ?_ ?_
    rotate_left
    · intro w; go_simp; try with_reducible rfl
    simp only [Act.put, List.setIfInBounds_toArray, List.set_cons_succ, List.set_cons_zero]
    refine mix_end ?_
    go_wp2
    go_ret
    exact ⟨rfl, hB⟩
  · rw [h]
    have hb : (!((er : Int) == 0)) = true := by simpa using he
    have hb' : ((er : Int) != 0) = true := by simpa using he
    simp only [gotten]
    go_wp2
    go_ret
    exact ⟨rfl, hB⟩
end Go.Proofs.Ytgkeoiljafnkeaa
