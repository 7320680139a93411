/- The law DictOnlyBytes, walked. -/
import Derived.Test.YtckaohkhknoocaaDictLawP
set_option linter.unusedVariables false
set_option linter.unusedSimpArgs false
namespace Go.Proofs.Ytckaohkhknoocaa
open Go.RowKit
set_option maxRecDepth 100000 in
set_option maxHeartbeats 1000000 in
theorem dictOnlyBytes_walk (A : Option Addr) (l c : Nat) (xs : List UInt8) (n most : Int) (w : World) (hr : Reads w w.heap.size 1 A l (u8s xs)) (hl : l ≤ c) (hc : c ≤ maxLen) (hn1 : -9223372036854775808 ≤ n) (hn2 : n ≤ 9223372036854775807) (hm : most ≤ 9223372036854775807) :
    Calls Try.prog 9 #[.slice A l c, .int .i64 n, .int .i64 most] w fun e w' => e = .returned (.bool true) ∧ Below w.heap.size w w' := by
  obtain ⟨m, ys, -, hcast, hm1, hm2, hry⟩ := cut_head hr 300 300 rfl
  have hmc : m ≤ c := by omega
  have hyl := reads_len hry
  unfold maxLen at hc
  have Hn1 := Lib.hid hn1
  have Hn2 := Lib.hid hn2
  have Hm := Lib.hid hm
  clear hn1 hn2 hm hm1
  go_enter Try.func9, Try.ntmps9
  go_wp2_with fail
  with_reducible refine (dworks_any _).mono ?_
  rintro e w0 ⟨rfl, hb0⟩
  have Hyl := Lib.hid hyl
  clear hyl
  go_wp2_with fail
  with_reducible refine (copyBytes_any A m _ ys _ (hry.on hb0) (by omega)).mono ?_
  rintro e w1 ⟨A1, c1, rfl, hc1, hd1, o1, hb1⟩
  have r1 := own_reads o1
  go_wp2_with fail
  with_reducible refine (dget_any A1 m c1 ys n most _ r1 hc1 hd1 Hn1.out Hn2.out Hm.out).mono ?_
  rcases hd : getDI ys n most with k | ⟨t, s⟩
  · have hk : k ≠ 0 := by
      rintro rfl
      exact getDI_err0 ys n most hd
    rintro e w2 ⟨hb2, rfl⟩
    have hn : ((k : Int) == 0) = false := by simp; omega
    have hn2 : ((k : Int) != 0) = true := by simp; omega
    clear hd hk
    go_wp2
    go_ret
    exact ⟨rfl, by repeat (first | exact Below.refl _ _ | assumption | refine bal ?_ _ | refine Below.drew ?_ | refine bon ?_ (by assumption))⟩
  · obtain ⟨h1, h2, h3, h4, h5⟩ := getDI_only ys n most t s hd
    rintro e w2 ⟨hb2, A2, c2, rfl, g1, g2, o2⟩
    have r2 := own_reads o2
    have r1b := r1.on hb2
    have H4 := Lib.hid h4
    have H5 := Lib.hid (show ∀ x ∈ t, x.size ≤ maxLen from fun x hx => by have := h5 x hx; have := Hyl.out; simp only [maxLen]; omega)
    have hsm : s ≤ m := by have := Hyl.out; omega
    have hput : (putD t).length ≤ 1099511627776 := by rw [h4, List.length_take]; omega
    have hhead := r1b.head (k := s) hsm
    rw [Nat.mul_one, u8s_take, ← h4] at hhead
    have hsl : (putD t).length = s := reads_len hhead
    have Hsl := Lib.hid hsl
    subst h1
    have db : decide ((s : Int) ≤ (m : Int)) = true := by simp; omega
    have db2 : decide (s ≤ m) = true := by simp; omega
    have hsc : s ≤ c1 := by omega
    have hc63 : c1 ≤ 9223372036854775807 := by unfold maxLen at hd1; omega
    clear hd h3 h4 h5 hsl
    go_wp2
    have hS : Below w2.heap.size w2 w2.drew := (Below.refl _ _).drew
    refine wp_region_keep (Below w2.heap.size w2) [(0, false), (1, false), (2, false), (3, false), (4, false), (5, false), (6, false), (7, false), (8, false), (9, false), (10, false), (11, false), (13, false), (14, false), (15, false), (12, true), (16, true), (17, false), (18, false)] (by kernel_rfl) (by kernel_rfl) (by kernel_rfl) (fun d _ _ _ _ h => by cases d <;> exact h) ?_
    refine held_pure (v := ?_) rfl rfl (by simp [Region.wanted, yielded]) hS ?_ ?_
    rotate_left
    · intro w hw; go_simp; try with_reducible rfl
    try simp only [Act.put, List.setIfInBounds_toArray, List.set_cons_succ, List.set_cons_zero]
    refine held_pure (v := ?_) rfl rfl (by simp [Region.wanted, yielded]) hS ?_ ?_
    rotate_left
    · intro w hw; go_simp; try with_reducible rfl
    try simp only [Act.put, List.setIfInBounds_toArray, List.set_cons_succ, List.set_cons_zero]
    refine held_pure (v := ?_) rfl rfl (by simp [Region.wanted, yielded]) hS ?_ ?_
    rotate_left
    · intro w hw; go_simp; try with_reducible rfl
    try simp only [Act.put, List.setIfInBounds_toArray, List.set_cons_succ, List.set_cons_zero]
    refine held_pure (v := ?_) rfl rfl (by simp [Region.wanted, yielded]) hS ?_ ?_
    rotate_left
    · intro w hw; go_simp; try with_reducible rfl
    try simp only [Act.put, List.setIfInBounds_toArray, List.set_cons_succ, List.set_cons_zero]
    refine held_pure (v := ?_) rfl rfl (by simp [Region.wanted, yielded]) hS ?_ ?_
    rotate_left
    · intro w hw; go_simp; try with_reducible rfl
    try simp only [Act.put, List.setIfInBounds_toArray, List.set_cons_succ, List.set_cons_zero]
    refine held_pure (v := ?_) rfl rfl (by simp [Region.wanted, yielded]) hS ?_ ?_
    rotate_left
    · intro w hw; go_simp; try with_reducible rfl
    try simp only [Act.put, List.setIfInBounds_toArray, List.set_cons_succ, List.set_cons_zero]
    refine held_pure (v := ?_) rfl rfl (by simp [Region.wanted, yielded]) hS ?_ ?_
    rotate_left
    · intro w hw; go_simp; try with_reducible rfl
    try simp only [Act.put, List.setIfInBounds_toArray, List.set_cons_succ, List.set_cons_zero]
    refine held_pure (v := ?_) rfl rfl (by simp [Region.wanted, yielded]) hS ?_ ?_
    rotate_left
    · intro w hw; go_simp; try with_reducible rfl
    try simp only [Act.put, List.setIfInBounds_toArray, List.set_cons_succ, List.set_cons_zero]
    refine held_pure (v := ?_) rfl rfl (by simp [Region.wanted, yielded]) hS ?_ ?_
    rotate_left
    · intro w hw; go_simp; try with_reducible rfl
    try simp only [Act.put, List.setIfInBounds_toArray, List.set_cons_succ, List.set_cons_zero]
    refine held_pure (v := ?_) rfl rfl (by simp [Region.wanted, yielded]) hS ?_ ?_
    rotate_left
    · intro w hw; go_simp; try with_reducible rfl
    try simp only [Act.put, List.setIfInBounds_toArray, List.set_cons_succ, List.set_cons_zero]
    refine held_pure (v := ?_) rfl rfl (by simp [Region.wanted, yielded]) hS ?_ ?_
    rotate_left
    · intro w hw; go_simp; try with_reducible rfl
    try simp only [Act.put, List.setIfInBounds_toArray, List.set_cons_succ, List.set_cons_zero]
    refine held_pure (v := ?_) rfl rfl (by simp [Region.wanted, yielded]) hS ?_ ?_
    rotate_left
    · intro w hw; go_simp; try with_reducible rfl
    try simp only [Act.put, List.setIfInBounds_toArray, List.set_cons_succ, List.set_cons_zero]
    refine held_pure (v := ?_) rfl rfl (by simp [Region.wanted, yielded]) hS ?_ ?_
    rotate_left
    · intro w hw; go_simp; try with_reducible rfl
    try simp only [Act.put, List.setIfInBounds_toArray, List.set_cons_succ, List.set_cons_zero]
    refine held_pure (v := ?_) rfl rfl (by simp [Region.wanted, yielded]) hS ?_ ?_
    rotate_left
    · intro w hw; go_simp; try with_reducible rfl
    try simp only [Act.put, List.setIfInBounds_toArray, List.set_cons_succ, List.set_cons_zero]
    refine held_pure (v := ?_) rfl rfl (by simp [Region.wanted, yielded]) hS ?_ ?_
    rotate_left
    · intro w hw; go_simp; try with_reducible rfl
    try simp only [Act.put, List.setIfInBounds_toArray, List.set_cons_succ, List.set_cons_zero]
    refine held_eff1 rfl (by simp [Region.wanted, yielded]) fun K hK => ?_
    go_simp
    with_reducible refine (put_lit A2 t.length c2 t (putD t) s _ (r2.drew) (by omega) H5.out (by omega) rfl Hsl.out).mono ?_
    rintro e w3 ⟨A3, c3, rfl, g3, g4, r3, hb3⟩
    refine held_go hK (by exact bon hS hb3) fun hS => ?_
    clear hK K
    try simp only [Act.put, List.setIfInBounds_toArray, List.set_cons_succ, List.set_cons_zero]
    refine held_eff1 rfl (by simp [Region.wanted, yielded]) fun K hK => ?_
    go_simp
    with_reducible refine (eq_yes A3 A1 s c3 s _ (putD t) (putD t) _ r3 (hhead.drew.on hb3) rfl).mono ?_
    rintro e w' ⟨rfl, rfl⟩
    refine held_go hK (by exact hS) fun hS => ?_
    clear hK K
    try simp only [Act.put, List.setIfInBounds_toArray, List.set_cons_succ, List.set_cons_zero]
    refine held_pure (v := ?_) rfl rfl (by simp [Region.wanted, yielded]) hS ?_ ?_
    rotate_left
    · intro w hw; go_simp; try with_reducible rfl
    try simp only [Act.put, List.setIfInBounds_toArray, List.set_cons_succ, List.set_cons_zero]
    refine held_pure (v := ?_) rfl rfl (by simp [Region.wanted, yielded]) hS ?_ ?_
    rotate_left
    · intro w hw; go_simp; try with_reducible rfl
    try simp only [Act.put, List.setIfInBounds_toArray, List.set_cons_succ, List.set_cons_zero]
    refine held_end ?_
    have hb3' : Below w2.heap.size w2 w3 := hS
    clear hS hb3
    go_wp2
    go_ret
    exact ⟨rfl, by repeat (first | exact Below.refl _ _ | assumption | refine bal ?_ _ | refine Below.drew ?_ | refine bon ?_ (by assumption))⟩
end Go.Proofs.Ytckaohkhknoocaa
