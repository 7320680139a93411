/- The law DictJoins, walked. -/
import Derived.Test.YtckaohkhknoocaaDictSplits
set_option linter.unusedVariables false
set_option linter.unusedSimpArgs false
namespace Go.Proofs.Ytckaohkhknoocaa
open Go.RowKit
set_option maxRecDepth 100000 in
set_option maxHeartbeats 2000000 in
theorem dictJoins_walk (A : Option Addr) (l c : Nat) (ts : List ByteArray) (B : Option Addr) (m c2 : Nat) (xs : List Int) (w : World) (hr : Reads w w.heap.size 1 A l (txs ts)) (hl : l ≤ c) (hc : c ≤ maxLen) (hz : ∀ s ∈ ts, s.size ≤ maxLen) (hr2 : Reads w w.heap.size 1 B m (ins xs)) (hl2 : m ≤ c2) (hc2 : c2 ≤ maxLen) (hz2 : ∀ n ∈ xs, -9223372036854775808 ≤ n ∧ n ≤ 9223372036854775807) :
    Calls Try.prog 4 #[.slice A l c, .slice B m c2] w fun e w' => e = .returned (.bool true) ∧ Below w.heap.size w w' := by
  obtain ⟨q, ys, hys, hcast, hm1, hm2, hry⟩ := cut_head_ins hr2 60 60 rfl
  have hmc : q ≤ c2 := by omega
  have Hz := Lib.hid hz
  have Hb := Lib.hid (show ∀ n ∈ ys, -9223372036854775808 ≤ n ∧ n ≤ 9223372036854775807 from fun n hn => hz2 n (by rw [hys.out] at hn; exact List.mem_of_mem_take hn))
  have hin := cutTs_len ts
  have Hmax := Lib.hid (cutTs_max ts)
  have Hyl := Lib.hid (ilen hry)
  have hc263 : c2 ≤ 9223372036854775807 := by unfold maxLen at hc2; omega
  clear hz hm1 hz2
  go_enter Try.func4, Try.ntmps4
  go_wp2
  have hS : Below w.heap.size w w.drew := (Below.refl _ _).drew
  refine wp_region_keep (Below w.heap.size w) [(0, false), (2, false), (3, false), (4, false), (5, false), (6, false), (1, true), (7, true), (8, false), (9, false)] (by kernel_rfl) (by kernel_rfl) (by kernel_rfl) (fun d _ _ _ _ h => by cases d <;> exact h) ?_
  refine held_pure (v := ?_) rfl rfl (by simp [Region.wanted, yielded]) hS ?_ ?_
  rotate_left
  · intro w hw; go_simp; try with_reducible rfl
  try simp only [Act.put, List.setIfInBounds_toArray, List.set_cons_succ, List.set_cons_zero]
  refine held_pure (v := ?_) rfl rfl (by simp [Region.wanted, yielded]) hS ?_ ?_
  rotate_left
  · intro w hw; go_simp; try with_reducible rfl
  try simp only [Act.put, List.setIfInBounds_toArray, List.set_cons_succ, List.set_cons_zero]
  refine held_pure (v := ?_) rfl rfl (by simp [Region.wanted, yielded]) hS ?_ ?_
  rotate_left
  · intro w hw; go_simp; try with_reducible rfl
  try simp only [Act.put, List.setIfInBounds_toArray, List.set_cons_succ, List.set_cons_zero]
  refine held_pure (v := ?_) rfl rfl (by simp [Region.wanted, yielded]) hS ?_ ?_
  rotate_left
  · intro w hw; go_simp; try with_reducible rfl
  try simp only [Act.put, List.setIfInBounds_toArray, List.set_cons_succ, List.set_cons_zero]
  refine held_pure (v := ?_) rfl rfl (by simp [Region.wanted, yielded]) hS ?_ ?_
  rotate_left
  · intro w hw; go_simp; try with_reducible rfl
  try simp only [Act.put, List.setIfInBounds_toArray, List.set_cons_succ, List.set_cons_zero]
  refine held_pure (v := ?_) rfl rfl (by simp [Region.wanted, yielded]) hS ?_ ?_
  rotate_left
  · intro w hw; go_simp; try with_reducible rfl
  try simp only [Act.put, List.setIfInBounds_toArray, List.set_cons_succ, List.set_cons_zero]
  refine held_eff1 rfl (by simp [Region.wanted, yielded]) fun K hK => ?_
  go_simp
  with_reducible refine (dcut_any A l c ts _ hr.drew hl hc Hz.out).mono ?_
  rintro e w1 ⟨A1, c1, rfl, g1, g2, o1, hb1⟩
  have r1 := own_reads o1
  generalize hil : (cutTs ts).length = il at hin g1 r1 ⊢
  have Hil := Lib.hid hil
  clear hil
  refine held_go hK (by exact bon hS hb1) fun hS => ?_
  clear hK K
  try simp only [Act.put, List.setIfInBounds_toArray, List.set_cons_succ, List.set_cons_zero]
  refine held_eff1 rfl (by simp [Region.wanted, yielded]) fun K hK => ?_
  go_simp
  with_reducible refine (copyInts_any B q c2 ys _ ((hry.drew).on hb1) (by omega)).mono ?_
  rintro e w2 ⟨A2, c2', rfl, g3, g4, o2, hb2⟩
  have r2 := own_reads o2
  refine held_go hK (by exact bon hS hb2) fun hS => ?_
  clear hK K
  try simp only [Act.put, List.setIfInBounds_toArray, List.set_cons_succ, List.set_cons_zero]
  refine held_pure (v := ?_) rfl rfl (by simp [Region.wanted, yielded]) hS ?_ ?_
  rotate_left
  · intro w hw; go_simp; try with_reducible rfl
  try simp only [Act.put, List.setIfInBounds_toArray, List.set_cons_succ, List.set_cons_zero]
  refine held_pure (v := ?_) rfl rfl (by simp [Region.wanted, yielded]) hS ?_ ?_
  rotate_left
  · intro w hw; go_simp; try with_reducible rfl
  try simp only [Act.put, List.setIfInBounds_toArray, List.set_cons_succ, List.set_cons_zero]
  refine held_end ?_
  clear hS o1 o2
  replace r1 := r1.on hb2
  go_wp2_with fail
  with_reducible refine (join_any A1 il c1 (cutTs ts) A2 q c2' ys _ r1 (by omega) Hmax.out r2 (by omega) Hb.out).mono ?_
  rcases hj : joinI (cutTs ts) ys with _ | t
  · rintro e w3 ⟨A3, c3, rfl, g5, g6, o3, hb3⟩
    have Hj := Lib.hid hj
    clear hj
    go_wp2_with fail
    with_reducible refine (refjoin_any A1 il c1 (cutTs ts) A2 q c2' ys _ (by repeat (first | exact reads_lit _ _ _ _ _ _ (by simp) rfl rfl | assumption | exact Reads.none_ | exact reads_t0 | exact reads_u0 | exact reads_i0 | refine Reads.al ?_ _ | refine Reads.drew ?_ | refine Reads.on ?_ (by assumption))) (by omega) (by repeat (first | exact reads_lit _ _ _ _ _ _ (by simp) rfl rfl | assumption | exact Reads.none_ | exact reads_t0 | exact reads_u0 | exact reads_i0 | refine Reads.al ?_ _ | refine Reads.drew ?_ | refine Reads.on ?_ (by assumption))) (by omega) Hb.out).mono ?_
    rw [Hj.out]
    rintro e w4 ⟨A4, c4, rfl, g7, g8, o4, hb4⟩
    go_wp2_with fail
    with_reducible refine (eqTexts_yes A3 A4 _ c3 _ c4 [] [] _ (by repeat (first | exact reads_lit _ _ _ _ _ _ (by simp) rfl rfl | assumption | exact Reads.none_ | exact reads_t0 | exact reads_u0 | exact reads_i0 | refine Reads.al ?_ _ | refine Reads.drew ?_ | refine Reads.on ?_ (by assumption))) (by repeat (first | exact reads_lit _ _ _ _ _ _ (by simp) rfl rfl | assumption | exact Reads.none_ | exact reads_t0 | exact reads_u0 | exact reads_i0 | refine Reads.al ?_ _ | refine Reads.drew ?_ | refine Reads.on ?_ (by assumption))) (by decide) (by decide) rfl).mono ?_
    rintro e w5 ⟨rfl, hb5⟩
    go_wp2_with fail
    with_reducible refine (dcut_any A l c ts _ (by repeat (first | exact reads_lit _ _ _ _ _ _ (by simp) rfl rfl | assumption | exact Reads.none_ | exact reads_t0 | exact reads_u0 | exact reads_i0 | refine Reads.al ?_ _ | refine Reads.drew ?_ | refine Reads.on ?_ (by assumption))) hl hc Hz.out).mono ?_
    rintro e w10 ⟨A9, c9, rfl, g9, g10, o9, hb10⟩
    have r9 := own_reads o9
    rw [Hil.out] at r9 ⊢
    go_wp2_with fail
    with_reducible refine (eqTexts_yes A1 A9 il c1 il c9 (cutTs ts) (cutTs ts) _ (by repeat (first | exact reads_lit _ _ _ _ _ _ (by simp) rfl rfl | assumption | exact Reads.none_ | exact reads_t0 | exact reads_u0 | exact reads_i0 | refine Reads.al ?_ _ | refine Reads.drew ?_ | refine Reads.on ?_ (by assumption))) (by repeat (first | exact reads_lit _ _ _ _ _ _ (by simp) rfl rfl | assumption | exact Reads.none_ | exact reads_t0 | exact reads_u0 | exact reads_i0 | refine Reads.al ?_ _ | refine Reads.drew ?_ | refine Reads.on ?_ (by assumption))) (nat_le_max _ (by omega)) (nat_le_max _ (by omega)) rfl).mono ?_
    rintro e w11 ⟨rfl, hb11⟩
    go_wp2_with fail
    with_reducible refine (eqInts_yes A2 B q _ q _ ys ys _ (by repeat (first | exact reads_lit _ _ _ _ _ _ (by simp) rfl rfl | assumption | exact Reads.none_ | exact reads_t0 | exact reads_u0 | exact reads_i0 | refine Reads.al ?_ _ | refine Reads.drew ?_ | refine Reads.on ?_ (by assumption))) (by repeat (first | exact reads_lit _ _ _ _ _ _ (by simp) rfl rfl | assumption | exact Reads.none_ | exact reads_t0 | exact reads_u0 | exact reads_i0 | refine Reads.al ?_ _ | refine Reads.drew ?_ | refine Reads.on ?_ (by assumption))) (nat_le_max _ (by omega)) (nat_le_max _ (by omega)) rfl).mono ?_
    rintro e w12 ⟨rfl, hb12⟩
    go_wp2_with fail
    with_reducible refine (dworks_any _).mono ?_
    rintro e w13 ⟨rfl, hb13⟩
    go_wp2
    go_ret
    exact ⟨rfl, by repeat (first | exact Below.refl _ _ | assumption | refine bal ?_ _ | refine Below.drew ?_ | refine bon ?_ (by assumption))⟩
  · rintro e w3 ⟨A3, c3, rfl, g5, g6, o3, hb3⟩
    have Hj := Lib.hid hj
    clear hj
    simp only [Option.getD_some, Option.isSome_some, if_true] at o3 g5 ⊢
    have r3 := own_reads o3
    have ht := Nat.le_trans g5 g6
    go_wp2_with fail
    with_reducible refine (refjoin_any A1 il c1 (cutTs ts) A2 q c2' ys _ (by repeat (first | exact reads_lit _ _ _ _ _ _ (by simp) rfl rfl | assumption | exact Reads.none_ | exact reads_t0 | exact reads_u0 | exact reads_i0 | refine Reads.al ?_ _ | refine Reads.drew ?_ | refine Reads.on ?_ (by assumption))) (by omega) (by repeat (first | exact reads_lit _ _ _ _ _ _ (by simp) rfl rfl | assumption | exact Reads.none_ | exact reads_t0 | exact reads_u0 | exact reads_i0 | refine Reads.al ?_ _ | refine Reads.drew ?_ | refine Reads.on ?_ (by assumption))) (by omega) Hb.out).mono ?_
    rw [Hj.out]
    rintro e w4 ⟨A4, c4, rfl, g7, g8, o4, hb4⟩
    simp only [Option.getD_some, Option.isSome_some, if_true] at o4 g7 ⊢
    have r4 := own_reads o4
    go_wp2_with fail
    with_reducible refine (eqTexts_yes A3 A4 t.length c3 t.length c4 t t _ (by repeat (first | exact reads_lit _ _ _ _ _ _ (by simp) rfl rfl | assumption | exact Reads.none_ | exact reads_t0 | exact reads_u0 | exact reads_i0 | refine Reads.al ?_ _ | refine Reads.drew ?_ | refine Reads.on ?_ (by assumption))) (by repeat (first | exact reads_lit _ _ _ _ _ _ (by simp) rfl rfl | assumption | exact Reads.none_ | exact reads_t0 | exact reads_u0 | exact reads_i0 | refine Reads.al ?_ _ | refine Reads.drew ?_ | refine Reads.on ?_ (by assumption))) ht ht rfl).mono ?_
    rintro e w5 ⟨rfl, hb5⟩
    go_wp2_with fail
    with_reducible refine (dcut_any A l c ts _ (by repeat (first | exact reads_lit _ _ _ _ _ _ (by simp) rfl rfl | assumption | exact Reads.none_ | exact reads_t0 | exact reads_u0 | exact reads_i0 | refine Reads.al ?_ _ | refine Reads.drew ?_ | refine Reads.on ?_ (by assumption))) hl hc Hz.out).mono ?_
    rintro e w10 ⟨A9, c9, rfl, g9, g10, o9, hb10⟩
    have r9 := own_reads o9
    rw [Hil.out] at r9 ⊢
    go_wp2_with fail
    with_reducible refine (eqTexts_yes A1 A9 il c1 il c9 (cutTs ts) (cutTs ts) _ (by repeat (first | exact reads_lit _ _ _ _ _ _ (by simp) rfl rfl | assumption | exact Reads.none_ | exact reads_t0 | exact reads_u0 | exact reads_i0 | refine Reads.al ?_ _ | refine Reads.drew ?_ | refine Reads.on ?_ (by assumption))) (by repeat (first | exact reads_lit _ _ _ _ _ _ (by simp) rfl rfl | assumption | exact Reads.none_ | exact reads_t0 | exact reads_u0 | exact reads_i0 | refine Reads.al ?_ _ | refine Reads.drew ?_ | refine Reads.on ?_ (by assumption))) (nat_le_max _ (by omega)) (nat_le_max _ (by omega)) rfl).mono ?_
    rintro e w11 ⟨rfl, hb11⟩
    go_wp2_with fail
    with_reducible refine (eqInts_yes A2 B q _ q _ ys ys _ (by repeat (first | exact reads_lit _ _ _ _ _ _ (by simp) rfl rfl | assumption | exact Reads.none_ | exact reads_t0 | exact reads_u0 | exact reads_i0 | refine Reads.al ?_ _ | refine Reads.drew ?_ | refine Reads.on ?_ (by assumption))) (by repeat (first | exact reads_lit _ _ _ _ _ _ (by simp) rfl rfl | assumption | exact Reads.none_ | exact reads_t0 | exact reads_u0 | exact reads_i0 | refine Reads.al ?_ _ | refine Reads.drew ?_ | refine Reads.on ?_ (by assumption))) (nat_le_max _ (by omega)) (nat_le_max _ (by omega)) rfl).mono ?_
    rintro e w12 ⟨rfl, hb12⟩
    go_wp2_with fail
    with_reducible refine (dworks_any _).mono ?_
    rintro e w13 ⟨rfl, hb13⟩
    go_wp2
    go_ret
    exact ⟨rfl, by repeat (first | exact Below.refl _ _ | assumption | refine bal ?_ _ | refine Below.drew ?_ | refine bon ?_ (by assumption))⟩
end Go.Proofs.Ytckaohkhknoocaa
