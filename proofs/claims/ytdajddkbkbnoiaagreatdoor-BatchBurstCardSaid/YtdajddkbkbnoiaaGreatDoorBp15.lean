/- Part 15 of the walks, merged: each text under its own heading. Conditions: none of its own; each lemma states what it asks. -/
import Derived.Test.YtdajddkbkbnoiaaGreatDoorBp14
import Derived.Laws.BitsAllLaws
set_option linter.unusedVariables false
set_option linter.unusedSimpArgs false
namespace Go.Proofs.YtdajddkbkbnoiaaGreatDoor
open Go.RowKit
set_option maxRecDepth 100000 in
set_option maxHeartbeats 2000000 in
theorem ceq_any (A B : Option Addr) (n c m d : Nat) (l1 l2 : List Cl) (w : World) (h1 : Reads w w.heap.size 3 A n (cls l1)) (h2 : Reads w w.heap.size 3 B m (cls l2)) (hn : n ≤ maxLen) :
    Calls Tryz.prog 111 #[.slice A n c, .slice B m d] w fun e w' => e = .returned (.bool (decide (l1 = l2))) ∧ Below w.heap.size w w' := by
  have H1 := Lib.hid h1
  have H2 := Lib.hid h2
  have Hl1 := Lib.hid (cls_len h1)
  have Hl2 := Lib.hid (cls_len h2)
  have hn63 : n ≤ 9223372036854775807 := by simp only [maxLen] at hn; omega
  clear h1 h2 hn
  by_cases hnm : n = m
  · subst hnm
    go_enter Tryz.func111, Tryz.ntmps111
    go_wp2
    go_loopw [13] (fun i wr => ∃ j : Nat, j ≤ n ∧ i = .int .i64 (j : Int) ∧ Hid (l1.take j = l2.take j) ∧ Hid (Below w.heap.size w wr)) (fun i _ => n - (intOf i).toNat)
    case atStart => exact ⟨0, Nat.zero_le _, rfl, Lib.hid rfl, Lib.hid (Below.refl _ _)⟩
    case round =>
      obtain ⟨j, hj, rfl, Htk, HB⟩ := hrel
      by_cases hlt : j < n
      · obtain ⟨ad, u, x, s, rfl, hbk, hx, a0, a1, a2⟩ := cls_at (H1.out.below HB.out) hlt
        obtain ⟨ad', u', x', s', rfl, hbk', hx', b0, b1, b2⟩ := cls_at (H2.out.below HB.out) hlt
        have Hx := Lib.hid hx
        have Hx' := Lib.hid hx'
        have HA0 := Lib.hid (show ∀ w', w' = wr.drew → w'.cell? (ad.add (j * 3)) = some (.bool u) from fun w' h => by rw [h]; exact a0)
        have HA1 := Lib.hid (show ∀ w', w' = wr.drew → w'.cell? ⟨(ad.add (j * 3)).block, (ad.add (j * 3)).off + 1, none⟩ = some (.int .i64 x) from fun w' h => by rw [h]; exact a1)
        have HA2 := Lib.hid (show ∀ w', w' = wr.drew → w'.cell? ⟨(ad.add (j * 3)).block, (ad.add (j * 3)).off + 2, none⟩ = some (.string s) from fun w' h => by rw [h]; exact a2)
        have HB0 := Lib.hid (show ∀ w', w' = wr.drew → w'.cell? (ad'.add (j * 3)) = some (.bool u') from fun w' h => by rw [h]; exact b0)
        have HB1 := Lib.hid (show ∀ w', w' = wr.drew → w'.cell? ⟨(ad'.add (j * 3)).block, (ad'.add (j * 3)).off + 1, none⟩ = some (.int .i64 x') from fun w' h => by rw [h]; exact b1)
        have HB2 := Lib.hid (show ∀ w', w' = wr.drew → w'.cell? ⟨(ad'.add (j * 3)).block, (ad'.add (j * 3)).off + 2, none⟩ = some (.string s') from fun w' h => by rw [h]; exact b2)
        clear hx hx' hbk hbk' a0 a1 a2 b0 b1 b2
        by_cases hc : (u, x, s) = (u', x', s')
        · simp only [Prod.mk.injEq] at hc
          obtain ⟨rfl, rfl, rfl⟩ := hc
          have Htk2 := Lib.hid (show l1.take (j + 1) = l2.take (j + 1) by rw [List.take_add_one, List.take_add_one, Hx.out, Hx'.out, Htk.out])
          go_wp2
          have hji : (j : Int) < (n : Int) := by omega
          have hS : wr.drew = wr.drew := rfl
          refine wp_region_keep (fun w' => w' = wr.drew) [(0, false), (1, false), (2, false), (3, false), (4, false), (5, false), (6, false), (7, false), (8, false)] (by kernel_rfl) (by kernel_rfl) (by kernel_rfl) (fun d _ _ _ _ h => by cases d <;> exact h) ?_
          iterate 3
            refine held_pure (v := ?_) rfl rfl (by simp [Region.wanted, yielded]) hS ?_ ?_
            rotate_left
            · intro w hw; go_simp; try with_reducible rfl
            try simp only [Act.put, List.setIfInBounds_toArray, List.set_cons_succ, List.set_cons_zero]
          refine held_pure (v := ?_) rfl rfl (by simp [Region.wanted, yielded]) hS ?_ ?_
          rotate_left
          · intro w hw; have c0 := HA0.out w hw; have c1 := HA1.out w hw; have c2 := HA2.out w hw; clear hw; go_simp; try with_reducible rfl
          try simp only [Act.put, List.setIfInBounds_toArray, List.set_cons_succ, List.set_cons_zero]
          iterate 3
            refine held_pure (v := ?_) rfl rfl (by simp [Region.wanted, yielded]) hS ?_ ?_
            rotate_left
            · intro w hw; go_simp; try with_reducible rfl
            try simp only [Act.put, List.setIfInBounds_toArray, List.set_cons_succ, List.set_cons_zero]
          refine held_pure (v := ?_) rfl rfl (by simp [Region.wanted, yielded]) hS ?_ ?_
          rotate_left
          · intro w hw; have c0 := HB0.out w hw; have c1 := HB1.out w hw; have c2 := HB2.out w hw; clear hw; go_simp; try with_reducible rfl
          try simp only [Act.put, List.setIfInBounds_toArray, List.set_cons_succ, List.set_cons_zero]
          refine held_pure (v := ?_) rfl rfl (by simp [Region.wanted, yielded]) hS ?_ ?_
          rotate_left
          · intro w hw; go_simp; try with_reducible rfl
          try simp only [Act.put, List.setIfInBounds_toArray, List.set_cons_succ, List.set_cons_zero]
          refine held_end ?_
          go_wp2
          go_roundw
          case rel => exact ⟨j + 1, by omega, by go_num, Htk2, Lib.hid HB.out.drew⟩
          case measure => simp [intOf]; omega
        · have Hne := Lib.hid (show decide (l1 = l2) = false from decide_eq_false (fun h => hc (by subst h; exact Option.some.inj (Hx.out.symm.trans Hx'.out))))
          have Hc := Lib.hid hc
          clear hc
          cases u with
          | false =>
            cases u' with
            | false =>
              by_cases hxx : x = x'
              · subst hxx
                have hss : ¬ s.toList = s'.toList := by
                  intro h
                  apply Hc.out
                  have : (s.toList == s'.toList) = true := by rw [h]; simp
                  rw [text_eqb2] at this
                  rw [of_decide_eq_true this]
                go_wp2
                have hji : (j : Int) < (n : Int) := by omega
                have hS : wr.drew = wr.drew := rfl
                refine wp_region_keep (fun w' => w' = wr.drew) [(0, false), (1, false), (2, false), (3, false), (4, false), (5, false), (6, false), (7, false), (8, false)] (by kernel_rfl) (by kernel_rfl) (by kernel_rfl) (fun d _ _ _ _ h => by cases d <;> exact h) ?_
                iterate 3
                  refine held_pure (v := ?_) rfl rfl (by simp [Region.wanted, yielded]) hS ?_ ?_
                  rotate_left
                  · intro w hw; go_simp; try with_reducible rfl
                  try simp only [Act.put, List.setIfInBounds_toArray, List.set_cons_succ, List.set_cons_zero]
                refine held_pure (v := ?_) rfl rfl (by simp [Region.wanted, yielded]) hS ?_ ?_
                rotate_left
                · intro w hw; have c0 := HA0.out w hw; have c1 := HA1.out w hw; have c2 := HA2.out w hw; clear hw; go_simp; try with_reducible rfl
                try simp only [Act.put, List.setIfInBounds_toArray, List.set_cons_succ, List.set_cons_zero]
                iterate 3
                  refine held_pure (v := ?_) rfl rfl (by simp [Region.wanted, yielded]) hS ?_ ?_
                  rotate_left
                  · intro w hw; go_simp; try with_reducible rfl
                  try simp only [Act.put, List.setIfInBounds_toArray, List.set_cons_succ, List.set_cons_zero]
                refine held_pure (v := ?_) rfl rfl (by simp [Region.wanted, yielded]) hS ?_ ?_
                rotate_left
                · intro w hw; have c0 := HB0.out w hw; have c1 := HB1.out w hw; have c2 := HB2.out w hw; clear hw; go_simp; try with_reducible rfl
                try simp only [Act.put, List.setIfInBounds_toArray, List.set_cons_succ, List.set_cons_zero]
                refine held_pure (v := ?_) rfl rfl (by simp [Region.wanted, yielded]) hS ?_ ?_
                rotate_left
                · intro w hw; go_simp; try with_reducible rfl
                try simp only [Act.put, List.setIfInBounds_toArray, List.set_cons_succ, List.set_cons_zero]
                refine held_end ?_
                go_wp2
                go_ret
                rw [Hne.out]
                exact ⟨rfl, HB.out.drew⟩
              · have hxb : (x == x') = false := by simpa using hxx
                go_wp2
                have hji : (j : Int) < (n : Int) := by omega
                have hS : wr.drew = wr.drew := rfl
                refine wp_region_keep (fun w' => w' = wr.drew) [(0, false), (1, false), (2, false), (3, false), (4, false), (5, false), (6, false), (7, false), (8, false)] (by kernel_rfl) (by kernel_rfl) (by kernel_rfl) (fun d _ _ _ _ h => by cases d <;> exact h) ?_
                iterate 3
                  refine held_pure (v := ?_) rfl rfl (by simp [Region.wanted, yielded]) hS ?_ ?_
                  rotate_left
                  · intro w hw; go_simp; try with_reducible rfl
                  try simp only [Act.put, List.setIfInBounds_toArray, List.set_cons_succ, List.set_cons_zero]
                refine held_pure (v := ?_) rfl rfl (by simp [Region.wanted, yielded]) hS ?_ ?_
                rotate_left
                · intro w hw; have c0 := HA0.out w hw; have c1 := HA1.out w hw; have c2 := HA2.out w hw; clear hw; go_simp; try with_reducible rfl
                try simp only [Act.put, List.setIfInBounds_toArray, List.set_cons_succ, List.set_cons_zero]
                iterate 3
                  refine held_pure (v := ?_) rfl rfl (by simp [Region.wanted, yielded]) hS ?_ ?_
                  rotate_left
                  · intro w hw; go_simp; try with_reducible rfl
                  try simp only [Act.put, List.setIfInBounds_toArray, List.set_cons_succ, List.set_cons_zero]
                refine held_pure (v := ?_) rfl rfl (by simp [Region.wanted, yielded]) hS ?_ ?_
                rotate_left
                · intro w hw; have c0 := HB0.out w hw; have c1 := HB1.out w hw; have c2 := HB2.out w hw; clear hw; go_simp; try with_reducible rfl
                try simp only [Act.put, List.setIfInBounds_toArray, List.set_cons_succ, List.set_cons_zero]
                refine held_pure (v := ?_) rfl rfl (by simp [Region.wanted, yielded]) hS ?_ ?_
                rotate_left
                · intro w hw; go_simp; try with_reducible rfl
                try simp only [Act.put, List.setIfInBounds_toArray, List.set_cons_succ, List.set_cons_zero]
                refine held_end ?_
                go_wp2
                go_ret
                rw [Hne.out]
                exact ⟨rfl, HB.out.drew⟩
            | true =>
              go_wp2
              have hji : (j : Int) < (n : Int) := by omega
              have hS : wr.drew = wr.drew := rfl
              refine wp_region_keep (fun w' => w' = wr.drew) [(0, false), (1, false), (2, false), (3, false), (4, false), (5, false), (6, false), (7, false), (8, false)] (by kernel_rfl) (by kernel_rfl) (by kernel_rfl) (fun d _ _ _ _ h => by cases d <;> exact h) ?_
              iterate 3
                refine held_pure (v := ?_) rfl rfl (by simp [Region.wanted, yielded]) hS ?_ ?_
                rotate_left
                · intro w hw; go_simp; try with_reducible rfl
                try simp only [Act.put, List.setIfInBounds_toArray, List.set_cons_succ, List.set_cons_zero]
              refine held_pure (v := ?_) rfl rfl (by simp [Region.wanted, yielded]) hS ?_ ?_
              rotate_left
              · intro w hw; have c0 := HA0.out w hw; have c1 := HA1.out w hw; have c2 := HA2.out w hw; clear hw; go_simp; try with_reducible rfl
              try simp only [Act.put, List.setIfInBounds_toArray, List.set_cons_succ, List.set_cons_zero]
              iterate 3
                refine held_pure (v := ?_) rfl rfl (by simp [Region.wanted, yielded]) hS ?_ ?_
                rotate_left
                · intro w hw; go_simp; try with_reducible rfl
                try simp only [Act.put, List.setIfInBounds_toArray, List.set_cons_succ, List.set_cons_zero]
              refine held_pure (v := ?_) rfl rfl (by simp [Region.wanted, yielded]) hS ?_ ?_
              rotate_left
              · intro w hw; have c0 := HB0.out w hw; have c1 := HB1.out w hw; have c2 := HB2.out w hw; clear hw; go_simp; try with_reducible rfl
              try simp only [Act.put, List.setIfInBounds_toArray, List.set_cons_succ, List.set_cons_zero]
              refine held_pure (v := ?_) rfl rfl (by simp [Region.wanted, yielded]) hS ?_ ?_
              rotate_left
              · intro w hw; go_simp; try with_reducible rfl
              try simp only [Act.put, List.setIfInBounds_toArray, List.set_cons_succ, List.set_cons_zero]
              refine held_end ?_
              go_wp2
              go_ret
              rw [Hne.out]
              exact ⟨rfl, HB.out.drew⟩
          | true =>
            cases u' with
            | false =>
              go_wp2
              have hji : (j : Int) < (n : Int) := by omega
              have hS : wr.drew = wr.drew := rfl
              refine wp_region_keep (fun w' => w' = wr.drew) [(0, false), (1, false), (2, false), (3, false), (4, false), (5, false), (6, false), (7, false), (8, false)] (by kernel_rfl) (by kernel_rfl) (by kernel_rfl) (fun d _ _ _ _ h => by cases d <;> exact h) ?_
              iterate 3
                refine held_pure (v := ?_) rfl rfl (by simp [Region.wanted, yielded]) hS ?_ ?_
                rotate_left
                · intro w hw; go_simp; try with_reducible rfl
                try simp only [Act.put, List.setIfInBounds_toArray, List.set_cons_succ, List.set_cons_zero]
              refine held_pure (v := ?_) rfl rfl (by simp [Region.wanted, yielded]) hS ?_ ?_
              rotate_left
              · intro w hw; have c0 := HA0.out w hw; have c1 := HA1.out w hw; have c2 := HA2.out w hw; clear hw; go_simp; try with_reducible rfl
              try simp only [Act.put, List.setIfInBounds_toArray, List.set_cons_succ, List.set_cons_zero]
              iterate 3
                refine held_pure (v := ?_) rfl rfl (by simp [Region.wanted, yielded]) hS ?_ ?_
                rotate_left
                · intro w hw; go_simp; try with_reducible rfl
                try simp only [Act.put, List.setIfInBounds_toArray, List.set_cons_succ, List.set_cons_zero]
              refine held_pure (v := ?_) rfl rfl (by simp [Region.wanted, yielded]) hS ?_ ?_
              rotate_left
              · intro w hw; have c0 := HB0.out w hw; have c1 := HB1.out w hw; have c2 := HB2.out w hw; clear hw; go_simp; try with_reducible rfl
              try simp only [Act.put, List.setIfInBounds_toArray, List.set_cons_succ, List.set_cons_zero]
              refine held_pure (v := ?_) rfl rfl (by simp [Region.wanted, yielded]) hS ?_ ?_
              rotate_left
              · intro w hw; go_simp; try with_reducible rfl
              try simp only [Act.put, List.setIfInBounds_toArray, List.set_cons_succ, List.set_cons_zero]
              refine held_end ?_
              go_wp2
              go_ret
              rw [Hne.out]
              exact ⟨rfl, HB.out.drew⟩
            | true =>
              by_cases hxx : x = x'
              · subst hxx
                have hss : ¬ s.toList = s'.toList := by
                  intro h
                  apply Hc.out
                  have : (s.toList == s'.toList) = true := by rw [h]; simp
                  rw [text_eqb2] at this
                  rw [of_decide_eq_true this]
                go_wp2
                have hji : (j : Int) < (n : Int) := by omega
                have hS : wr.drew = wr.drew := rfl
                refine wp_region_keep (fun w' => w' = wr.drew) [(0, false), (1, false), (2, false), (3, false), (4, false), (5, false), (6, false), (7, false), (8, false)] (by kernel_rfl) (by kernel_rfl) (by kernel_rfl) (fun d _ _ _ _ h => by cases d <;> exact h) ?_
                iterate 3
                  refine held_pure (v := ?_) rfl rfl (by simp [Region.wanted, yielded]) hS ?_ ?_
                  rotate_left
                  · intro w hw; go_simp; try with_reducible rfl
                  try simp only [Act.put, List.setIfInBounds_toArray, List.set_cons_succ, List.set_cons_zero]
                refine held_pure (v := ?_) rfl rfl (by simp [Region.wanted, yielded]) hS ?_ ?_
                rotate_left
                · intro w hw; have c0 := HA0.out w hw; have c1 := HA1.out w hw; have c2 := HA2.out w hw; clear hw; go_simp; try with_reducible rfl
                try simp only [Act.put, List.setIfInBounds_toArray, List.set_cons_succ, List.set_cons_zero]
                iterate 3
                  refine held_pure (v := ?_) rfl rfl (by simp [Region.wanted, yielded]) hS ?_ ?_
                  rotate_left
                  · intro w hw; go_simp; try with_reducible rfl
                  try simp only [Act.put, List.setIfInBounds_toArray, List.set_cons_succ, List.set_cons_zero]
                refine held_pure (v := ?_) rfl rfl (by simp [Region.wanted, yielded]) hS ?_ ?_
                rotate_left
                · intro w hw; have c0 := HB0.out w hw; have c1 := HB1.out w hw; have c2 := HB2.out w hw; clear hw; go_simp; try with_reducible rfl
                try simp only [Act.put, List.setIfInBounds_toArray, List.set_cons_succ, List.set_cons_zero]
                refine held_pure (v := ?_) rfl rfl (by simp [Region.wanted, yielded]) hS ?_ ?_
                rotate_left
                · intro w hw; go_simp; try with_reducible rfl
                try simp only [Act.put, List.setIfInBounds_toArray, List.set_cons_succ, List.set_cons_zero]
                refine held_end ?_
                go_wp2
                go_ret
                rw [Hne.out]
                exact ⟨rfl, HB.out.drew⟩
              · have hxb : (x == x') = false := by simpa using hxx
                go_wp2
                have hji : (j : Int) < (n : Int) := by omega
                have hS : wr.drew = wr.drew := rfl
                refine wp_region_keep (fun w' => w' = wr.drew) [(0, false), (1, false), (2, false), (3, false), (4, false), (5, false), (6, false), (7, false), (8, false)] (by kernel_rfl) (by kernel_rfl) (by kernel_rfl) (fun d _ _ _ _ h => by cases d <;> exact h) ?_
                iterate 3
                  refine held_pure (v := ?_) rfl rfl (by simp [Region.wanted, yielded]) hS ?_ ?_
                  rotate_left
                  · intro w hw; go_simp; try with_reducible rfl
                  try simp only [Act.put, List.setIfInBounds_toArray, List.set_cons_succ, List.set_cons_zero]
                refine held_pure (v := ?_) rfl rfl (by simp [Region.wanted, yielded]) hS ?_ ?_
                rotate_left
                · intro w hw; have c0 := HA0.out w hw; have c1 := HA1.out w hw; have c2 := HA2.out w hw; clear hw; go_simp; try with_reducible rfl
                try simp only [Act.put, List.setIfInBounds_toArray, List.set_cons_succ, List.set_cons_zero]
                iterate 3
                  refine held_pure (v := ?_) rfl rfl (by simp [Region.wanted, yielded]) hS ?_ ?_
                  rotate_left
                  · intro w hw; go_simp; try with_reducible rfl
                  try simp only [Act.put, List.setIfInBounds_toArray, List.set_cons_succ, List.set_cons_zero]
                refine held_pure (v := ?_) rfl rfl (by simp [Region.wanted, yielded]) hS ?_ ?_
                rotate_left
                · intro w hw; have c0 := HB0.out w hw; have c1 := HB1.out w hw; have c2 := HB2.out w hw; clear hw; go_simp; try with_reducible rfl
                try simp only [Act.put, List.setIfInBounds_toArray, List.set_cons_succ, List.set_cons_zero]
                refine held_pure (v := ?_) rfl rfl (by simp [Region.wanted, yielded]) hS ?_ ?_
                rotate_left
                · intro w hw; go_simp; try with_reducible rfl
                try simp only [Act.put, List.setIfInBounds_toArray, List.set_cons_succ, List.set_cons_zero]
                refine held_end ?_
                go_wp2
                go_ret
                rw [Hne.out]
                exact ⟨rfl, HB.out.drew⟩
      · obtain rfl : j = n := by omega
        have He := Lib.hid (show decide (l1 = l2) = true by
          have := Htk.out
          rw [List.take_of_length_le (by rw [Hl1.out]; exact Nat.le_refl _), List.take_of_length_le (by rw [Hl2.out]; exact Nat.le_refl _)] at this
          exact decide_eq_true this)
        go_wp2
        go_ret
        rw [He.out]
        exact ⟨rfl, HB.out⟩
  · have hne : (n == m) = false := by simpa using hnm
    have hne2 : ((n : Int) == (m : Int)) = false := by simp; omega
    have Hne := Lib.hid (show decide (l1 = l2) = false from decide_eq_false (fun h => hnm (by rw [← Hl1.out, ← Hl2.out, h])))
    go_enter Tryz.func111, Tryz.ntmps111
    go_wp2
    go_ret
    rw [Hne.out]
    exact ⟨rfl, Below.refl _ _⟩
set_option maxRecDepth 100000 in
theorem rsame_any (A B : Option Addr) (n c m d : Nat) (l1 l2 : List Cl) (w : World) (h1 : Reads w w.heap.size 3 A n (cls l1)) (h2 : Reads w w.heap.size 3 B m (cls l2)) (hn : n ≤ maxLen) :
    Calls Tryz.prog 67 #[.slice A n c, .slice B m d] w fun e w' => e = .returned (.bool (decide (l1 = l2))) ∧ Below w.heap.size w w' := by
  have HK := Lib.hid (ceq_any A B n c m d l1 l2 w h1 h2 hn)
  clear h1 h2 hn
  go_enter Tryz.func67, Tryz.ntmps67
  go_wp2_with fail
  with_reducible refine HK.out.mono ?_
  rintro e w1 ⟨rfl, hb⟩
  have HB := Lib.hid hb
  clear hb
  go_wp2
  go_ret
  exact ⟨rfl, HB.out⟩
set_option maxRecDepth 100000 in
set_option maxHeartbeats 1000000 in
theorem isame_any (A B : Option Addr) (n c m d : Nat) (x y : Int) (l1 l2 : List Cl) (w : World) (h1 : Reads w w.heap.size 3 A n (cls l1)) (h2 : Reads w w.heap.size 3 B m (cls l2)) (hn : n ≤ maxLen) :
    Calls Tryz.prog 66 #[.agg #[.slice A n c, .int .i64 x], .agg #[.slice B m d, .int .i64 y]] w fun e w' => e = .returned (.bool (decide ((l1, x) = (l2, y)))) ∧ Below w.heap.size w w' := by
  have HB1 := Lib.hid (bal (bal (Below.refl w.heap.size w) (.cells #[.slice A n c, .int .i64 x] 65)) (.cells #[.slice B m d, .int .i64 y] 65))
  have P1 := Lib.hid ((Blk.new w 65 #[.slice A n c, .int .i64 x]).alloc (.cells #[.slice B m d, .int .i64 y] 65))
  have P2 := Lib.hid (Blk.new (w.alloc (.cells #[.slice A n c, .int .i64 x] 65)) 65 #[.slice B m d, .int .i64 y])
  have HK := Lib.hid (rsame_any A B n c m d l1 l2 ((w.alloc (.cells #[.slice A n c, .int .i64 x] 65)).alloc (.cells #[.slice B m d, .int .i64 y] 65)) (h1.on HB1.out) (h2.on HB1.out) hn)
  clear h1 h2 hn
  by_cases hxy : x = y
  · subst hxy
    have db : (x == x) = true := by simp
    go_enter Tryz.func66, Tryz.ntmps66
    go_wp2_with fail
    with_reducible refine HK.out.mono ?_
    rintro e w1 ⟨rfl, hb⟩
    have HB := Lib.hid (bon HB1.out hb)
    clear hb
    go_wp2
    go_ret
    refine ⟨?_, HB.out⟩
    simp
  · have db : (x == y) = false := by simpa using hxy
    have HE := Lib.hid (show decide ((l1, x) = (l2, y)) = false from decide_eq_false (fun h => hxy (Prod.mk.inj h).2))
    clear hxy
    go_enter Tryz.func66, Tryz.ntmps66
    go_wp2
    go_ret
    exact ⟨by rw [HE.out]; rfl, HB1.out⟩
set_option maxRecDepth 100000 in
set_option maxHeartbeats 1000000 in
theorem esame_any (A B : Option Addr) (n c m d : Nat) (l1 l2 : List It) (w : World) (h1 : ItemsAt w w.heap.size A n l1) (h2 : ItemsAt w w.heap.size B m l2) (hn : n ≤ maxLen) :
    Calls Tryz.prog 68 #[.slice A n c, .slice B m d, .func (.func 66) #[] #[]] w fun e w' => e = .returned (.bool (decide (l1 = l2))) ∧ Below w.heap.size w w' := by
  have hin := callFunc_in Tryz.func66 (by kernel_rfl) (by kernel_rfl)
  have H1 := Lib.hid h1
  have H2 := Lib.hid h2
  have Hl1 := Lib.hid h1.len
  have Hl2 := Lib.hid h2.len
  have hn63 : n ≤ 9223372036854775807 := by simp only [maxLen] at hn; omega
  clear h1 h2 hn
  by_cases hnm : m = n
  · subst hnm
    go_enter Tryz.func68, Tryz.ntmps68
    go_wp2
    go_loopw [17] (fun i wr => ∃ j : Nat, j ≤ m ∧ i = .int .i64 (j : Int) ∧ Hid (l1.take j = l2.take j) ∧ Hid (Below w.heap.size w wr)) (fun i _ => m - (intOf i).toNat)
    case atStart => exact ⟨0, Nat.zero_le _, rfl, Lib.hid rfl, Lib.hid (Below.refl _ _)⟩
    case round =>
      obtain ⟨j, hj, rfl, Htk, HB⟩ := hrel
      by_cases hlt : j < m
      · obtain ⟨ad, A', c', it, rfl, hbk, hx, a0, a1, r1, rc1, rc2⟩ := (H1.out.below HB.out).at_ hlt
        obtain ⟨ad', A'', c'', it', rfl, hbk', hx', b0, b1, r2, -, -⟩ := (H2.out.below HB.out).at_ hlt
        have HB1 := Lib.hid (bal (bal HB.out (.cells #[.slice A' it.1.length c', .int .i64 it.2] 65)) (.cells #[.slice A'' it'.1.length c'', .int .i64 it'.2] 65))
        have hbX := ((Below.refl wr.heap.size wr).alloc (Nat.le_refl _) (.cells #[.slice A' it.1.length c', .int .i64 it.2] 65))
        have b0' := ((hbX.cell (p := ad'.add (j * 2)) (by rw [block_of_add]; exact Nat.lt_of_lt_of_le hbk' HB.out.size))).trans b0
        have b1' := ((hbX.cell (p := ⟨(ad'.add (j * 2)).block, (ad'.add (j * 2)).off + 1, none⟩) (by show (ad'.add (j * 2)).block < _; rw [block_of_add]; exact Nat.lt_of_lt_of_le hbk' HB.out.size))).trans b1
        have HK := Lib.hid (isame_any A' A'' it.1.length c' it'.1.length c'' it.2 it'.2 it.1 it'.1 _ ((r1.more HB.out.size).al (.cells #[.slice A' it.1.length c', .int .i64 it.2] 65) |>.al (.cells #[.slice A'' it'.1.length c'', .int .i64 it'.2] 65)) ((r2.more HB.out.size).al (.cells #[.slice A' it.1.length c', .int .i64 it.2] 65) |>.al (.cells #[.slice A'' it'.1.length c'', .int .i64 it'.2] 65)) (Nat.le_trans rc1 rc2))
        have Hx := Lib.hid hx
        have Hx' := Lib.hid hx'
        have hji : (j : Int) < (m : Int) := by omega
        clear hx hx' hbk hbk' r1 r2 rc1 rc2 hbX b0 b1
        obtain ⟨r, v⟩ := it
        obtain ⟨r', v'⟩ := it'
        simp only at a0 a1 b0' b1' HK HB1
        generalize r.length = rl at *
        generalize r'.length = rl' at *
        go_wp2_with fail
        with_reducible refine HK.out.mono ?_
        rintro e w1 ⟨rfl, hb⟩
        have HB2 := Lib.hid (bon HB1.out hb)
        clear hb a0 a1 b0' b1' HK
        by_cases hc : (r, v) = (r', v')
        · have Htk2 := Lib.hid (show l1.take (j + 1) = l2.take (j + 1) by rw [List.take_add_one, List.take_add_one, Hx.out, Hx'.out, Htk.out, hc])
          rw [decide_eq_true hc]
          clear hc
          go_wp2
          go_roundw
          case rel => exact ⟨j + 1, by omega, by go_num, Htk2, HB2⟩
          case measure => simp [intOf]; omega
        · have Hne := Lib.hid (show decide (l1 = l2) = false from decide_eq_false (fun h => hc (by subst h; exact Option.some.inj (Hx.out.symm.trans Hx'.out))))
          rw [decide_eq_false hc]
          clear hc
          go_wp2
          go_ret
          exact ⟨by rw [Hne.out]; rfl, HB2.out⟩
      · obtain rfl : m = j := by omega
        have He := Lib.hid (show decide (l1 = l2) = true by
          have := Htk.out
          rw [List.take_of_length_le (by rw [Hl1.out]; exact Nat.le_refl _), List.take_of_length_le (by rw [Hl2.out]; exact Nat.le_refl _)] at this
          exact decide_eq_true this)
        go_wp2
        go_ret
        exact ⟨by rw [He.out]; rfl, HB.out⟩
  · have hne2 : ((n : Int) != (m : Int)) = true := by simp; omega
    have hne3 : (n != m) = true := by simp; omega
    have Hne := Lib.hid (show decide (l1 = l2) = false from decide_eq_false (fun h => hnm (by rw [← Hl1.out, ← Hl2.out, h])))
    go_enter Tryz.func68, Tryz.ntmps68
    go_wp2
    go_ret
    exact ⟨by rw [Hne.out]; rfl, Below.refl _ _⟩
def sameBa (a b : Ba) : Bool := decide (a.1 = b.1) && (decide (a.2.1 = b.2.1) && decide (a.2.2 = b.2.2))
theorem sameBa_iff (a b : Ba) : sameBa a b = true ↔ a = b := by
  obtain ⟨v, s, l⟩ := a
  obtain ⟨v', s', l'⟩ := b
  unfold sameBa
  simp only [Bool.and_eq_true, decide_eq_true_eq, Prod.mk.injEq]
theorem sameBa_self (a : Ba) : sameBa a a = true := (sameBa_iff a a).2 rfl
theorem sameBa_not {a b : Ba} (h : a ≠ b) : sameBa a b = false := by
  cases hs : sameBa a b with
  | false => rfl
  | true => exact absurd ((sameBa_iff a b).1 hs) h
set_option maxRecDepth 100000 in
set_option maxHeartbeats 1000000 in
theorem bsame_any (v1 s1 : Int) (A : Option Addr) (n c : Nat) (l1 : List It) (v2 s2 : Int) (B : Option Addr) (m d : Nat) (l2 : List It) (w : World) (h1 : ItemsAt w w.heap.size A n l1) (h2 : ItemsAt w w.heap.size B m l2) (hn : n ≤ maxLen) :
    Calls Tryz.prog 24 #[.agg #[.int .i64 v1, .int .i64 s1, .slice A n c], .agg #[.int .i64 v2, .int .i64 s2, .slice B m d]] w fun e w' => e = .returned (.bool (sameBa (v1, s1, l1) (v2, s2, l2))) ∧ Below w.heap.size w w' := by
  have HB1 := Lib.hid (bal (bal (Below.refl w.heap.size w) (.cells #[.int .i64 v1, .int .i64 s1, .slice A n c] 25)) (.cells #[.int .i64 v2, .int .i64 s2, .slice B m d] 25))
  have HK := Lib.hid (esame_any A B n c m d l1 l2 ((w.alloc (.cells #[.int .i64 v1, .int .i64 s1, .slice A n c] 25)).alloc (.cells #[.int .i64 v2, .int .i64 s2, .slice B m d] 25)) (h1.on HB1.out) (h2.on HB1.out) hn)
  clear h1 h2 hn
  by_cases hv : v1 = v2
  · subst hv
    have d1 : (v1 == v1) = true := by simp
    by_cases hs : s1 = s2
    · subst hs
      have d2 : (s1 == s1) = true := by simp
      go_enter Tryz.func24, Tryz.ntmps24
      go_wp2_with fail
      with_reducible refine HK.out.mono ?_
      rintro e w1 ⟨rfl, hb⟩
      have HB := Lib.hid (bon HB1.out hb)
      clear hb
      go_wp2
      go_ret
      refine ⟨?_, HB.out⟩
      simp [sameBa]
    · have d2 : (s1 == s2) = false := by simpa using hs
      have HE := Lib.hid (show sameBa (v1, s1, l1) (v1, s2, l2) = false from sameBa_not (fun h => hs (by simp only [Prod.mk.injEq] at h; exact h.2.1)))
      clear hs HK
      go_enter Tryz.func24, Tryz.ntmps24
      go_wp2
      go_ret
      exact ⟨by rw [HE.out]; rfl, HB1.out⟩
  · have d1 : (v1 == v2) = false := by simpa using hv
    have HE := Lib.hid (show sameBa (v1, s1, l1) (v2, s2, l2) = false from sameBa_not (fun h => hv (by simp only [Prod.mk.injEq] at h; exact h.1)))
    clear hv HK
    go_enter Tryz.func24, Tryz.ntmps24
    go_wp2
    go_ret
    exact ⟨by rw [HE.out]; rfl, HB1.out⟩
end Go.Proofs.YtdajddkbkbnoiaaGreatDoor
namespace Go.Proofs.YtdajddkbkbnoiaaGreatDoor
open Go.RowKit
def CTab (w : World) : Prop := ∀ i, i < 16 → w.cell? ⟨0, i, none⟩ = some (.int .u32 ((step4 i : Nat) : Int))
theorem CTab.on {w w' : World} (h : CTab w) (hb : Below w.heap.size w w') : CTab w' := fun i hi =>
  (hb.cell (p := ⟨0, i, none⟩) (World.block_lt_of_cell? _ _ (h i hi))).trans (h i hi)
theorem not32_xor (r : Nat) (h : r < 4294967296) : bits .xor .u32 4294967295 (r : Int) = ((4294967295 - r : Nat) : Int) := by
  rw [show (4294967295 : Int) = ((4294967295 : Nat) : Int) from rfl, u32_xor_nat 4294967295 r (by decide) h]
  congr 1
  apply Nat.eq_of_testBit_eq
  intro i
  rw [show 4294967295 - r = 2 ^ 32 - (r + 1) by omega, Nat.testBit_two_pow_sub_succ h, Nat.testBit_xor, show (4294967295 : Nat) = 2 ^ 32 - 1 from rfl, Nat.testBit_two_pow_sub_one]
  by_cases hi : i < 32
  · simp [hi]
  · have : r.testBit i = false := Nat.testBit_lt_two_pow (Nat.lt_of_lt_of_le h (Nat.pow_le_pow_right (n := 2) (by decide) (by omega : 32 ≤ i)))
    simp [hi, this]
theorem unary_not32 (r : Nat) (h : r < 4294967296) : Op.unary .xor (.int .u32 (r : Int)) = pure (.int .u32 ((4294967295 - r : Nat) : Int)) := by
  rw [unary_xor, intBits_xor]
  congr 2
  exact not32_xor r h
theorem ctab_at (l : Nat) (h : l < 16) (w : World) : (Instr.indexAt 159 (.pointer (some ⟨0, 0, none⟩)) (.int .u32 (l : Int))).run Tryz.prog w = .ok (.pointer (some ⟨0, l, none⟩)) w := by
  have hu := Tryz.underlying159
  have hz := Tryz.sizeOf55 w
  simp only [Instr.indexAt, run_underlying hu, asIntOf, Instr.sureAddr, Sem.run_bind, Sem.run_pure, Result.andThen_ok]
  rw [if_pos (by omega)]
  simp only [hz, Sem.run_bind, Sem.run_pure, Result.andThen_ok]
  by_cases h0 : l = 0
  · subst h0; rfl
  · simp [Addr.add, h0]
theorem half_walk (w : World) (X : Nat) (hX : X < 4294967296) (hT : CTab w) : ∃ q l Y : Nat, (X : Int) / 16 = (q : Int) ∧ (X : Int) % 16 = (l : Int) ∧ w.cell? ⟨0, l, none⟩ = some (.int .u32 ((step4 l : Nat) : Int)) ∧
    bits .xor .u32 (q : Int) ((step4 l : Nat) : Int) = (Y : Int) ∧ (∀ w', (Instr.indexAt 159 (.pointer (some ⟨0, 0, none⟩)) (.int .u32 (l : Int))).run Tryz.prog w' = .ok (.pointer (some ⟨0, l, none⟩)) w') ∧ Y < 4294967296 ∧ Y = step4 X := by
  have hl : X % 16 < 16 := Nat.mod_lt _ (by decide)
  refine ⟨X / 16, X % 16, step4 X, by omega, by omega, hT _ hl, ?_, ctab_at _ hl, step4_lt hX, rfl⟩
  rw [u32_xor_nat _ _ (by omega) (step4_lt (by omega)), ← step4_half]
set_option maxRecDepth 100000 in
set_option maxHeartbeats 1000000 in
theorem update_any (s : Nat) (hs : s < 4294967296) (A : Option Addr) (n c : Nat) (xs : List UInt8) (w : World) (hr : Reads w w.heap.size 1 A n (u8s xs)) (hn : n ≤ maxLen) (hT : CTab w) :
    Calls Tryz.prog 109 #[.int .u32 (s : Int), .slice A n c] w fun e w' => e = .returned (.int .u32 ((crcU s xs : Nat) : Int)) ∧ w = w' := by
  have Hr := Lib.hid hr
  have HT := Lib.hid hT
  have Hl := Lib.hid (reads_len hr)
  have hn63 : n ≤ 9223372036854775807 := by simp only [maxLen] at hn; omega
  clear hr hT hn
  have hx1 := unary_not32 s hs
  go_enter Tryz.func109, Tryz.ntmps109
  go_wp2
  go_loopw [5, 12] (fun r i wr => ∃ j : Nat, j ≤ n ∧ i = .int .i64 (j : Int) ∧ r = .int .u32 ((crcR (4294967295 - s) (xs.take j) : Nat) : Int) ∧ wr = w) (fun _ i _ => n - (intOf i).toNat)
  case atStart => exact ⟨0, Nat.zero_le _, rfl, rfl, rfl⟩
  case round =>
    obtain ⟨j, hj, rfl, rfl, rfl⟩ := hrel
    have hlt0 := crcR_lt (r := 4294967295 - s) (by omega) (xs.take j)
    obtain ⟨R, hR⟩ : ∃ R, R = crcR (4294967295 - s) (xs.take j) := ⟨_, rfl⟩
    rw [← hR] at hlt0 ⊢
    have HR := Lib.hid hR
    clear hR
    by_cases hlt : j < n
    · obtain ⟨ad, v, rfl, hbk, hu, hcell⟩ := Hr.out.at_ hlt
      obtain ⟨x, hx, rfl⟩ := u8s_get _ _ _ hu
      have Hx := Lib.hid hx
      clear hx hu hbk
      have hxl := x.toNat_lt
      have e1 : (x.toNat : Int) % 4294967296 = (x.toNat : Int) := by omega
      have e2 := u32_xor_nat R x.toNat hlt0 (by omega)
      obtain ⟨X, hX⟩ : ∃ X, X = R ^^^ x.toNat := ⟨_, rfl⟩
      have hXl : X < 4294967296 := by rw [hX]; exact xorb_lt hlt0 x
      rw [← hX] at e2
      obtain ⟨q, l, Y, e3, e4, c1, e5, hl, hYl, hYX⟩ := half_walk wr X hXl HT.out
      obtain ⟨q2, l2, Z, e6, e7, c2, e8, hl2, hZl, hZY⟩ := half_walk wr Y hYl HT.out
      have HE := Lib.hid (show Z = crcR (4294967295 - s) (xs.take (j + 1)) by
        rw [List.take_add_one, Hx.out, crcR_append, ← HR.out, hZY, hYX, hX]
        rfl)
      clear hX hYX hZY
      go_wp2
      go_roundw
      case rel => exact ⟨j + 1, by omega, by go_num, by rw [HE.out], trivial⟩
      case measure => simp [intOf]; omega
    · obtain rfl : j = n := by omega
      have hx2 := unary_not32 R hlt0
      have HE := Lib.hid (show 4294967295 - R = crcU s xs by rw [HR.out, List.take_of_length_le (by rw [Hl.out]; exact Nat.le_refl _)]; rfl)
      rw [HE.out] at hx2
      go_wp2
      go_ret
      exact ⟨rfl, rfl⟩
end Go.Proofs.YtdajddkbkbnoiaaGreatDoor
namespace Go.Proofs.YtdajddkbkbnoiaaGreatDoor
open Go.RowKit
set_option maxRecDepth 100000 in
theorem csum_any (A : Option Addr) (n c : Nat) (xs : List UInt8) (w : World) (hr : Reads w w.heap.size 1 A n (u8s xs)) (hn : n ≤ maxLen) (hT : CTab w) :
    Calls Tryz.prog 86 #[.slice A n c] w fun e w' => e = .returned (.int .u32 ((crcS xs : Nat) : Int)) ∧ w = w' := by
  have Hr := Lib.hid hr
  have HT := Lib.hid hT
  have cU : Calls Tryz.prog 109 #[.int .u32 0, .slice A n c] w _ := update_any 0 (by decide) A n c xs w Hr.out hn HT.out
  have CU := Lib.hid cU
  clear hr hT cU
  go_enter Tryz.func86, Tryz.ntmps86
  go_wp2_with fail
  with_reducible refine CU.out.mono ?_
  rintro e w1 ⟨rfl, rfl⟩
  go_wp2
  go_ret
  exact ⟨rfl, rfl⟩
theorem sumB_cells (s : Nat) : u8s (sumB s) = [.int .u8 ((s % 256 : Nat) : Int), .int .u8 ((s / 256 % 256 : Nat) : Int), .int .u8 ((s / 65536 % 256 : Nat) : Int), .int .u8 ((s / 16777216 % 256 : Nat) : Int)] := by
  simp only [u8s, sumB, List.map_cons, List.map_nil, UInt8.toNat_ofNat']
def FourB (s : Nat) (w : World) (e : Ending) (w' : World) : Prop :=
  ∃ g, e = .returned (.slice (some ⟨g, 0, none⟩) 4 4) ∧ g = w.heap.size ∧ w'.ownsRow w.heap.size 5 1 (.slice (some ⟨g, 0, none⟩) 4 4) 4 (u8s (sumB s)) ∧ Below w.heap.size w w'
theorem four_new (s : Nat) (w : World) (a b c d : Int) (ha : a = ((s % 256 : Nat) : Int)) (hb : b = ((s / 256 % 256 : Nat) : Int)) (hc : c = ((s / 65536 % 256 : Nat) : Int)) (hd : d = ((s / 16777216 % 256 : Nat) : Int)) :
    FourB s w (.returned (.slice (some ⟨w.heap.size, 0, none⟩) 4 4)) (w.alloc (.cells #[.int .u8 a, .int .u8 b, .int .u8 c, .int .u8 d] 5)) := by
  subst ha hb hc hd
  refine ⟨_, rfl, rfl, ?_, (Below.refl _ _).alloc (Nat.le_refl _) _⟩
  exact (Blk.new w 5 _).own (n := 4) (xs := u8s (sumB s)) (Nat.le_refl _) (by rw [sumB_cells]) rfl (by decide)
set_option maxRecDepth 100000 in
theorem bsum_any (A : Option Addr) (n c : Nat) (xs : List UInt8) (w : World) (hr : Reads w w.heap.size 1 A n (u8s xs)) (hn : n ≤ maxLen) (hT : CTab w) :
    Calls Tryz.prog 58 #[.slice A n c] w (FourB (crcS xs) w) := by
  have Hr := Lib.hid hr
  have HT := Lib.hid hT
  clear hr hT
  have hs : crcS xs < 4294967296 := crcU_lt 0 xs
  have CS := Lib.hid (csum_any A n c xs w Hr.out hn HT.out)
  generalize crcS xs = s at hs CS ⊢
  go_enter Tryz.func58, Tryz.ntmps58
  go_wp2_with fail
  with_reducible refine CS.out.mono ?_
  rintro e w1 ⟨rfl, rfl⟩
  go_wp2
  go_ret
  refine four_new s w _ _ _ _ ?_ ?_ ?_ ?_ <;> omega
end Go.Proofs.YtdajddkbkbnoiaaGreatDoor
namespace Go.Proofs.YtdajddkbkbnoiaaGreatDoor
open Go.RowKit
theorem col_info : (Tryz.prog.info? 62).map (fun i => (i.zero, i.size, i.bytes)) = some (some (.agg #[.int .i64 0, .string ⟨#[]⟩, .int .i64 0, .bool false, .bool false, .int .i64 0, .string ⟨#[]⟩]), 7, 72) := by kernel_rfl
set_option maxRecDepth 100000 in
set_option maxHeartbeats 400000 in
theorem copyCols_any (A : Option Addr) (n c : Nat) (l : List Co) (w : World) (hr : Reads w w.heap.size 7 A n (cos l)) (hn : n ≤ 1048576) :
    Calls Tryz.prog 19 #[.slice A n c] w fun e w' => ∃ A' c', e = .returned (.slice A' n c') ∧ n ≤ c' ∧ c' ≤ maxLen ∧ w'.ownsRow w.heap.size 62 7 (.slice A' n c') n (cos l) ∧ Below w.heap.size w w' := by
  obtain ⟨i0, hi0, hz0, hz1, hz2⟩ := info_parts col_info
  go_enter Tryz.func19, Tryz.ntmps19
  go_wp2_with (at_builtin
               refine wpList_append_any _ rfl (.tmp 4) (.tmp 5) 22 rfl w.heap.size 62 i0 (.agg #[.int .i64 0, .string ⟨#[]⟩, .int .i64 0, .bool false, .bool false, .int .i64 0, .string ⟨#[]⟩]) 7 72 Tryz.underlying22 hi0 hz0 hz1 hz2 rfl (by decide) none 0 0 [] rfl (World.ownsRow_nil _ _ _ _) A n c (cos l) rfl hr (cos_one l) (by simp only [maxLen]; omega) (by omega) (Nat.le_refl _) ?_
               intro A2 c2 w2 hown2 hb2 hg2 hc2 hm2
               simp only [Nat.zero_add, List.nil_append] at hown2 hc2)
  go_ret
  exact ⟨A2, c2, by simp, hc2, hm2, hown2, hb2⟩
end Go.Proofs.YtdajddkbkbnoiaaGreatDoor
namespace Go.Proofs.YtdajddkbkbnoiaaGreatDoor
def numB : List UInt8 → Nat
  | [] => 0
  | c :: xs => c.toNat + 2 ^ 8 * numB xs
theorem add_xor {c k : Nat} (m : Nat) (h : c < 2 ^ k) : c + 2 ^ k * m = c ^^^ (2 ^ k * m) := by
  apply Nat.eq_of_testBit_eq
  intro i
  rw [Nat.add_comm, Nat.testBit_two_pow_mul_add m h, Nat.testBit_xor, Nat.testBit_two_pow_mul]
  by_cases hi : i < k
  · have : ¬ k ≤ i := by omega
    simp [hi, this]
  · have h1 : k ≤ i := by omega
    have h2 : c.testBit i = false := Nat.testBit_lt_two_pow (Nat.lt_of_lt_of_le h (Nat.pow_le_pow_right (by decide) h1))
    simp [hi, h1, h2]
theorem stepsZ_add (r a b : Nat) : stepsZ r (a + b) = stepsZ (stepsZ r a) b := by
  induction b with
  | zero => rfl
  | succ b ih => rw [← Nat.add_assoc, stepsZ, ih, stepsZ]
theorem stepsZ_lin (a b k : Nat) : stepsZ (a ^^^ b) k = stepsZ a k ^^^ stepsZ b k := by
  induction k with
  | zero => rfl
  | succ k ih => rw [stepsZ, ih, stepZ_xor, stepsZ, stepsZ]
theorem stepsZ_shift (m k : Nat) : stepsZ (2 ^ k * m) k = m := by
  induction k generalizing m with
  | zero => simp [stepsZ]
  | succ k ih =>
    rw [stepsZ, show 2 ^ (k + 1) * m = 2 ^ k * (2 * m) by rw [Nat.pow_succ, Nat.mul_assoc], ih, stepZ_double]
theorem byteR_steps (r : Nat) (c : UInt8) : byteR r c = stepsZ (r ^^^ c.toNat) 8 := rfl
theorem crcR_num (r : Nat) (xs : List UInt8) : crcR r xs = stepsZ (r ^^^ numB xs) (8 * xs.length) := by
  induction xs generalizing r with
  | nil => simp [crcR, numB, stepsZ]
  | cons c xs ih =>
    show crcR (byteR r c) xs = _
    rw [ih, numB, add_xor _ (by have := c.toNat_lt; omega), List.length_cons, show 8 * (xs.length + 1) = 8 + 8 * xs.length by omega, stepsZ_add, ← Nat.xor_assoc, stepsZ_lin (r ^^^ c.toNat), stepsZ_shift, byteR_steps]
theorem stepZ_zero {x : Nat} (h : x < 4294967296) (hz : stepZ x = 0) : x = 0 := by
  unfold stepZ at hz
  have h2 : x / 2 = if x % 2 = 1 then crcPoly else 0 := by
    apply Nat.eq_of_testBit_eq
    intro i
    have := congrArg (fun n => Nat.testBit n i) hz
    simp only [Nat.testBit_xor, Nat.zero_testBit] at this
    revert this
    cases (x / 2).testBit i <;> cases (Nat.testBit (if x % 2 = 1 then crcPoly else 0) i) <;> simp
  split at h2
  · unfold crcPoly at h2; omega
  · omega
theorem stepsZ_zero {x : Nat} (h : x < 4294967296) (k : Nat) (hz : stepsZ x k = 0) : x = 0 := by
  induction k with
  | zero => exact hz
  | succ k ih =>
    refine ih (stepZ_zero ?_ hz)
    clear ih hz
    induction k with
    | zero => exact h
    | succ k ih => exact stepZ_lt ih
theorem xor_same {a b : Nat} (h : a ^^^ b = a) : b = 0 := by
  apply Nat.eq_of_testBit_eq
  intro i
  have := congrArg (fun n => Nat.testBit n i) h
  simp only [Nat.testBit_xor] at this
  revert this
  cases a.testBit i <;> cases b.testBit i <;> simp
theorem burst_none (r : Nat) (xs ys : List UInt8) (bits at_ : Nat) (hl : ys.length = xs.length) (hb : bits < 4294967296) (ha : at_ + 32 ≤ 8 * xs.length) (hn : numB ys = numB xs ^^^ (2 ^ at_ * bits)) (h : crcR r ys = crcR r xs) : bits = 0 := by
  rw [crcR_num, crcR_num, hl, hn, ← Nat.xor_assoc, stepsZ_lin] at h
  have h2 := xor_same h
  rw [show 8 * xs.length = at_ + (8 * xs.length - at_) by omega, stepsZ_add, stepsZ_shift] at h2
  exact stepsZ_zero hb _ h2
theorem numB_sum (s : Nat) (h : s < 4294967296) : numB (sumB s) = s := by
  simp only [sumB, numB, UInt8.toNat_ofNat']
  omega
theorem xor_rest (r : Nat) (h : r < 4294967296) : r ^^^ (4294967295 - r) = 4294967295 := by
  apply Nat.eq_of_testBit_eq
  intro i
  have h1 : 4294967295 - r = 2 ^ 32 - (r + 1) := by omega
  have h2 : (4294967295 : Nat) = 2 ^ 32 - 1 := rfl
  rw [Nat.testBit_xor, h1, Nat.testBit_two_pow_sub_succ h, show (4294967295 : Nat) = 2 ^ 32 - 1 from rfl, Nat.testBit_two_pow_sub_one]
  by_cases hi : i < 32
  · simp [hi]
  · have : r.testBit i = false := Nat.testBit_lt_two_pow (Nat.lt_of_lt_of_le h (Nat.pow_le_pow_right (n := 2) (by decide) (by omega : 32 ≤ i)))
    simp [hi, this]
def sumOk (xs : List UInt8) : Prop := 4 ≤ xs.length ∧ sumB (crcS (xs.take (xs.length - 4))) = xs.drop (xs.length - 4)
theorem sumOk_reg {xs : List UInt8} (h : sumOk xs) : crcR 4294967295 xs = stepsZ 4294967295 32 := by
  obtain ⟨h4, hs⟩ := h
  have e : xs = xs.take (xs.length - 4) ++ sumB (crcS (xs.take (xs.length - 4))) := by rw [hs, List.take_append_drop]
  generalize xs.take (xs.length - 4) = m at e
  rw [e, crcR_append, crcR_num (crcR 4294967295 m), numB_sum (crcS m) (crcU_lt 0 m)]
  have hr := crcR_lt (r := 4294967295) (by decide) m
  show stepsZ (crcR 4294967295 m ^^^ (4294967295 - crcR (4294967295 - 0) m)) 32 = _
  rw [Nat.sub_zero, xor_rest _ hr]
theorem sumOk_burst {xs ys : List UInt8} (bits at_ : Nat) (hx : sumOk xs) (hl : ys.length = xs.length) (hb : bits < 4294967296) (ha : at_ + 32 ≤ 8 * xs.length) (hn : numB ys = numB xs ^^^ (2 ^ at_ * bits)) (h : bits ≠ 0) : ¬ sumOk ys :=
  fun hy => h (burst_none 4294967295 xs ys bits at_ hl hb ha hn (by rw [sumOk_reg hx, sumOk_reg hy]))
def flipB : List UInt8 → Nat → List UInt8
  | [], _ => []
  | c :: xs, p => if p < 8 then (c ^^^ UInt8.ofNat (2 ^ p)) :: xs else c :: flipB xs (p - 8)
theorem flipB_len : ∀ (xs : List UInt8) (p : Nat), (flipB xs p).length = xs.length
  | [], _ => rfl
  | c :: xs, p => by
    unfold flipB
    split
    · rfl
    · simp [flipB_len xs]
theorem flipB_num : ∀ (xs : List UInt8) (p : Nat), p < 8 * xs.length → numB (flipB xs p) = numB xs ^^^ 2 ^ p
  | [], p, h => by simp at h
  | c :: xs, p, h => by
    have hc := c.toNat_lt
    unfold flipB
    split
    · rename_i hp
      have hp2 : 2 ^ p < 256 := by
        have := Nat.pow_lt_pow_right (a := 2) (by decide) hp
        omega
      have hx : (c ^^^ UInt8.ofNat (2 ^ p)).toNat = c.toNat ^^^ 2 ^ p := by
        rw [UInt8.toNat_xor, UInt8.toNat_ofNat', Nat.mod_eq_of_lt hp2]
      have hlt : c.toNat ^^^ 2 ^ p < 2 ^ 8 := Nat.xor_lt_two_pow (by omega) (by omega)
      rw [numB, numB, hx, add_xor _ hlt, add_xor _ (by omega : c.toNat < 2 ^ 8), Nat.xor_assoc, Nat.xor_comm (2 ^ p), ← Nat.xor_assoc]
    · rename_i hp
      have ih := flipB_num xs (p - 8) (by simp only [List.length_cons] at h; omega)
      rw [numB, numB, ih, add_xor _ (by omega : c.toNat < 2 ^ 8), add_xor _ (by omega : c.toNat < 2 ^ 8), Nat.xor_assoc]
      congr 1
      rw [show p = 8 + (p - 8) by omega, Nat.pow_add, show 8 + (p - 8) - 8 = p - 8 by omega]
      apply Nat.eq_of_testBit_eq
      intro i
      simp only [Nat.testBit_two_pow_mul, Nat.testBit_xor]
      cases decide (8 ≤ i) <;> simp
def burstB (xs : List UInt8) (at_ bits : Nat) : Nat → List UInt8
  | 0 => xs
  | k + 1 => if bits / 2 ^ k % 2 = 1 then flipB (burstB xs at_ bits k) (at_ + k) else burstB xs at_ bits k
theorem burstB_succ (xs : List UInt8) (at_ bits k : Nat) : burstB xs at_ bits (k + 1) = if bits / 2 ^ k % 2 = 1 then flipB (burstB xs at_ bits k) (at_ + k) else burstB xs at_ bits k := rfl
theorem burstB_len (xs : List UInt8) (at_ bits k : Nat) : (burstB xs at_ bits k).length = xs.length := by
  induction k with
  | zero => rfl
  | succ k ih =>
    rw [burstB_succ]
    split
    · rw [flipB_len, ih]
    · exact ih
theorem mod_succ_bit (b k : Nat) : b % 2 ^ (k + 1) = b % 2 ^ k ^^^ (if b / 2 ^ k % 2 = 1 then 2 ^ k else 0) := by
  rw [Nat.pow_succ, Nat.mod_mul]
  have h := add_xor (c := b % 2 ^ k) (k := k) (b / 2 ^ k % 2) (Nat.mod_lt _ (Nat.two_pow_pos k))
  rw [h]
  rcases Nat.mod_two_eq_zero_or_one (b / 2 ^ k) with h0 | h0 <;> simp [h0]
theorem burstB_num (xs : List UInt8) (at_ bits k : Nat) (h : at_ + k ≤ 8 * xs.length) : numB (burstB xs at_ bits k) = numB xs ^^^ (2 ^ at_ * (bits % 2 ^ k)) := by
  induction k with
  | zero => simp [burstB, Nat.mod_one]
  | succ k ih =>
    have ih := ih (by omega)
    have hx : ∀ a b : Nat, 2 ^ at_ * (a ^^^ b) = 2 ^ at_ * a ^^^ 2 ^ at_ * b := by
      intro a b
      apply Nat.eq_of_testBit_eq
      intro i
      simp only [Nat.testBit_two_pow_mul, Nat.testBit_xor]
      cases decide (at_ ≤ i) <;> simp
    rw [mod_succ_bit, hx, ← Nat.xor_assoc, ← ih, burstB_succ]
    split
    · rw [flipB_num _ _ (by rw [burstB_len]; omega), Nat.pow_add]
    · simp
theorem burst_told {xs : List UInt8} (at_ bits : Nat) (hx : sumOk xs) (hb : bits < 4294967296) (ha : at_ + 32 ≤ 8 * xs.length) (h : bits ≠ 0) : ¬ sumOk (burstB xs at_ bits 32) :=
  sumOk_burst bits at_ hx (burstB_len _ _ _ _) hb ha (by rw [burstB_num _ _ _ _ ha, Nat.mod_eq_of_lt hb]) h
theorem burst_zero (xs : List UInt8) (at_ k : Nat) : burstB xs at_ 0 k = xs := by
  induction k with
  | zero => rfl
  | succ k ih => rw [burstB_succ, if_neg (by simp), ih]
end Go.Proofs.YtdajddkbkbnoiaaGreatDoor
namespace Go.Proofs.YtdajddkbkbnoiaaGreatDoor
open Go.RowKit
theorem intsB_le (l : List Cl) : (intsB l).length ≤ 10 * l.length := by
  induction l with
  | nil => simp [intsB]
  | cons c l ih =>
    have := leb_le (zig c.2.1)
    simp only [intsB, List.flatMap_cons, List.length_append, List.length_cons] at *
    omega
theorem rawsB_le (l : List Cl) (h : ∀ c ∈ l, c.2.2.size ≤ 1024) : (rawsB l).length ≤ 1034 * l.length := by
  induction l with
  | nil => simp [rawsB]
  | cons c l ih =>
    have h1 := leb_le c.2.2.size
    have h2 := h c (by simp)
    have h3 := ih (fun x hx => h x (by simp [hx]))
    have h4 : c.2.2.data.toList.length = c.2.2.size := by rw [Array.length_toList]; rfl
    simp only [rawsB, List.flatMap_cons, List.length_append, List.length_cons] at *
    omega
theorem putB_leB (k : Int) (nl : Bool) (l : List Cl) (hk : mayK k = true) (ha : allC k nl l = true) : (putB k nl l []).length ≤ 10 + 1046 * l.length := by
  have hs := some_sizes hk ha
  have hl : (someC l).length ≤ l.length := List.length_filter_le _ _
  have h1 : ((if nl then packL (l.map fun c => !c.1) else [] : List UInt8)).length ≤ l.length := by
    split
    · have := packL_le (l.map fun c => !c.1)
      simpa using this
    · simp
  have h2 : (bareB k (someC l)).length ≤ 10 + 1044 * l.length := by
    unfold bareB
    split
    · have := packL_le ((someC l).map fun c => c.2.1 == 1)
      simp only [List.length_map] at this
      omega
    · split
      · have := putD_le ((someC l).map fun c => c.2.2) (fun s hs2 => by
          obtain ⟨c, hc, rfl⟩ := List.mem_map.1 hs2
          exact hs c hc)
        simp only [List.length_map] at this
        omega
      · split
        · have := rawsB_le (someC l) hs
          omega
        · have := intsB_le (someC l)
          omega
  unfold putB
  simp only [List.nil_append, List.length_append]
  omega
theorem Fits.colB_le {cs : List Co} {b : Ba} (h : Fits cs b) (k : Nat) : (colB cs b.2.2 k).length ≤ 10 + 1046 * b.2.2.length := by
  unfold colB
  split
  · rename_i c hc
    have := putB_leB c.2.2.1 c.2.2.2.1 (colC b.2.2 k) (mayCs_at h.may hc) (h.col hc)
    simpa [colC] using this
  · simp
theorem Fits.colsB_le {cs : List Co} {b : Ba} (h : Fits cs b) (j : Nat) : (colsB cs b.2.2 j).length ≤ j * (10 + 1046 * b.2.2.length) := by
  induction j with
  | zero => simp [colsB]
  | succ j ih =>
    have := h.colB_le j
    rw [colsB_succ, List.length_append, Nat.succ_mul]
    omega
theorem headB_le (v s : Int) (n : Nat) : (headB v s n).length ≤ 33 := by
  have h1 := leb_le v.toNat
  have h2 := leb_le s.toNat
  have h3 := leb_le n
  simp only [headB, List.length_append, List.length_cons, List.length_nil]
  omega
theorem wsB_le (l : List It) : (wsB l).length ≤ 10 * l.length := by
  induction l with
  | nil => simp [wsB]
  | cons c l ih =>
    have := leb_le (zig c.2)
    simp only [wsB, List.flatMap_cons, List.length_append, List.length_cons] at *
    omega
theorem mayCs_len {cs : List Co} (h : mayCs cs = true) : 1 ≤ cs.length ∧ cs.length ≤ 32 := by
  unfold mayCs at h
  simp only [Bool.and_eq_true, decide_eq_true_eq] at h
  exact h.1
def preB (cs : List Co) (b : Ba) (j : Nat) : List UInt8 := headB b.1 b.2.1 b.2.2.length ++ colsB cs b.2.2 j
theorem preB_zero (cs : List Co) (b : Ba) : preB cs b 0 = headB b.1 b.2.1 b.2.2.length := by simp [preB, colsB]
theorem preB_succ (cs : List Co) (b : Ba) (j : Nat) (c : Co) (h : cs[j]? = some c) : preB cs b (j + 1) = putB c.2.2.1 c.2.2.2.1 (colC b.2.2 j) (preB cs b j) := by
  unfold preB
  rw [colsB_succ, ← List.append_assoc]
  unfold colB
  rw [h]
  unfold putB
  simp
theorem Fits.preB_le {cs : List Co} {b : Ba} (h : Fits cs b) (j : Nat) (hj : j ≤ cs.length) : (preB cs b j).length ≤ 40000000000 := by
  have h1 := h.colsB_le j
  have h2 := headB_le b.1 b.2.1 b.2.2.length
  have h3 := (mayCs_len h.may).2
  have h4 := h.rows
  have h5 : j * (10 + 1046 * b.2.2.length) ≤ 32 * (10 + 1046 * 1048576) := Nat.mul_le_mul (by omega) (by omega)
  unfold preB
  rw [List.length_append]
  omega
def preW (cs : List Co) (b : Ba) (i : Nat) : List UInt8 := preB cs b cs.length ++ wsB (b.2.2.take i)
theorem preW_zero (cs : List Co) (b : Ba) : preW cs b 0 = preB cs b cs.length := by simp [preW, wsB]
theorem preW_succ (cs : List Co) (b : Ba) (i : Nat) (it : It) (h : b.2.2[i]? = some it) : preW cs b (i + 1) = preW cs b i ++ leb (zig it.2) := by
  unfold preW wsB
  rw [List.take_add_one, h]
  simp
theorem preW_end (cs : List Co) (b : Ba) : preW cs b b.2.2.length = bodyB cs b := by
  unfold preW preB bodyB
  rw [List.take_length, List.append_assoc]
theorem Fits.preW_le {cs : List Co} {b : Ba} (h : Fits cs b) (i : Nat) : (preW cs b i).length ≤ 50000000000 := by
  have h1 := h.preB_le cs.length (Nat.le_refl _)
  have h2 := wsB_le (b.2.2.take i)
  have h3 := h.rows
  have h4 : (b.2.2.take i).length ≤ b.2.2.length := List.length_take_le' _ _
  unfold preW
  rw [List.length_append]
  omega
theorem Fits.body_le {cs : List Co} {b : Ba} (h : Fits cs b) : (bodyB cs b).length ≤ 50000000000 := by
  rw [← preW_end]
  exact h.preW_le _
theorem Fits.enc_le {cs : List Co} {b : Ba} (h : Fits cs b) : (encA cs b).length ≤ 60000000000 := by
  have := h.body_le
  rw [encA_len]
  omega
theorem encA_four (cs : List Co) (b : Ba) : 4 ≤ (encA cs b).length := by
  rw [encA_len]
  omega
theorem encA_sumOk (cs : List Co) (b : Ba) : sumOk (encA cs b) := by
  refine ⟨encA_four cs b, ?_⟩
  have hl : (encA cs b).length - 4 = (bodyB cs b).length := by rw [encA_len]; omega
  rw [hl]
  unfold encA
  rw [List.take_left, List.drop_left]
theorem Fits.burst {cs : List Co} {b : Ba} (h : Fits cs b) (at_ bits : Nat) (hb : bits < 4294967296) (ha : at_ + 32 ≤ 8 * (encA cs b).length) (h0 : bits ≠ 0) : decB cs (burstB (encA cs b) at_ bits 32) = .error 170 := by
  have hn := burst_told at_ bits (encA_sumOk cs b) hb ha h0
  have hl := burstB_len (encA cs b) at_ bits 32
  have h4 := encA_four cs b
  unfold decB
  rw [if_pos h.may]
  unfold batD
  rw [if_neg (by rw [hl]; omega), if_neg (fun hs => hn ⟨by rw [hl]; exact h4, hs⟩)]
  rfl
def cutc (c : Cl) : Cl := (c.1, c.2.1, c.2.2.extract 0 (min c.2.2.size 300))
def cutr (r : List Cl) : List Cl := (r.take 40).map cutc
def cuti (it : It) : It := (cutr it.1, it.2)
def cutl (l : List It) : List It := (l.take 30).map cuti
theorem cutl_len (l : List It) : (cutl l).length = min 30 l.length := by simp [cutl]
theorem cutr_ok {r : List Cl} (h : ClOk r) : ClOk (cutr r) := by
  intro c hc
  obtain ⟨d, hd, rfl⟩ := List.mem_map.1 hc
  obtain ⟨h1, h2, h3⟩ := h d (List.mem_of_mem_take hd)
  refine ⟨h1, h2, ?_⟩
  simp only [cutc, ByteArray.size_extract]
  omega
def widC (c : Co) : Co := (c.1, c.2.1, if c.2.2.1 = 2 then 3 else c.2.2.1, c.2.2.2)
theorem wid_may (k : Int) : mayK (if k = 2 then 3 else k) = mayK k := by
  split
  · rename_i h; subst h; rfl
  · rfl
theorem isC_wid {x : Cl} (h : isC 2 x = true) : isC 3 x = true := by
  obtain ⟨u, n, s⟩ := x
  unfold isC at h ⊢
  rw [if_neg (by decide), if_pos rfl, decide_eq_true_eq] at h
  rw [if_neg (by decide), if_neg (by decide), if_pos rfl, decide_eq_true_eq]
  obtain ⟨h1, h2, h3⟩ := h
  exact ⟨h1, by omega, by omega⟩
theorem checkE_wid (nl : Bool) {x : Cl} (h : checkE 2 nl x = 0) : checkE 3 nl x = 0 := by
  unfold checkE at h ⊢
  rw [if_pos (show mayK 2 = true by decide)] at h
  rw [if_pos (show mayK 3 = true by decide)]
  have key := @isC_wid x
  generalize isC 2 x = p at *
  generalize isC 3 x = q at *
  cases hx : x.1 with
  | true => simpa [hx] using h
  | false =>
    cases p with
    | true => simp [key rfl]
    | false => simp [hx] at h
theorem wid_check {k : Int} {nl : Bool} {x : Cl} (h : checkE k nl x = 0) : checkE (if k = 2 then 3 else k) nl x = 0 := by
  split
  · rename_i hk
    rw [hk] at h
    exact checkE_wid nl h
  · exact h
theorem wid_put (k : Int) (nl : Bool) (l : List Cl) (xs : List UInt8) : putB (if k = 2 then 3 else k) nl l xs = putB k nl l xs := by
  split
  · rename_i h
    subst h
    simp [putB, bareB]
  · rfl
theorem wid_at (cs : List Co) (k : Nat) : (cs.map widC)[k]? = (cs[k]?).map widC := List.getElem?_map ..
theorem wid_cols (cs : List Co) (l : List It) (j : Nat) : colsB (cs.map widC) l j = colsB cs l j := by
  unfold colsB
  congr 1
  funext k
  unfold colB
  rw [wid_at]
  cases cs[k]? with
  | none => rfl
  | some c => exact wid_put _ _ _ _
theorem wid_enc (cs : List Co) (b : Ba) : encA (cs.map widC) b = encA cs b := by
  have : bodyB (cs.map widC) b = bodyB cs b := by
    unfold bodyB
    rw [List.length_map, wid_cols]
  unfold encA
  rw [this]
theorem Fits.wid {cs : List Co} {b : Ba} (h : Fits cs b) : Fits (cs.map widC) b := by
  refine ⟨?_, h.v0, h.v1, h.s0, h.rows, fun it hit => ⟨?_, (h.items it hit).2⟩⟩
  · have hm := h.may
    unfold mayCs at hm ⊢
    rw [List.length_map, List.all_map]
    have : ((fun c : Co => mayK c.2.2.1) ∘ widC) = fun c : Co => mayK c.2.2.1 := by
      funext c
      exact wid_may _
    rw [this]
    exact hm
  · obtain ⟨h1, h2⟩ := rowE_zero (h.items it hit).1
    unfold rowE
    rw [List.length_map, if_pos h1, cellsE_zero]
    intro k c x hc hx
    rw [wid_at] at hc
    cases hk : cs[k]? with
    | none => rw [hk] at hc; cases hc
    | some d =>
      rw [hk] at hc
      cases hc
      exact wid_check (h2 k d x hk hx)
theorem Fits.wid_back {cs : List Co} {b : Ba} (h : Fits cs b) (hb : BaOk b) : decB (cs.map widC) (encA cs b) = .ok b := by
  rw [← wid_enc]
  exact h.wid.back hb
end Go.Proofs.YtdajddkbkbnoiaaGreatDoor
namespace Go.Proofs.YtdajddkbkbnoiaaGreatDoor
open Go.RowKit
set_option maxRecDepth 100000 in
set_option maxHeartbeats 400000 in
theorem bring_any (i n : Int) (w : World) (h1 : -9223372036854775808 ≤ i) (h2 : i ≤ 9223372036854775807) (hn : 0 < n) (hn2 : n ≤ 9223372036854775807) :
    Calls Tryz.prog 38 #[.int .i64 i, .int .i64 n] w fun e w' => e = .returned (.int .i64 (i % n)) ∧ w = w' := by
  have hb := Int.emod_nonneg i (by omega : n ≠ 0)
  have hlt := Int.emod_lt_of_pos i hn
  have ht : i.tmod n = i % n ∨ (i.tmod n < 0 ∧ i.tmod n + n = i % n) := by
    rw [Int.tmod_eq_emod]
    split
    · left; omega
    · rename_i h
      rw [Int.natAbs_of_nonneg (by omega)]
      right; omega
  have hz : ¬ n = 0 := by omega
  have hm1 : -9223372036854775808 ≤ i.tmod n ∧ i.tmod n ≤ 9223372036854775807 := by rcases ht with h | ⟨h, h'⟩ <;> omega
  rcases ht with h | ⟨h, h'⟩
  · have h0 : 0 ≤ i.tmod n := by omega
    have H := Lib.hid h
    clear h
    go_enter Tryz.func38, Tryz.ntmps38
    go_wp2
    go_ret
    exact ⟨congrArg (fun x => Ending.returned (.int .i64 x)) H.out, rfl⟩
  · have H := Lib.hid h'
    clear h'
    go_enter Tryz.func38, Tryz.ntmps38
    go_wp2
    go_ret
    refine ⟨congrArg (fun x => Ending.returned (.int .i64 x)) ?_, rfl⟩
    have := H.out
    first | omega | (simp only [wrap64]; omega)
end Go.Proofs.YtdajddkbkbnoiaaGreatDoor
