/- Part 11 of the walks, merged: each text under its own heading. Conditions: none of its own; each lemma states what it asks. -/
import Derived.Test.YtjpjalmilfgckaaGreatDoorBk7
import Derived.Test.YtjpjalmilfgckaaGreatDoorBk10
import Derived.Lib.Slices
set_option linter.unusedVariables false
set_option linter.unusedSimpArgs false
namespace Go.Proofs.YtjpjalmilfgckaaGreatDoor
open Go.RowKit
set_option maxRecDepth 100000 in
set_option maxHeartbeats 2000000 in
theorem eqRow_any (A B : Option Addr) (n c m d : Nat) (l1 l2 : List Cl) (w : World) (h1 : Reads w w.heap.size 3 A n (cls l1)) (h2 : Reads w w.heap.size 3 B m (cls l2)) (hn : n ≤ maxLen) :
  Calls Tryz.prog 128 #[.slice A n c, .slice B m d] w fun e w' => e = .returned (.bool (decide (l1 = l2))) ∧ Below w.heap.size w w' := by
 have H1 := Lib.hid h1
 have H2 := Lib.hid h2
 have Hl1 := Lib.hid (cls_len h1)
 have Hl2 := Lib.hid (cls_len h2)
 have hn63 : n ≤ 9223372036854775807 := by simp only [maxLen] at hn; omega
 clear h1 h2 hn
 by_cases hnm : n = m
 ·subst hnm
  go_enter Tryz.func128, Tryz.ntmps128
  go_wp2
  go_loopw [5] (fun i wr => ∃ j : Nat, j ≤ n ∧ i = .int .i64 (j : Int) ∧ Hid (l1.take j = l2.take j) ∧ Hid (Below w.heap.size w wr)) (fun i _ => n - (intOf i).toNat)
  case atStart => exact ⟨0, Nat.zero_le _, rfl, Lib.hid rfl, Lib.hid (Below.refl _ _)⟩
  case round =>
   obtain ⟨j, hj, rfl, Htk, HB⟩ := hrel
   by_cases hlt : j < n
   ·obtain ⟨ad, u, x, s, rfl, hbk, hx, a0, a1, a2⟩ := cls_at (H1.out.below HB.out) hlt
    obtain ⟨ad', u', x', s', rfl, hbk', hx', b0, b1, b2⟩ := cls_at (H2.out.below HB.out) hlt
    have Hx := Lib.hid hx
    have Hx' := Lib.hid hx'
    have HA0 := Lib.hid (show ∀ w', w' = wr.drew → w'.cell? (ad.add (j * 3)) = some (.bool u) from fun w' h => by rw [h]; exact a0)
    have HA1 := Lib.hid (show ∀ w', w' = wr.drew → w'.cell? ⟨(ad.add (j * 3)).block, (ad.add (j * 3)).off + 1, none⟩ = some (.int .i64 x) from fun w' h => by rw [h]; exact a1)
    have HA2 := Lib.hid (show ∀ w', w' = wr.drew → w'.cell? ⟨(ad.add (j * 3)).block, (ad.add (j * 3)).off + 2, none⟩ = some (.string s) from fun w' h => by rw [h]; exact a2)
    have HB0 := Lib.hid (show ∀ w', w' = wr.drew → w'.cell? (ad'.add (j * 3)) = some (.bool u') from fun w' h => by rw [h]; exact b0)
    have HB1 := Lib.hid (show ∀ w', w' = wr.drew → w'.cell? ⟨(ad'.add (j * 3)).block, (ad'.add (j * 3)).off + 1, none⟩ = some (.int .i64 x') from fun w' h => by rw [h]; exact b1)
    have HB2 := Lib.hid (show ∀ w', w' = wr.drew → w'.cell? ⟨(ad'.add (j * 3)).block, (ad'.add (j * 3)).off + 2, none⟩ = some (.string s') from fun w' h => by rw [h]; exact b2)
    clear hx hx' hbk hbk' a0 a1 a2 b0 b1 b2
    by_cases hc : (u, x, s) = (u', x', s')
    ·simp only [Prod.mk.injEq] at hc
     obtain ⟨rfl, rfl, rfl⟩ := hc
     have Htk2 := Lib.hid (show l1.take (j + 1) = l2.take (j + 1) by rw [List.take_add_one, List.take_add_one, Hx.out, Hx'.out, Htk.out])
     go_wp2
     have hji : (j : Int) < (n : Int) := by omega
     have hS : wr.drew = wr.drew := rfl
     refine wp_region_keep (fun w' => w' = wr.drew) [(0, false), (1, false), (2, false), (3, false), (4, false), (5, false), (6, false), (7, false), (8, false)] (by kernel_rfl) (by kernel_rfl) (by kernel_rfl) (fun d _ _ _ _ h => by cases d <;> exact h) ?_
     iterate 3
      refine held_pure (v := ?_) rfl rfl (by simp [Region.wanted, yielded]) hS ?_ ?_
      rotate_left
      ·intro w hw; go_simp; try with_reducible rfl
      try simp only [Act.put, zpA, zpB, zpC]
     refine held_pure (v := ?_) rfl rfl (by simp [Region.wanted, yielded]) hS ?_ ?_
     rotate_left
     ·intro w hw; have c0 := HA0.out w hw; have c1 := HA1.out w hw; have c2 := HA2.out w hw; clear hw; go_simp; try with_reducible rfl
     try simp only [Act.put, zpA, zpB, zpC]
     iterate 3
      refine held_pure (v := ?_) rfl rfl (by simp [Region.wanted, yielded]) hS ?_ ?_
      rotate_left
      ·intro w hw; go_simp; try with_reducible rfl
      try simp only [Act.put, zpA, zpB, zpC]
     refine held_pure (v := ?_) rfl rfl (by simp [Region.wanted, yielded]) hS ?_ ?_
     rotate_left
     ·intro w hw; have c0 := HB0.out w hw; have c1 := HB1.out w hw; have c2 := HB2.out w hw; clear hw; go_simp; try with_reducible rfl
     try simp only [Act.put, zpA, zpB, zpC]
     refine held_pure (v := ?_) rfl rfl (by simp [Region.wanted, yielded]) hS ?_ ?_
     rotate_left
     ·intro w hw; go_simp; try with_reducible rfl
     try simp only [Act.put, zpA, zpB, zpC]
     refine held_end ?_
     go_wp2
     go_roundw
     case rel => exact ⟨j + 1, by omega, by go_num, Htk2, Lib.hid HB.out.drew⟩
     case measure => simp [intOf]; omega
    ·have Hne := Lib.hid (show decide (l1 = l2) = false from decide_eq_false (fun h => hc (by subst h; exact Option.some.inj (Hx.out.symm.trans Hx'.out))))
     have Hc := Lib.hid hc
     clear hc
     cases u with
     | false =>
      cases u' with
      | false =>
       by_cases hxx : x = x'
       ·subst hxx
        have hss : ¬ s.toList = s'.toList := by
         intro h
         apply Hc.out
         have : (s.toList == s'.toList) = true := by rw [h]; simp
         rw [text_eqb2] at this
         rw [of_decide_eq_true this]
        go_wp2
        have hji : (j : Int) < (n : Int) := by omega
        have hS : wr.drew = wr.drew := rfl
        refine wp_region_keep (fun w' => w' = wr.drew) [(0, false), (1, false), (2, false), (3, false), (4, false), (5, false), (6, false), (7, false), (8, false)] (by kernel_rfl) (by kernel_rfl) (by kernel_rfl) (fun d _ _ _ _ h => by cases d <;> exact h) ?_
        iterate 3
         refine held_pure (v := ?_) rfl rfl (by simp [Region.wanted, yielded]) hS ?_ ?_
         rotate_left
         ·intro w hw; go_simp; try with_reducible rfl
         try simp only [Act.put, zpA, zpB, zpC]
        refine held_pure (v := ?_) rfl rfl (by simp [Region.wanted, yielded]) hS ?_ ?_
        rotate_left
        ·intro w hw; have c0 := HA0.out w hw; have c1 := HA1.out w hw; have c2 := HA2.out w hw; clear hw; go_simp; try with_reducible rfl
        try simp only [Act.put, zpA, zpB, zpC]
        iterate 3
         refine held_pure (v := ?_) rfl rfl (by simp [Region.wanted, yielded]) hS ?_ ?_
         rotate_left
         ·intro w hw; go_simp; try with_reducible rfl
         try simp only [Act.put, zpA, zpB, zpC]
        refine held_pure (v := ?_) rfl rfl (by simp [Region.wanted, yielded]) hS ?_ ?_
        rotate_left
        ·intro w hw; have c0 := HB0.out w hw; have c1 := HB1.out w hw; have c2 := HB2.out w hw; clear hw; go_simp; try with_reducible rfl
        try simp only [Act.put, zpA, zpB, zpC]
        refine held_pure (v := ?_) rfl rfl (by simp [Region.wanted, yielded]) hS ?_ ?_
        rotate_left
        ·intro w hw; go_simp; try with_reducible rfl
        try simp only [Act.put, zpA, zpB, zpC]
        refine held_end ?_
        go_wp2
        go_ret
        rw [Hne.out]
        exact ⟨rfl, HB.out.drew⟩
       ·have hxb : (x == x') = false := by simpa using hxx
        go_wp2
        have hji : (j : Int) < (n : Int) := by omega
        have hS : wr.drew = wr.drew := rfl
        refine wp_region_keep (fun w' => w' = wr.drew) [(0, false), (1, false), (2, false), (3, false), (4, false), (5, false), (6, false), (7, false), (8, false)] (by kernel_rfl) (by kernel_rfl) (by kernel_rfl) (fun d _ _ _ _ h => by cases d <;> exact h) ?_
        iterate 3
         refine held_pure (v := ?_) rfl rfl (by simp [Region.wanted, yielded]) hS ?_ ?_
         rotate_left
         ·intro w hw; go_simp; try with_reducible rfl
         try simp only [Act.put, zpA, zpB, zpC]
        refine held_pure (v := ?_) rfl rfl (by simp [Region.wanted, yielded]) hS ?_ ?_
        rotate_left
        ·intro w hw; have c0 := HA0.out w hw; have c1 := HA1.out w hw; have c2 := HA2.out w hw; clear hw; go_simp; try with_reducible rfl
        try simp only [Act.put, zpA, zpB, zpC]
        iterate 3
         refine held_pure (v := ?_) rfl rfl (by simp [Region.wanted, yielded]) hS ?_ ?_
         rotate_left
         ·intro w hw; go_simp; try with_reducible rfl
         try simp only [Act.put, zpA, zpB, zpC]
        refine held_pure (v := ?_) rfl rfl (by simp [Region.wanted, yielded]) hS ?_ ?_
        rotate_left
        ·intro w hw; have c0 := HB0.out w hw; have c1 := HB1.out w hw; have c2 := HB2.out w hw; clear hw; go_simp; try with_reducible rfl
        try simp only [Act.put, zpA, zpB, zpC]
        refine held_pure (v := ?_) rfl rfl (by simp [Region.wanted, yielded]) hS ?_ ?_
        rotate_left
        ·intro w hw; go_simp; try with_reducible rfl
        try simp only [Act.put, zpA, zpB, zpC]
        refine held_end ?_
        go_wp2
        go_ret
        rw [Hne.out]
        exact ⟨rfl, HB.out.drew⟩
      | true =>
       go_wp2
       have hji : (j : Int) < (n : Int) := by omega
       have hS : wr.drew = wr.drew := rfl
       refine wp_region_keep (fun w' => w' = wr.drew) [(0, false), (1, false), (2, false), (3, false), (4, false), (5, false), (6, false), (7, false), (8, false)] (by kernel_rfl) (by kernel_rfl) (by kernel_rfl) (fun d _ _ _ _ h => by cases d <;> exact h) ?_
       iterate 3
        refine held_pure (v := ?_) rfl rfl (by simp [Region.wanted, yielded]) hS ?_ ?_
        rotate_left
        ·intro w hw; go_simp; try with_reducible rfl
        try simp only [Act.put, zpA, zpB, zpC]
       refine held_pure (v := ?_) rfl rfl (by simp [Region.wanted, yielded]) hS ?_ ?_
       rotate_left
       ·intro w hw; have c0 := HA0.out w hw; have c1 := HA1.out w hw; have c2 := HA2.out w hw; clear hw; go_simp; try with_reducible rfl
       try simp only [Act.put, zpA, zpB, zpC]
       iterate 3
        refine held_pure (v := ?_) rfl rfl (by simp [Region.wanted, yielded]) hS ?_ ?_
        rotate_left
        ·intro w hw; go_simp; try with_reducible rfl
        try simp only [Act.put, zpA, zpB, zpC]
       refine held_pure (v := ?_) rfl rfl (by simp [Region.wanted, yielded]) hS ?_ ?_
       rotate_left
       ·intro w hw; have c0 := HB0.out w hw; have c1 := HB1.out w hw; have c2 := HB2.out w hw; clear hw; go_simp; try with_reducible rfl
       try simp only [Act.put, zpA, zpB, zpC]
       refine held_pure (v := ?_) rfl rfl (by simp [Region.wanted, yielded]) hS ?_ ?_
       rotate_left
       ·intro w hw; go_simp; try with_reducible rfl
       try simp only [Act.put, zpA, zpB, zpC]
       refine held_end ?_
       go_wp2
       go_ret
       rw [Hne.out]
       exact ⟨rfl, HB.out.drew⟩
     | true =>
      cases u' with
      | false =>
       go_wp2
       have hji : (j : Int) < (n : Int) := by omega
       have hS : wr.drew = wr.drew := rfl
       refine wp_region_keep (fun w' => w' = wr.drew) [(0, false), (1, false), (2, false), (3, false), (4, false), (5, false), (6, false), (7, false), (8, false)] (by kernel_rfl) (by kernel_rfl) (by kernel_rfl) (fun d _ _ _ _ h => by cases d <;> exact h) ?_
       iterate 3
        refine held_pure (v := ?_) rfl rfl (by simp [Region.wanted, yielded]) hS ?_ ?_
        rotate_left
        ·intro w hw; go_simp; try with_reducible rfl
        try simp only [Act.put, zpA, zpB, zpC]
       refine held_pure (v := ?_) rfl rfl (by simp [Region.wanted, yielded]) hS ?_ ?_
       rotate_left
       ·intro w hw; have c0 := HA0.out w hw; have c1 := HA1.out w hw; have c2 := HA2.out w hw; clear hw; go_simp; try with_reducible rfl
       try simp only [Act.put, zpA, zpB, zpC]
       iterate 3
        refine held_pure (v := ?_) rfl rfl (by simp [Region.wanted, yielded]) hS ?_ ?_
        rotate_left
        ·intro w hw; go_simp; try with_reducible rfl
        try simp only [Act.put, zpA, zpB, zpC]
       refine held_pure (v := ?_) rfl rfl (by simp [Region.wanted, yielded]) hS ?_ ?_
       rotate_left
       ·intro w hw; have c0 := HB0.out w hw; have c1 := HB1.out w hw; have c2 := HB2.out w hw; clear hw; go_simp; try with_reducible rfl
       try simp only [Act.put, zpA, zpB, zpC]
       refine held_pure (v := ?_) rfl rfl (by simp [Region.wanted, yielded]) hS ?_ ?_
       rotate_left
       ·intro w hw; go_simp; try with_reducible rfl
       try simp only [Act.put, zpA, zpB, zpC]
       refine held_end ?_
       go_wp2
       go_ret
       rw [Hne.out]
       exact ⟨rfl, HB.out.drew⟩
      | true =>
       by_cases hxx : x = x'
       ·subst hxx
        have hss : ¬ s.toList = s'.toList := by
         intro h
         apply Hc.out
         have : (s.toList == s'.toList) = true := by rw [h]; simp
         rw [text_eqb2] at this
         rw [of_decide_eq_true this]
        go_wp2
        have hji : (j : Int) < (n : Int) := by omega
        have hS : wr.drew = wr.drew := rfl
        refine wp_region_keep (fun w' => w' = wr.drew) [(0, false), (1, false), (2, false), (3, false), (4, false), (5, false), (6, false), (7, false), (8, false)] (by kernel_rfl) (by kernel_rfl) (by kernel_rfl) (fun d _ _ _ _ h => by cases d <;> exact h) ?_
        iterate 3
         refine held_pure (v := ?_) rfl rfl (by simp [Region.wanted, yielded]) hS ?_ ?_
         rotate_left
         ·intro w hw; go_simp; try with_reducible rfl
         try simp only [Act.put, zpA, zpB, zpC]
        refine held_pure (v := ?_) rfl rfl (by simp [Region.wanted, yielded]) hS ?_ ?_
        rotate_left
        ·intro w hw; have c0 := HA0.out w hw; have c1 := HA1.out w hw; have c2 := HA2.out w hw; clear hw; go_simp; try with_reducible rfl
        try simp only [Act.put, zpA, zpB, zpC]
        iterate 3
         refine held_pure (v := ?_) rfl rfl (by simp [Region.wanted, yielded]) hS ?_ ?_
         rotate_left
         ·intro w hw; go_simp; try with_reducible rfl
         try simp only [Act.put, zpA, zpB, zpC]
        refine held_pure (v := ?_) rfl rfl (by simp [Region.wanted, yielded]) hS ?_ ?_
        rotate_left
        ·intro w hw; have c0 := HB0.out w hw; have c1 := HB1.out w hw; have c2 := HB2.out w hw; clear hw; go_simp; try with_reducible rfl
        try simp only [Act.put, zpA, zpB, zpC]
        refine held_pure (v := ?_) rfl rfl (by simp [Region.wanted, yielded]) hS ?_ ?_
        rotate_left
        ·intro w hw; go_simp; try with_reducible rfl
        try simp only [Act.put, zpA, zpB, zpC]
        refine held_end ?_
        go_wp2
        go_ret
        rw [Hne.out]
        exact ⟨rfl, HB.out.drew⟩
       ·have hxb : (x == x') = false := by simpa using hxx
        go_wp2
        have hji : (j : Int) < (n : Int) := by omega
        have hS : wr.drew = wr.drew := rfl
        refine wp_region_keep (fun w' => w' = wr.drew) [(0, false), (1, false), (2, false), (3, false), (4, false), (5, false), (6, false), (7, false), (8, false)] (by kernel_rfl) (by kernel_rfl) (by kernel_rfl) (fun d _ _ _ _ h => by cases d <;> exact h) ?_
        iterate 3
         refine held_pure (v := ?_) rfl rfl (by simp [Region.wanted, yielded]) hS ?_ ?_
         rotate_left
         ·intro w hw; go_simp; try with_reducible rfl
         try simp only [Act.put, zpA, zpB, zpC]
        refine held_pure (v := ?_) rfl rfl (by simp [Region.wanted, yielded]) hS ?_ ?_
        rotate_left
        ·intro w hw; have c0 := HA0.out w hw; have c1 := HA1.out w hw; have c2 := HA2.out w hw; clear hw; go_simp; try with_reducible rfl
        try simp only [Act.put, zpA, zpB, zpC]
        iterate 3
         refine held_pure (v := ?_) rfl rfl (by simp [Region.wanted, yielded]) hS ?_ ?_
         rotate_left
         ·intro w hw; go_simp; try with_reducible rfl
         try simp only [Act.put, zpA, zpB, zpC]
        refine held_pure (v := ?_) rfl rfl (by simp [Region.wanted, yielded]) hS ?_ ?_
        rotate_left
        ·intro w hw; have c0 := HB0.out w hw; have c1 := HB1.out w hw; have c2 := HB2.out w hw; clear hw; go_simp; try with_reducible rfl
        try simp only [Act.put, zpA, zpB, zpC]
        refine held_pure (v := ?_) rfl rfl (by simp [Region.wanted, yielded]) hS ?_ ?_
        rotate_left
        ·intro w hw; go_simp; try with_reducible rfl
        try simp only [Act.put, zpA, zpB, zpC]
        refine held_end ?_
        go_wp2
        go_ret
        rw [Hne.out]
        exact ⟨rfl, HB.out.drew⟩
   ·obtain rfl : j = n := by omega
    have He := Lib.hid (show decide (l1 = l2) = true by
     have := Htk.out
     rw [List.take_of_length_le (by rw [Hl1.out]; exact Nat.le_refl _), List.take_of_length_le (by rw [Hl2.out]; exact Nat.le_refl _)] at this
     exact decide_eq_true this)
    go_wp2
    go_ret
    rw [He.out]
    exact ⟨rfl, HB.out⟩
 ·have hne : (n == m) = false := by simpa using hnm
  have hne2 : ((n : Int) == (m : Int)) = false := by simp; omega
  have Hne := Lib.hid (show decide (l1 = l2) = false from decide_eq_false (fun h => hnm (by rw [← Hl1.out, ← Hl2.out, h])))
  go_enter Tryz.func128, Tryz.ntmps128
  go_wp2
  go_ret
  rw [Hne.out]
  exact ⟨rfl, Below.refl _ _⟩
end Go.Proofs.YtjpjalmilfgckaaGreatDoor
namespace Go.Proofs.YtjpjalmilfgckaaGreatDoor
open Go.RowKit
set_option maxRecDepth 100000 in
theorem clone_any (A : Option Addr) (n c : Nat) (l : List UInt8) (w : World) (hr : Reads w w.heap.size 1 A n (u8s l)) (hn : n ≤ 35184372088832) :
  Calls Tryz.prog 104 #[.slice A n c] w fun e w' => ∃ A' c', e = .returned (.slice A' n c') ∧ n ≤ c' ∧ c' ≤ maxLen ∧ w'.ownsRow w.heap.size 5 1 (.slice A' n c') n (u8s l) ∧ Below w.heap.size w w' := by
 obtain ⟨i0, hi0, hz0, hz1, hz2⟩ := info_parts u8_info
 have hnil : ∀ W, (binOp .eql 35 (.slice A n c) (.slice none 0 0)).run Tryz.prog W = .ok (.bool A.isNone) W := fun W => Lib.run_eql_slice_nil W _ _ _ _ _ _ _ Tryz.underlying35
 cases A with
 | none =>
  have hn0 : n = 0 := by
   rcases Nat.eq_zero_or_pos n with h | h
   ·exact h
   ·obtain ⟨ad, h2, _⟩ := hr.2 h
    cases h2
  subst hn0
  have hl0 : l = [] := by
   have := hr.1
   cases l with
   | nil => rfl
   | cons a l => simp at this
  subst hl0
  go_enter Tryz.func104, Tryz.ntmps104
  go_wp2
  go_ret
  exact ⟨none, 0, rfl, Nat.le_refl _, by decide, World.ownsRow_nil _ _ _ _, Below.refl _ _⟩
 | some ad =>
  have hown : (w.alloc (.cells #[] 5)).ownsRow w.heap.size 5 1 (.slice (some ⟨w.heap.size, 0, none⟩) 0 0) 0 [] := (Blk.new w 5 #[]).own (Nat.le_refl _) rfl rfl (by decide)
  have hs2 : (0 + n) * 1 ≤ 70368744177664 := by omega
  have hs1 : 0 + n ≤ maxLen := by simp only [maxLen]; omega
  go_enter Tryz.func104, Tryz.ntmps104
  go_wp2_with (at_builtin
               refine wpList_append_any _ rfl (.tmp 5) (.tmp 6) 35 rfl w.heap.size 5 i0 (.int .u8 0) 1 1 Tryz.underlying35 hi0 hz0 hz1 hz2 rfl (by decide) (some ⟨w.heap.size, 0, none⟩) 0 0 [] rfl hown (some ad) n c (u8s l) rfl (hr.al _) (u8s_one l) hs1 hs2 (by simp) ?_
               intro A3 c3 w3 hown3 hb3 hg3 hc3 hm3)
  go_ret
  rw [Nat.zero_add] at hown3 hc3
  rw [List.nil_append] at hown3
  exact ⟨A3, c3, by first | rfl | (rw [Nat.zero_add]; rfl), hc3, hm3, hown3, ((Below.refl _ _).alloc (Nat.le_refl _) _).trans hb3⟩
def putF (k : Int) : Nat := if k = 1 then 163 else if k = 4 then 165 else if k = 5 then 166 else 164
set_option maxRecDepth 100000 in
theorem writes_any (k : Int) (w : World) (h1 : 1 ≤ k) (h5 : k ≤ 5) : Calls Tryz.prog 109 #[.int .i64 k] w fun e w' => e = .returned (.func (.func (putF k)) #[] #[]) ∧ w = w' := by
 have hix : (Instr.index 208 (.agg #[.nilFunc, .func (.func 163) #[] #[], .func (.func 164) #[] #[], .func (.func 164) #[] #[], .func (.func 165) #[] #[], .func (.func 166) #[] #[]]) (.int .i64 k)).run Tryz.prog w = .ok (.func (.func (putF k)) #[] #[]) w := by
  rcases (show k = 1 ∨ k = 2 ∨ k = 3 ∨ k = 4 ∨ k = 5 by omega) with rfl | rfl | rfl | rfl | rfl
  all_goals kernel_rfl
 go_enter Tryz.func109, Tryz.ntmps109
 go_wp2
 go_ret
 exact ⟨rfl, rfl⟩
end Go.Proofs.YtjpjalmilfgckaaGreatDoor
