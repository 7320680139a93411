/- Part 17 of the walks, merged: each text under its own heading. Conditions: none of its own; each lemma states what it asks. -/
import Derived.Test.YtjpjalmilfgckaaGreatDoorBk7
import Derived.Test.YtjpjalmilfgckaaGreatDoorBk8
import Derived.Test.YtjpjalmilfgckaaGreatDoorBk11
import Derived.Test.YtjpjalmilfgckaaGreatDoorBk16
import Derived.Laws.BitsAllLaws
set_option linter.unusedVariables false
set_option linter.unusedSimpArgs false
namespace Go.Proofs.YtjpjalmilfgckaaGreatDoor
open Go.RowKit
set_option maxRecDepth 100000 in
set_option maxHeartbeats 2000000 in
theorem ceq_any (A B : Option Addr) (n c m d : Nat) (l1 l2 : List Cl) (w : World) (h1 : Reads w w.heap.size 3 A n (cls l1)) (h2 : Reads w w.heap.size 3 B m (cls l2)) (hn : n ≤ maxLen) :
  Calls Tryz.prog 151 #[.slice A n c, .slice B m d] w fun e w' => e = .returned (.bool (decide (l1 = l2))) ∧ Below w.heap.size w w' := by
 have H1 := Lib.hid h1
 have H2 := Lib.hid h2
 have Hl1 := Lib.hid (cls_len h1)
 have Hl2 := Lib.hid (cls_len h2)
 have hn63 : n ≤ 9223372036854775807 := by simp only [maxLen] at hn; omega
 clear h1 h2 hn
 by_cases hnm : n = m
 ·subst hnm
  go_enter Tryz.func151, Tryz.ntmps151
  go_wp2
  go_loopw [13] (fun i wr => ∃ j : Nat, j ≤ n ∧ i = .int .i64 (j : Int) ∧ Hid (l1.take j = l2.take j) ∧ Hid (Below w.heap.size w wr)) (fun i _ => n - (intOf i).toNat)
  case atStart => exact ⟨0, Nat.zero_le _, rfl, Lib.hid rfl, Lib.hid (Below.refl _ _)⟩
  case round =>
   obtain ⟨j, hj, rfl, Htk, HB⟩ := hrel
   by_cases hlt : j < n
   ·obtain ⟨ad, u, x, s, rfl, hbk, hx, a0, a1, a2⟩ := cls_at (H1.out.below HB.out) hlt
    obtain ⟨ad', u', x', s', rfl, hbk', hx', b0, b1, b2⟩ := cls_at (H2.out.below HB.out) hlt
    have Hx := Lib.hid hx
    have Hx' := Lib.hid hx'
    have HA0 := Lib.hid (show ∀ w', w' = wr.drew → w'.cell? (ad.add (j * 3)) = some (.bool u) from fun w' h => by rw [h]; exact a0)
    have HA1 := Lib.hid (show ∀ w', w' = wr.drew → w'.cell? ⟨(ad.add (j * 3)).block, (ad.add (j * 3)).off + 1, none⟩ = some (.int .i64 x) from fun w' h => by rw [h]; exact a1)
    have HA2 := Lib.hid (show ∀ w', w' = wr.drew → w'.cell? ⟨(ad.add (j * 3)).block, (ad.add (j * 3)).off + 2, none⟩ = some (.string s) from fun w' h => by rw [h]; exact a2)
    have HB0 := Lib.hid (show ∀ w', w' = wr.drew → w'.cell? (ad'.add (j * 3)) = some (.bool u') from fun w' h => by rw [h]; exact b0)
    have HB1 := Lib.hid (show ∀ w', w' = wr.drew → w'.cell? ⟨(ad'.add (j * 3)).block, (ad'.add (j * 3)).off + 1, none⟩ = some (.int .i64 x') from fun w' h => by rw [h]; exact b1)
    have HB2 := Lib.hid (show ∀ w', w' = wr.drew → w'.cell? ⟨(ad'.add (j * 3)).block, (ad'.add (j * 3)).off + 2, none⟩ = some (.string s') from fun w' h => by rw [h]; exact b2)
    clear hx hx' hbk hbk' a0 a1 a2 b0 b1 b2
    by_cases hc : (u, x, s) = (u', x', s')
    ·simp only [Prod.mk.injEq] at hc
     obtain ⟨rfl, rfl, rfl⟩ := hc
     have Htk2 := Lib.hid (show l1.take (j + 1) = l2.take (j + 1) by rw [List.take_add_one, List.take_add_one, Hx.out, Hx'.out, Htk.out])
     go_wp2
     have hji : (j : Int) < (n : Int) := by omega
     have hS : wr.drew = wr.drew := rfl
     refine wp_region_keep (fun w' => w' = wr.drew) [(0, false), (1, false), (2, false), (3, false), (4, false), (5, false), (6, false), (7, false), (8, false)] (by kernel_rfl) (by kernel_rfl) (by kernel_rfl) (fun d _ _ _ _ h => by cases d <;> exact h) ?_
     iterate 3
      refine held_pure (v := ?_) rfl rfl (by simp [Region.wanted, yielded]) hS ?_ ?_
      rotate_left
      ·intro w hw; go_simp; try with_reducible rfl
      try simp only [Act.put, zpA, zpB, zpC]
     refine held_pure (v := ?_) rfl rfl (by simp [Region.wanted, yielded]) hS ?_ ?_
     rotate_left
     ·intro w hw; have c0 := HA0.out w hw; have c1 := HA1.out w hw; have c2 := HA2.out w hw; clear hw; go_simp; try with_reducible rfl
     try simp only [Act.put, zpA, zpB, zpC]
     iterate 3
      refine held_pure (v := ?_) rfl rfl (by simp [Region.wanted, yielded]) hS ?_ ?_
      rotate_left
      ·intro w hw; go_simp; try with_reducible rfl
      try simp only [Act.put, zpA, zpB, zpC]
     refine held_pure (v := ?_) rfl rfl (by simp [Region.wanted, yielded]) hS ?_ ?_
     rotate_left
     ·intro w hw; have c0 := HB0.out w hw; have c1 := HB1.out w hw; have c2 := HB2.out w hw; clear hw; go_simp; try with_reducible rfl
     try simp only [Act.put, zpA, zpB, zpC]
     refine held_pure (v := ?_) rfl rfl (by simp [Region.wanted, yielded]) hS ?_ ?_
     rotate_left
     ·intro w hw; go_simp; try with_reducible rfl
     try simp only [Act.put, zpA, zpB, zpC]
     refine held_end ?_
     go_wp2
     go_roundw
     case rel => exact ⟨j + 1, by omega, by go_num, Htk2, Lib.hid HB.out.drew⟩
     case measure => simp [intOf]; omega
    ·have Hne := Lib.hid (show decide (l1 = l2) = false from decide_eq_false (fun h => hc (by subst h; exact Option.some.inj (Hx.out.symm.trans Hx'.out))))
     have Hc := Lib.hid hc
     clear hc
     cases u with
     | false =>
      cases u' with
      | false =>
       by_cases hxx : x = x'
       ·subst hxx
        have hss : ¬ s.toList = s'.toList := by
         intro h
         apply Hc.out
         have : (s.toList == s'.toList) = true := by rw [h]; simp
         rw [text_eqb2] at this
         rw [of_decide_eq_true this]
        go_wp2
        have hji : (j : Int) < (n : Int) := by omega
        have hS : wr.drew = wr.drew := rfl
        refine wp_region_keep (fun w' => w' = wr.drew) [(0, false), (1, false), (2, false), (3, false), (4, false), (5, false), (6, false), (7, false), (8, false)] (by kernel_rfl) (by kernel_rfl) (by kernel_rfl) (fun d _ _ _ _ h => by cases d <;> exact h) ?_
        iterate 3
         refine held_pure (v := ?_) rfl rfl (by simp [Region.wanted, yielded]) hS ?_ ?_
         rotate_left
         ·intro w hw; go_simp; try with_reducible rfl
         try simp only [Act.put, zpA, zpB, zpC]
        refine held_pure (v := ?_) rfl rfl (by simp [Region.wanted, yielded]) hS ?_ ?_
        rotate_left
        ·intro w hw; have c0 := HA0.out w hw; have c1 := HA1.out w hw; have c2 := HA2.out w hw; clear hw; go_simp; try with_reducible rfl
        try simp only [Act.put, zpA, zpB, zpC]
        iterate 3
         refine held_pure (v := ?_) rfl rfl (by simp [Region.wanted, yielded]) hS ?_ ?_
         rotate_left
         ·intro w hw; go_simp; try with_reducible rfl
         try simp only [Act.put, zpA, zpB, zpC]
        refine held_pure (v := ?_) rfl rfl (by simp [Region.wanted, yielded]) hS ?_ ?_
        rotate_left
        ·intro w hw; have c0 := HB0.out w hw; have c1 := HB1.out w hw; have c2 := HB2.out w hw; clear hw; go_simp; try with_reducible rfl
        try simp only [Act.put, zpA, zpB, zpC]
        refine held_pure (v := ?_) rfl rfl (by simp [Region.wanted, yielded]) hS ?_ ?_
        rotate_left
        ·intro w hw; go_simp; try with_reducible rfl
        try simp only [Act.put, zpA, zpB, zpC]
        refine held_end ?_
        go_wp2
        go_ret
        rw [Hne.out]
        exact ⟨rfl, HB.out.drew⟩
       ·have hxb : (x == x') = false := by simpa using hxx
        go_wp2
        have hji : (j : Int) < (n : Int) := by omega
        have hS : wr.drew = wr.drew := rfl
        refine wp_region_keep (fun w' => w' = wr.drew) [(0, false), (1, false), (2, false), (3, false), (4, false), (5, false), (6, false), (7, false), (8, false)] (by kernel_rfl) (by kernel_rfl) (by kernel_rfl) (fun d _ _ _ _ h => by cases d <;> exact h) ?_
        iterate 3
         refine held_pure (v := ?_) rfl rfl (by simp [Region.wanted, yielded]) hS ?_ ?_
         rotate_left
         ·intro w hw; go_simp; try with_reducible rfl
         try simp only [Act.put, zpA, zpB, zpC]
        refine held_pure (v := ?_) rfl rfl (by simp [Region.wanted, yielded]) hS ?_ ?_
        rotate_left
        ·intro w hw; have c0 := HA0.out w hw; have c1 := HA1.out w hw; have c2 := HA2.out w hw; clear hw; go_simp; try with_reducible rfl
        try simp only [Act.put, zpA, zpB, zpC]
        iterate 3
         refine held_pure (v := ?_) rfl rfl (by simp [Region.wanted, yielded]) hS ?_ ?_
         rotate_left
         ·intro w hw; go_simp; try with_reducible rfl
         try simp only [Act.put, zpA, zpB, zpC]
        refine held_pure (v := ?_) rfl rfl (by simp [Region.wanted, yielded]) hS ?_ ?_
        rotate_left
        ·intro w hw; have c0 := HB0.out w hw; have c1 := HB1.out w hw; have c2 := HB2.out w hw; clear hw; go_simp; try with_reducible rfl
        try simp only [Act.put, zpA, zpB, zpC]
        refine held_pure (v := ?_) rfl rfl (by simp [Region.wanted, yielded]) hS ?_ ?_
        rotate_left
        ·intro w hw; go_simp; try with_reducible rfl
        try simp only [Act.put, zpA, zpB, zpC]
        refine held_end ?_
        go_wp2
        go_ret
        rw [Hne.out]
        exact ⟨rfl, HB.out.drew⟩
      | true =>
       go_wp2
       have hji : (j : Int) < (n : Int) := by omega
       have hS : wr.drew = wr.drew := rfl
       refine wp_region_keep (fun w' => w' = wr.drew) [(0, false), (1, false), (2, false), (3, false), (4, false), (5, false), (6, false), (7, false), (8, false)] (by kernel_rfl) (by kernel_rfl) (by kernel_rfl) (fun d _ _ _ _ h => by cases d <;> exact h) ?_
       iterate 3
        refine held_pure (v := ?_) rfl rfl (by simp [Region.wanted, yielded]) hS ?_ ?_
        rotate_left
        ·intro w hw; go_simp; try with_reducible rfl
        try simp only [Act.put, zpA, zpB, zpC]
       refine held_pure (v := ?_) rfl rfl (by simp [Region.wanted, yielded]) hS ?_ ?_
       rotate_left
       ·intro w hw; have c0 := HA0.out w hw; have c1 := HA1.out w hw; have c2 := HA2.out w hw; clear hw; go_simp; try with_reducible rfl
       try simp only [Act.put, zpA, zpB, zpC]
       iterate 3
        refine held_pure (v := ?_) rfl rfl (by simp [Region.wanted, yielded]) hS ?_ ?_
        rotate_left
        ·intro w hw; go_simp; try with_reducible rfl
        try simp only [Act.put, zpA, zpB, zpC]
       refine held_pure (v := ?_) rfl rfl (by simp [Region.wanted, yielded]) hS ?_ ?_
       rotate_left
       ·intro w hw; have c0 := HB0.out w hw; have c1 := HB1.out w hw; have c2 := HB2.out w hw; clear hw; go_simp; try with_reducible rfl
       try simp only [Act.put, zpA, zpB, zpC]
       refine held_pure (v := ?_) rfl rfl (by simp [Region.wanted, yielded]) hS ?_ ?_
       rotate_left
       ·intro w hw; go_simp; try with_reducible rfl
       try simp only [Act.put, zpA, zpB, zpC]
       refine held_end ?_
       go_wp2
       go_ret
       rw [Hne.out]
       exact ⟨rfl, HB.out.drew⟩
     | true =>
      cases u' with
      | false =>
       go_wp2
       have hji : (j : Int) < (n : Int) := by omega
       have hS : wr.drew = wr.drew := rfl
       refine wp_region_keep (fun w' => w' = wr.drew) [(0, false), (1, false), (2, false), (3, false), (4, false), (5, false), (6, false), (7, false), (8, false)] (by kernel_rfl) (by kernel_rfl) (by kernel_rfl) (fun d _ _ _ _ h => by cases d <;> exact h) ?_
       iterate 3
        refine held_pure (v := ?_) rfl rfl (by simp [Region.wanted, yielded]) hS ?_ ?_
        rotate_left
        ·intro w hw; go_simp; try with_reducible rfl
        try simp only [Act.put, zpA, zpB, zpC]
       refine held_pure (v := ?_) rfl rfl (by simp [Region.wanted, yielded]) hS ?_ ?_
       rotate_left
       ·intro w hw; have c0 := HA0.out w hw; have c1 := HA1.out w hw; have c2 := HA2.out w hw; clear hw; go_simp; try with_reducible rfl
       try simp only [Act.put, zpA, zpB, zpC]
       iterate 3
        refine held_pure (v := ?_) rfl rfl (by simp [Region.wanted, yielded]) hS ?_ ?_
        rotate_left
        ·intro w hw; go_simp; try with_reducible rfl
        try simp only [Act.put, zpA, zpB, zpC]
       refine held_pure (v := ?_) rfl rfl (by simp [Region.wanted, yielded]) hS ?_ ?_
       rotate_left
       ·intro w hw; have c0 := HB0.out w hw; have c1 := HB1.out w hw; have c2 := HB2.out w hw; clear hw; go_simp; try with_reducible rfl
       try simp only [Act.put, zpA, zpB, zpC]
       refine held_pure (v := ?_) rfl rfl (by simp [Region.wanted, yielded]) hS ?_ ?_
       rotate_left
       ·intro w hw; go_simp; try with_reducible rfl
       try simp only [Act.put, zpA, zpB, zpC]
       refine held_end ?_
       go_wp2
       go_ret
       rw [Hne.out]
       exact ⟨rfl, HB.out.drew⟩
      | true =>
       by_cases hxx : x = x'
       ·subst hxx
        have hss : ¬ s.toList = s'.toList := by
         intro h
         apply Hc.out
         have : (s.toList == s'.toList) = true := by rw [h]; simp
         rw [text_eqb2] at this
         rw [of_decide_eq_true this]
        go_wp2
        have hji : (j : Int) < (n : Int) := by omega
        have hS : wr.drew = wr.drew := rfl
        refine wp_region_keep (fun w' => w' = wr.drew) [(0, false), (1, false), (2, false), (3, false), (4, false), (5, false), (6, false), (7, false), (8, false)] (by kernel_rfl) (by kernel_rfl) (by kernel_rfl) (fun d _ _ _ _ h => by cases d <;> exact h) ?_
        iterate 3
         refine held_pure (v := ?_) rfl rfl (by simp [Region.wanted, yielded]) hS ?_ ?_
         rotate_left
         ·intro w hw; go_simp; try with_reducible rfl
         try simp only [Act.put, zpA, zpB, zpC]
        refine held_pure (v := ?_) rfl rfl (by simp [Region.wanted, yielded]) hS ?_ ?_
        rotate_left
        ·intro w hw; have c0 := HA0.out w hw; have c1 := HA1.out w hw; have c2 := HA2.out w hw; clear hw; go_simp; try with_reducible rfl
        try simp only [Act.put, zpA, zpB, zpC]
        iterate 3
         refine held_pure (v := ?_) rfl rfl (by simp [Region.wanted, yielded]) hS ?_ ?_
         rotate_left
         ·intro w hw; go_simp; try with_reducible rfl
         try simp only [Act.put, zpA, zpB, zpC]
        refine held_pure (v := ?_) rfl rfl (by simp [Region.wanted, yielded]) hS ?_ ?_
        rotate_left
        ·intro w hw; have c0 := HB0.out w hw; have c1 := HB1.out w hw; have c2 := HB2.out w hw; clear hw; go_simp; try with_reducible rfl
        try simp only [Act.put, zpA, zpB, zpC]
        refine held_pure (v := ?_) rfl rfl (by simp [Region.wanted, yielded]) hS ?_ ?_
        rotate_left
        ·intro w hw; go_simp; try with_reducible rfl
        try simp only [Act.put, zpA, zpB, zpC]
        refine held_end ?_
        go_wp2
        go_ret
        rw [Hne.out]
        exact ⟨rfl, HB.out.drew⟩
       ·have hxb : (x == x') = false := by simpa using hxx
        go_wp2
        have hji : (j : Int) < (n : Int) := by omega
        have hS : wr.drew = wr.drew := rfl
        refine wp_region_keep (fun w' => w' = wr.drew) [(0, false), (1, false), (2, false), (3, false), (4, false), (5, false), (6, false), (7, false), (8, false)] (by kernel_rfl) (by kernel_rfl) (by kernel_rfl) (fun d _ _ _ _ h => by cases d <;> exact h) ?_
        iterate 3
         refine held_pure (v := ?_) rfl rfl (by simp [Region.wanted, yielded]) hS ?_ ?_
         rotate_left
         ·intro w hw; go_simp; try with_reducible rfl
         try simp only [Act.put, zpA, zpB, zpC]
        refine held_pure (v := ?_) rfl rfl (by simp [Region.wanted, yielded]) hS ?_ ?_
        rotate_left
        ·intro w hw; have c0 := HA0.out w hw; have c1 := HA1.out w hw; have c2 := HA2.out w hw; clear hw; go_simp; try with_reducible rfl
        try simp only [Act.put, zpA, zpB, zpC]
        iterate 3
         refine held_pure (v := ?_) rfl rfl (by simp [Region.wanted, yielded]) hS ?_ ?_
         rotate_left
         ·intro w hw; go_simp; try with_reducible rfl
         try simp only [Act.put, zpA, zpB, zpC]
        refine held_pure (v := ?_) rfl rfl (by simp [Region.wanted, yielded]) hS ?_ ?_
        rotate_left
        ·intro w hw; have c0 := HB0.out w hw; have c1 := HB1.out w hw; have c2 := HB2.out w hw; clear hw; go_simp; try with_reducible rfl
        try simp only [Act.put, zpA, zpB, zpC]
        refine held_pure (v := ?_) rfl rfl (by simp [Region.wanted, yielded]) hS ?_ ?_
        rotate_left
        ·intro w hw; go_simp; try with_reducible rfl
        try simp only [Act.put, zpA, zpB, zpC]
        refine held_end ?_
        go_wp2
        go_ret
        rw [Hne.out]
        exact ⟨rfl, HB.out.drew⟩
   ·obtain rfl : j = n := by omega
    have He := Lib.hid (show decide (l1 = l2) = true by
     have := Htk.out
     rw [List.take_of_length_le (by rw [Hl1.out]; exact Nat.le_refl _), List.take_of_length_le (by rw [Hl2.out]; exact Nat.le_refl _)] at this
     exact decide_eq_true this)
    go_wp2
    go_ret
    rw [He.out]
    exact ⟨rfl, HB.out⟩
 ·have hne : (n == m) = false := by simpa using hnm
  have hne2 : ((n : Int) == (m : Int)) = false := by simp; omega
  have Hne := Lib.hid (show decide (l1 = l2) = false from decide_eq_false (fun h => hnm (by rw [← Hl1.out, ← Hl2.out, h])))
  go_enter Tryz.func151, Tryz.ntmps151
  go_wp2
  go_ret
  rw [Hne.out]
  exact ⟨rfl, Below.refl _ _⟩
set_option maxRecDepth 100000 in
theorem rsame_any (A B : Option Addr) (n c m d : Nat) (l1 l2 : List Cl) (w : World) (h1 : Reads w w.heap.size 3 A n (cls l1)) (h2 : Reads w w.heap.size 3 B m (cls l2)) (hn : n ≤ maxLen) :
  Calls Tryz.prog 92 #[.slice A n c, .slice B m d] w fun e w' => e = .returned (.bool (decide (l1 = l2))) ∧ Below w.heap.size w w' := by
 have HK := Lib.hid (ceq_any A B n c m d l1 l2 w h1 h2 hn)
 clear h1 h2 hn
 go_enter Tryz.func92, Tryz.ntmps92
 go_wp2_with fail
 with_reducible refine HK.out.mono ?_
 rintro e w1 ⟨rfl, hb⟩
 have HB := Lib.hid hb
 clear hb
 go_wp2
 go_ret
 exact ⟨rfl, HB.out⟩
set_option maxRecDepth 100000 in
set_option maxHeartbeats 1000000 in
theorem isame_any (A B : Option Addr) (n c m d : Nat) (x y : Int) (l1 l2 : List Cl) (w : World) (h1 : Reads w w.heap.size 3 A n (cls l1)) (h2 : Reads w w.heap.size 3 B m (cls l2)) (hn : n ≤ maxLen) :
  Calls Tryz.prog 91 #[.agg #[.slice A n c, .int .i64 x], .agg #[.slice B m d, .int .i64 y]] w fun e w' => e = .returned (.bool (decide ((l1, x) = (l2, y)))) ∧ Below w.heap.size w w' := by
 have HB1 := Lib.hid (bal (bal (Below.refl w.heap.size w) (.cells #[.slice A n c, .int .i64 x] 26)) (.cells #[.slice B m d, .int .i64 y] 26))
 have P1 := Lib.hid ((Blk.new w 26 #[.slice A n c, .int .i64 x]).alloc (.cells #[.slice B m d, .int .i64 y] 26))
 have P2 := Lib.hid (Blk.new (w.alloc (.cells #[.slice A n c, .int .i64 x] 26)) 26 #[.slice B m d, .int .i64 y])
 have HK := Lib.hid (rsame_any A B n c m d l1 l2 ((w.alloc (.cells #[.slice A n c, .int .i64 x] 26)).alloc (.cells #[.slice B m d, .int .i64 y] 26)) (h1.on HB1.out) (h2.on HB1.out) hn)
 clear h1 h2 hn
 by_cases hxy : x = y
 ·subst hxy
  have db : (x == x) = true := by simp
  go_enter Tryz.func91, Tryz.ntmps91
  go_wp2_with fail
  with_reducible refine HK.out.mono ?_
  rintro e w1 ⟨rfl, hb⟩
  have HB := Lib.hid (bon HB1.out hb)
  clear hb
  go_wp2
  go_ret
  refine ⟨?_, HB.out⟩
  simp
 ·have db : (x == y) = false := by simpa using hxy
  have HE := Lib.hid (show decide ((l1, x) = (l2, y)) = false from decide_eq_false (fun h => hxy (Prod.mk.inj h).2))
  clear hxy
  go_enter Tryz.func91, Tryz.ntmps91
  go_wp2
  go_ret
  exact ⟨by rw [HE.out]; rfl, HB1.out⟩
set_option maxRecDepth 100000 in
set_option maxHeartbeats 1000000 in
theorem esame_any (A B : Option Addr) (n c m d : Nat) (l1 l2 : List It) (w : World) (h1 : ItemsAt w w.heap.size A n l1) (h2 : ItemsAt w w.heap.size B m l2) (hn : n ≤ maxLen) :
  Calls Tryz.prog 93 #[.slice A n c, .slice B m d, .func (.func 91) #[] #[]] w fun e w' => e = .returned (.bool (decide (l1 = l2))) ∧ Below w.heap.size w w' := by
 have hin := callFunc_in Tryz.func91 (by kernel_rfl) (by kernel_rfl)
 have H1 := Lib.hid h1
 have H2 := Lib.hid h2
 have Hl1 := Lib.hid h1.len
 have Hl2 := Lib.hid h2.len
 have hn63 : n ≤ 9223372036854775807 := by simp only [maxLen] at hn; omega
 clear h1 h2 hn
 by_cases hnm : m = n
 ·subst hnm
  go_enter Tryz.func93, Tryz.ntmps93
  go_wp2
  go_loopw [17] (fun i wr => ∃ j : Nat, j ≤ m ∧ i = .int .i64 (j : Int) ∧ Hid (l1.take j = l2.take j) ∧ Hid (Below w.heap.size w wr)) (fun i _ => m - (intOf i).toNat)
  case atStart => exact ⟨0, Nat.zero_le _, rfl, Lib.hid rfl, Lib.hid (Below.refl _ _)⟩
  case round =>
   obtain ⟨j, hj, rfl, Htk, HB⟩ := hrel
   by_cases hlt : j < m
   ·obtain ⟨ad, A', c', it, rfl, hbk, hx, a0, a1, r1, rc1, rc2⟩ := (H1.out.below HB.out).at_ hlt
    obtain ⟨ad', A'', c'', it', rfl, hbk', hx', b0, b1, r2, -, -⟩ := (H2.out.below HB.out).at_ hlt
    have HB1 := Lib.hid (bal (bal HB.out (.cells #[.slice A' it.1.length c', .int .i64 it.2] 26)) (.cells #[.slice A'' it'.1.length c'', .int .i64 it'.2] 26))
    have hbX := ((Below.refl wr.heap.size wr).alloc (Nat.le_refl _) (.cells #[.slice A' it.1.length c', .int .i64 it.2] 26))
    have b0' := ((hbX.cell (p := ad'.add (j * 2)) (by rw [block_of_add]; exact Nat.lt_of_lt_of_le hbk' HB.out.size))).trans b0
    have b1' := ((hbX.cell (p := ⟨(ad'.add (j * 2)).block, (ad'.add (j * 2)).off + 1, none⟩) (by show (ad'.add (j * 2)).block < _; rw [block_of_add]; exact Nat.lt_of_lt_of_le hbk' HB.out.size))).trans b1
    have HK := Lib.hid (isame_any A' A'' it.1.length c' it'.1.length c'' it.2 it'.2 it.1 it'.1 _ ((r1.more HB.out.size).al (.cells #[.slice A' it.1.length c', .int .i64 it.2] 26) |>.al (.cells #[.slice A'' it'.1.length c'', .int .i64 it'.2] 26)) ((r2.more HB.out.size).al (.cells #[.slice A' it.1.length c', .int .i64 it.2] 26) |>.al (.cells #[.slice A'' it'.1.length c'', .int .i64 it'.2] 26)) (Nat.le_trans rc1 rc2))
    have Hx := Lib.hid hx
    have Hx' := Lib.hid hx'
    have hji : (j : Int) < (m : Int) := by omega
    clear hx hx' hbk hbk' r1 r2 rc1 rc2 hbX b0 b1
    obtain ⟨r, v⟩ := it
    obtain ⟨r', v'⟩ := it'
    simp only at a0 a1 b0' b1' HK HB1
    generalize r.length = rl at *
    generalize r'.length = rl' at *
    go_wp2_with fail
    with_reducible refine HK.out.mono ?_
    rintro e w1 ⟨rfl, hb⟩
    have HB2 := Lib.hid (bon HB1.out hb)
    clear hb a0 a1 b0' b1' HK
    by_cases hc : (r, v) = (r', v')
    ·have Htk2 := Lib.hid (show l1.take (j + 1) = l2.take (j + 1) by rw [List.take_add_one, List.take_add_one, Hx.out, Hx'.out, Htk.out, hc])
     rw [decide_eq_true hc]
     clear hc
     go_wp2
     go_roundw
     case rel => exact ⟨j + 1, by omega, by go_num, Htk2, HB2⟩
     case measure => simp [intOf]; omega
    ·have Hne := Lib.hid (show decide (l1 = l2) = false from decide_eq_false (fun h => hc (by subst h; exact Option.some.inj (Hx.out.symm.trans Hx'.out))))
     rw [decide_eq_false hc]
     clear hc
     go_wp2
     go_ret
     exact ⟨by rw [Hne.out]; rfl, HB2.out⟩
   ·obtain rfl : m = j := by omega
    have He := Lib.hid (show decide (l1 = l2) = true by
     have := Htk.out
     rw [List.take_of_length_le (by rw [Hl1.out]; exact Nat.le_refl _), List.take_of_length_le (by rw [Hl2.out]; exact Nat.le_refl _)] at this
     exact decide_eq_true this)
    go_wp2
    go_ret
    exact ⟨by rw [He.out]; rfl, HB.out⟩
 ·have hne2 : ((n : Int) != (m : Int)) = true := by simp; omega
  have hne3 : (n != m) = true := by simp; omega
  have Hne := Lib.hid (show decide (l1 = l2) = false from decide_eq_false (fun h => hnm (by rw [← Hl1.out, ← Hl2.out, h])))
  go_enter Tryz.func93, Tryz.ntmps93
  go_wp2
  go_ret
  exact ⟨by rw [Hne.out]; rfl, Below.refl _ _⟩
def sameBa (a b : Ba) : Bool := decide (a.1 = b.1) && (decide (a.2.1 = b.2.1) && decide (a.2.2 = b.2.2))
theorem sameBa_iff (a b : Ba) : sameBa a b = true ↔ a = b := by
 obtain ⟨v, s, l⟩ := a
 obtain ⟨v', s', l'⟩ := b
 unfold sameBa
 simp only [Bool.and_eq_true, decide_eq_true_eq, Prod.mk.injEq]
theorem sameBa_self (a : Ba) : sameBa a a = true := (sameBa_iff a a).2 rfl
theorem sameBa_not {a b : Ba} (h : a ≠ b) : sameBa a b = false := by
 cases hs : sameBa a b with
 | false => rfl
 | true => exact absurd ((sameBa_iff a b).1 hs) h
set_option maxRecDepth 100000 in
set_option maxHeartbeats 1000000 in
theorem bsame_any (v1 s1 : Int) (A : Option Addr) (n c : Nat) (l1 : List It) (v2 s2 : Int) (B : Option Addr) (m d : Nat) (l2 : List It) (w : World) (h1 : ItemsAt w w.heap.size A n l1) (h2 : ItemsAt w w.heap.size B m l2) (hn : n ≤ maxLen) :
  Calls Tryz.prog 34 #[.agg #[.int .i64 v1, .int .i64 s1, .slice A n c], .agg #[.int .i64 v2, .int .i64 s2, .slice B m d]] w fun e w' => e = .returned (.bool (sameBa (v1, s1, l1) (v2, s2, l2))) ∧ Below w.heap.size w w' := by
 have HB1 := Lib.hid (bal (bal (Below.refl w.heap.size w) (.cells #[.int .i64 v1, .int .i64 s1, .slice A n c] 30)) (.cells #[.int .i64 v2, .int .i64 s2, .slice B m d] 30))
 have HK := Lib.hid (esame_any A B n c m d l1 l2 ((w.alloc (.cells #[.int .i64 v1, .int .i64 s1, .slice A n c] 30)).alloc (.cells #[.int .i64 v2, .int .i64 s2, .slice B m d] 30)) (h1.on HB1.out) (h2.on HB1.out) hn)
 clear h1 h2 hn
 by_cases hv : v1 = v2
 ·subst hv
  have d1 : (v1 == v1) = true := by simp
  by_cases hs : s1 = s2
  ·subst hs
   have d2 : (s1 == s1) = true := by simp
   go_enter Tryz.func34, Tryz.ntmps34
   go_wp2_with fail
   with_reducible refine HK.out.mono ?_
   rintro e w1 ⟨rfl, hb⟩
   have HB := Lib.hid (bon HB1.out hb)
   clear hb
   go_wp2
   go_ret
   refine ⟨?_, HB.out⟩
   simp [sameBa]
  ·have d2 : (s1 == s2) = false := by simpa using hs
   have HE := Lib.hid (show sameBa (v1, s1, l1) (v1, s2, l2) = false from sameBa_not (fun h => hs (by simp only [Prod.mk.injEq] at h; exact h.2.1)))
   clear hs HK
   go_enter Tryz.func34, Tryz.ntmps34
   go_wp2
   go_ret
   exact ⟨by rw [HE.out]; rfl, HB1.out⟩
 ·have d1 : (v1 == v2) = false := by simpa using hv
  have HE := Lib.hid (show sameBa (v1, s1, l1) (v2, s2, l2) = false from sameBa_not (fun h => hv (by simp only [Prod.mk.injEq] at h; exact h.1)))
  clear hv HK
  go_enter Tryz.func34, Tryz.ntmps34
  go_wp2
  go_ret
  exact ⟨by rw [HE.out]; rfl, HB1.out⟩
end Go.Proofs.YtjpjalmilfgckaaGreatDoor
namespace Go.Proofs.YtjpjalmilfgckaaGreatDoor
open Go.RowKit
set_option maxRecDepth 100000 in
theorem rmay_any (k : Int) (nl : Bool) (w : World) : Calls Tryz.prog 146 #[.agg #[.int .i64 k, .bool nl]] w fun e w' => e = .returned (.bool (mayK k)) ∧ Below w.heap.size w w' := by
 unfold mayK
 by_cases h1 : 1 ≤ k
 ·have d1 : decide (1 ≤ k) = true := decide_eq_true h1
  by_cases h2 : k ≤ 5
  ·have d2 : decide (k ≤ 5) = true := decide_eq_true h2
   rw [decide_eq_true (by omega : 1 ≤ k ∧ k ≤ 5)]
   go_enter Tryz.func146, Tryz.ntmps146
   go_wp2
   go_ret
   exact ⟨rfl, (Below.refl _ _).alloc (Nat.le_refl _) _⟩
  ·have d2 : decide (k ≤ 5) = false := decide_eq_false h2
   rw [decide_eq_false (by omega : ¬ (1 ≤ k ∧ k ≤ 5))]
   go_enter Tryz.func146, Tryz.ntmps146
   go_wp2
   go_ret
   exact ⟨rfl, (Below.refl _ _).alloc (Nat.le_refl _) _⟩
 ·have d1 : decide (1 ≤ k) = false := decide_eq_false h1
  rw [decide_eq_false (by omega : ¬ (1 ≤ k ∧ k ≤ 5))]
  go_enter Tryz.func146, Tryz.ntmps146
  go_wp2
  go_ret
  exact ⟨rfl, (Below.refl _ _).alloc (Nat.le_refl _) _⟩
def ofB (k : Int) (nl : Bool) (c : Cl) : Bool := if c.1 then nl && decide (c.2.1 = 0 ∧ c.2.2 = ⟨#[]⟩) else isC k c
abbrev K9 (n : Int) : Prop := -9223372036854775808 ≤ n ∧ n ≤ 9223372036854775807
set_option maxRecDepth 100000 in
theorem rof_null (k : Int) (nl : Bool) (n : Int) (s : ByteArray) (w : World) : Calls Tryz.prog 191 #[.agg #[.int .i64 k, .bool nl], .agg #[.bool true, .int .i64 n, .string s]] w fun e w' => e = .returned (.bool (ofB k nl (true, n, s))) ∧ Below w.heap.size w w' := by
 cases nl with
 | false =>
  rw [show ofB k false (true, n, s) = false from rfl]
  go_enter Tryz.func191, Tryz.ntmps191
  go_wp2
  go_ret
  exact ⟨rfl, ((Below.refl _ _).alloc (Nat.le_refl _) _).alloc (by simp) _⟩
 | true =>
  by_cases hn : n = 0
  ·subst hn
   by_cases hs : s = ⟨#[]⟩
   ·subst hs
    rw [show ofB k true (true, 0, ⟨#[]⟩) = true by simp [ofB]]
    go_enter Tryz.func191, Tryz.ntmps191
    go_wp2
    go_ret
    exact ⟨rfl, ((Below.refl _ _).alloc (Nat.le_refl _) _).alloc (by simp) _⟩
   ·have hss := empty_no hs
    rw [show ofB k true (true, 0, s) = false by simp [ofB, hs]]
    go_enter Tryz.func191, Tryz.ntmps191
    go_wp2
    go_ret
    exact ⟨rfl, ((Below.refl _ _).alloc (Nat.le_refl _) _).alloc (by simp) _⟩
  ·have hnn : (n == 0) = false := by simpa using hn
   rw [show ofB k true (true, n, s) = false by simp [ofB, hn]]
   go_enter Tryz.func191, Tryz.ntmps191
   go_wp2
   go_ret
   exact ⟨rfl, ((Below.refl _ _).alloc (Nat.le_refl _) _).alloc (by simp) _⟩
set_option maxRecDepth 100000 in
theorem rof_one (nl : Bool) (n : Int) (s : ByteArray) (w : World) : Calls Tryz.prog 191 #[.agg #[.int .i64 1, .bool nl], .agg #[.bool false, .int .i64 n, .string s]] w fun e w' => e = .returned (.bool (ofB 1 nl (false, n, s))) ∧ Below w.heap.size w w' := by
 by_cases hs : s = ⟨#[]⟩
 ·subst hs
  by_cases h0 : n = 0
  ·subst h0
   rw [show ofB 1 nl (false, 0, ⟨#[]⟩) = true by simp [ofB, isC]]
   go_enter Tryz.func191, Tryz.ntmps191
   go_wp2
   go_ret
   exact ⟨rfl, ((Below.refl _ _).alloc (Nat.le_refl _) _).alloc (by simp) _⟩
  ·have hn0 : (n == 0) = false := by simpa using h0
   by_cases h1 : n = 1
   ·subst h1
    rw [show ofB 1 nl (false, 1, ⟨#[]⟩) = true by simp [ofB, isC]]
    go_enter Tryz.func191, Tryz.ntmps191
    go_wp2
    go_ret
    exact ⟨rfl, ((Below.refl _ _).alloc (Nat.le_refl _) _).alloc (by simp) _⟩
   ·have hn1 : (n == 1) = false := by simpa using h1
    rw [show ofB 1 nl (false, n, ⟨#[]⟩) = false by simp [ofB, isC]; omega]
    go_enter Tryz.func191, Tryz.ntmps191
    go_wp2
    go_ret
    exact ⟨rfl, ((Below.refl _ _).alloc (Nat.le_refl _) _).alloc (by simp) _⟩
 ·have hss := empty_no hs
  rw [show ofB 1 nl (false, n, s) = false by simp [ofB, isC, hs]]
  go_enter Tryz.func191, Tryz.ntmps191
  go_wp2
  go_ret
  exact ⟨rfl, ((Below.refl _ _).alloc (Nat.le_refl _) _).alloc (by simp) _⟩
set_option maxRecDepth 100000 in
theorem rof_two (nl : Bool) (n : Int) (s : ByteArray) (w : World) : Calls Tryz.prog 191 #[.agg #[.int .i64 2, .bool nl], .agg #[.bool false, .int .i64 n, .string s]] w fun e w' => e = .returned (.bool (ofB 2 nl (false, n, s))) ∧ Below w.heap.size w w' := by
 by_cases hs : s = ⟨#[]⟩
 ·subst hs
  by_cases h0 : -2147483648 ≤ n
  ·have d0 : decide (-2147483648 ≤ n) = true := decide_eq_true h0
   rw [show ofB 2 nl (false, n, ⟨#[]⟩) = decide (n ≤ 2147483647) by simp [ofB, isC, h0]]
   go_enter Tryz.func191, Tryz.ntmps191
   go_wp2
   go_ret
   exact ⟨rfl, ((Below.refl _ _).alloc (Nat.le_refl _) _).alloc (by simp) _⟩
  ·have d0 : decide (-2147483648 ≤ n) = false := decide_eq_false h0
   rw [show ofB 2 nl (false, n, ⟨#[]⟩) = false by simp [ofB, isC]; omega]
   go_enter Tryz.func191, Tryz.ntmps191
   go_wp2
   go_ret
   exact ⟨rfl, ((Below.refl _ _).alloc (Nat.le_refl _) _).alloc (by simp) _⟩
 ·have hss := empty_no hs
  rw [show ofB 2 nl (false, n, s) = false by simp [ofB, isC, hs]]
  go_enter Tryz.func191, Tryz.ntmps191
  go_wp2
  go_ret
  exact ⟨rfl, ((Below.refl _ _).alloc (Nat.le_refl _) _).alloc (by simp) _⟩
set_option maxRecDepth 100000 in
theorem rof_three (nl : Bool) (n : Int) (s : ByteArray) (w : World) (hn : K9 n) : Calls Tryz.prog 191 #[.agg #[.int .i64 3, .bool nl], .agg #[.bool false, .int .i64 n, .string s]] w fun e w' => e = .returned (.bool (ofB 3 nl (false, n, s))) ∧ Below w.heap.size w w' := by
 obtain ⟨h1, h2⟩ := hn
 by_cases hs : s = ⟨#[]⟩
 ·subst hs
  rw [show ofB 3 nl (false, n, ⟨#[]⟩) = true by simp [ofB, isC]; omega]
  clear h1 h2
  go_enter Tryz.func191, Tryz.ntmps191
  go_wp2
  go_ret
  exact ⟨rfl, ((Below.refl _ _).alloc (Nat.le_refl _) _).alloc (by simp) _⟩
 ·have hss := empty_no hs
  rw [show ofB 3 nl (false, n, s) = false by simp [ofB, isC, hs]]
  clear h1 h2
  go_enter Tryz.func191, Tryz.ntmps191
  go_wp2
  go_ret
  exact ⟨rfl, ((Below.refl _ _).alloc (Nat.le_refl _) _).alloc (by simp) _⟩
set_option maxRecDepth 100000 in
theorem rof_five (nl : Bool) (n : Int) (s : ByteArray) (w : World) : Calls Tryz.prog 191 #[.agg #[.int .i64 5, .bool nl], .agg #[.bool false, .int .i64 n, .string s]] w fun e w' => e = .returned (.bool (ofB 5 nl (false, n, s))) ∧ Below w.heap.size w w' := by
 by_cases hn : n = 0
 ·subst hn
  have hv : ofB 5 nl (false, 0, s) = decide (s.size ≤ 1024) := by simp [ofB, isC, sizeC]
  rw [hv]
  clear hv
  by_cases hs : s.size ≤ 1024
  ·have d1 : decide ((s.size : Int) ≤ 1024) = true := by simp; omega
   rw [decide_eq_true hs]
   go_enter Tryz.func191, Tryz.ntmps191
   go_wp2
   go_ret
   exact ⟨rfl, ((Below.refl _ _).alloc (Nat.le_refl _) _).alloc (by simp) _⟩
  ·have d1 : decide ((s.size : Int) ≤ 1024) = false := by simp; omega
   rw [decide_eq_false hs]
   go_enter Tryz.func191, Tryz.ntmps191
   go_wp2
   go_ret
   exact ⟨rfl, ((Below.refl _ _).alloc (Nat.le_refl _) _).alloc (by simp) _⟩
 ·have hnn : (n == 0) = false := by simpa using hn
  rw [show ofB 5 nl (false, n, s) = false by simp [ofB, isC, sizeC, hn]]
  go_enter Tryz.func191, Tryz.ntmps191
  go_wp2
  go_ret
  exact ⟨rfl, ((Below.refl _ _).alloc (Nat.le_refl _) _).alloc (by simp) _⟩
set_option maxRecDepth 100000 in
theorem rof_four (nl : Bool) (n : Int) (s : ByteArray) (w : World) : Calls Tryz.prog 191 #[.agg #[.int .i64 4, .bool nl], .agg #[.bool false, .int .i64 n, .string s]] w fun e w' => e = .returned (.bool (ofB 4 nl (false, n, s))) ∧ Below w.heap.size w w' := by
 by_cases hn : n = 0
 ·subst hn
  by_cases hs : s.size ≤ 1024
  ·have d1 : decide ((s.size : Int) ≤ 1024) = true := by simp; omega
   have hv : ofB 4 nl (false, 0, s) = Lib.validD s.data.toList := by simp [ofB, isC, sizeC, hs]
   rw [hv]
   clear hv
   have hss : s.size ≤ maxLen := Nat.le_trans hs (by decide)
   have HS := Lib.hid hss
   clear hss
   go_enter Tryz.func191, Tryz.ntmps191
   go_wp2_with fail
   with_reducible refine (uvalid_any s _ HS.out).mono ?_
   rintro e w2 ⟨rfl, hb2⟩
   go_wp2
   go_ret
   exact ⟨rfl, bon (((Below.refl _ _).alloc (Nat.le_refl _) _).alloc (by simp) _) hb2⟩
  ·have d1 : decide ((s.size : Int) ≤ 1024) = false := by simp; omega
   rw [show ofB 4 nl (false, 0, s) = false by simp [ofB, isC, sizeC, hs]]
   go_enter Tryz.func191, Tryz.ntmps191
   go_wp2
   go_ret
   exact ⟨rfl, ((Below.refl _ _).alloc (Nat.le_refl _) _).alloc (by simp) _⟩
 ·have hnn : (n == 0) = false := by simpa using hn
  rw [show ofB 4 nl (false, n, s) = false by simp [ofB, isC, sizeC, hn]]
  go_enter Tryz.func191, Tryz.ntmps191
  go_wp2
  go_ret
  exact ⟨rfl, ((Below.refl _ _).alloc (Nat.le_refl _) _).alloc (by simp) _⟩
theorem rof_any (k : Int) (nl : Bool) (c : Cl) (w : World) (h1 : 1 ≤ k) (h5 : k ≤ 5) (hn : K9 c.2.1) : Calls Tryz.prog 191 #[.agg #[.int .i64 k, .bool nl], clV c] w fun e w' => e = .returned (.bool (ofB k nl c)) ∧ Below w.heap.size w w' := by
 obtain ⟨nu, n, s⟩ := c
 cases nu with
 | true => exact rof_null k nl n s w
 | false =>
  rcases (show k = 1 ∨ k = 2 ∨ k = 3 ∨ k = 4 ∨ k = 5 by omega) with rfl | rfl | rfl | rfl | rfl
  ·exact rof_one nl n s w
  ·exact rof_two nl n s w
  ·exact rof_three nl n s w hn
  ·exact rof_four nl n s w
  ·exact rof_five nl n s w
theorem rof_any3 (k : Int) (nl nu : Bool) (n : Int) (s : ByteArray) (w : World) (h1 : 1 ≤ k) (h5 : k ≤ 5) (hn : K9 n) : Calls Tryz.prog 191 #[.agg #[.int .i64 k, .bool nl], .agg #[.bool nu, .int .i64 n, .string s]] w fun e w' => e = .returned (.bool (ofB k nl (nu, n, s))) ∧ Below w.heap.size w w' := rof_any k nl (nu, n, s) w h1 h5 hn
set_option maxRecDepth 100000 in
theorem rcheck_any (k : Int) (nl : Bool) (c : Cl) (w : World) (hn : K9 c.2.1) : Calls Tryz.prog 147 #[.agg #[.int .i64 k, .bool nl], clV c] w fun e w' => e = .returned (.int .i64 (checkE k nl c)) ∧ Below w.heap.size w w' := by
 obtain ⟨nu, n, s⟩ := c
 have Hn := Lib.hid hn
 clear hn
 show Calls Tryz.prog 147 #[.agg #[.int .i64 k, .bool nl], .agg #[.bool nu, .int .i64 n, .string s]] w _
 have hb0 := Lib.hid (show Below w.heap.size w ((w.alloc (.cells #[.int .i64 k, .bool nl] 43)).alloc (.cells #[.bool nu, .int .i64 n, .string s] 23)) from ((Below.refl _ _).alloc (Nat.le_refl _) _).alloc (by simp) _)
 have B2 := Lib.hid ((Blk.new w 43 #[.int .i64 k, .bool nl]).alloc (.cells #[.bool nu, .int .i64 n, .string s] 23))
 have B3 := Lib.hid (Blk.new' (w.alloc (.cells #[.int .i64 k, .bool nl] 43)) 23 #[.bool nu, .int .i64 n, .string s] (w.heap.size + 1) (by simp))
 go_enter Tryz.func147, Tryz.ntmps147
 go_wp2_with fail
 with_reducible refine (rmay_any k nl _).mono ?_
 rintro e w1 ⟨rfl, hb1⟩
 have hb2 := Lib.hid (bon hb0.out hb1)
 replace B2 := Lib.hid (B2.out.on hb1)
 replace B3 := Lib.hid (B3.out.on hb1)
 clear hb1 hb0
 have c20 := B2.out.cell 0
 have c21 := B2.out.cell 1
 have c30 := B3.out.cell 0
 have c31 := B3.out.cell 1
 have c32 := B3.out.cell 2
 cases hm : mayK k with
 | false =>
  go_wp2
  go_ret
  exact ⟨by simp [checkE, hm], hb2.out⟩
 | true =>
  obtain ⟨hk1, hk5⟩ : 1 ≤ k ∧ k ≤ 5 := by simpa [mayK] using hm
  go_wp2_with fail
  with_reducible refine (rof_any3 k nl nu n s _ hk1 hk5 Hn.out).mono ?_
  rintro e w2 ⟨rfl, hb3⟩
  have hb4 := Lib.hid (bon hb2.out hb3)
  have HE := Lib.hid (show checkE k nl (nu, n, s) = if ofB k nl (nu, n, s) then 0 else 90 by simp [checkE, hm, ofB])
  clear hb3
  generalize hI : ofB k nl (nu, n, s) = I at HE ⊢
  cases I with
  | true =>
   go_wp2
   go_ret
   exact ⟨by first | (rw [HE.out]; rfl) | rfl, hb4.out⟩
  | false =>
   go_wp2
   go_ret
   exact ⟨by first | (rw [HE.out]; rfl) | rfl, hb4.out⟩
end Go.Proofs.YtjpjalmilfgckaaGreatDoor
namespace Go.Proofs.YtjpjalmilfgckaaGreatDoor
open Go.RowKit
def CTab (w : World) : Prop := ∀ i, i < 16 → w.cell? ⟨0, i, none⟩ = some (.int .u32 ((step4 i : Nat) : Int))
theorem CTab.on {w w' : World} (h : CTab w) (hb : Below w.heap.size w w') : CTab w' := fun i hi =>
 (hb.cell (p := ⟨0, i, none⟩) (World.block_lt_of_cell? _ _ (h i hi))).trans (h i hi)
theorem not32_xor (r : Nat) (h : r < 4294967296) : bits .xor .u32 4294967295 (r : Int) = ((4294967295 - r : Nat) : Int) := by
 rw [show (4294967295 : Int) = ((4294967295 : Nat) : Int) from rfl, u32_xor_nat 4294967295 r (by decide) h]
 congr 1
 apply Nat.eq_of_testBit_eq
 intro i
 rw [show 4294967295 - r = 2 ^ 32 - (r + 1) by omega, Nat.testBit_two_pow_sub_succ h, Nat.testBit_xor, show (4294967295 : Nat) = 2 ^ 32 - 1 from rfl, Nat.testBit_two_pow_sub_one]
 by_cases hi : i < 32
 ·simp [hi]
 ·have : r.testBit i = false := Nat.testBit_lt_two_pow (Nat.lt_of_lt_of_le h (Nat.pow_le_pow_right (n := 2) (by decide) (by omega : 32 ≤ i)))
  simp [hi, this]
theorem unary_not32 (r : Nat) (h : r < 4294967296) : Op.unary .xor (.int .u32 (r : Int)) = pure (.int .u32 ((4294967295 - r : Nat) : Int)) := by
 rw [unary_xor, intBits_xor]
 congr 2
 exact not32_xor r h
theorem ctab_at (l : Nat) (h : l < 16) (w : World) : (Instr.indexAt 212 (.pointer (some ⟨0, 0, none⟩)) (.int .u32 (l : Int))).run Tryz.prog w = .ok (.pointer (some ⟨0, l, none⟩)) w := by
 have hu := Tryz.underlying212
 have hz := Tryz.sizeOf67 w
 simp only [Instr.indexAt, run_underlying hu, asIntOf, Instr.sureAddr, Sem.run_bind, Sem.run_pure, Result.andThen_ok]
 rw [if_pos (by omega)]
 simp only [hz, Sem.run_bind, Sem.run_pure, Result.andThen_ok]
 by_cases h0 : l = 0
 ·subst h0; rfl
 ·simp [Addr.add, h0]
theorem half_walk (w : World) (X : Nat) (hX : X < 4294967296) (hT : CTab w) : ∃ q l Y : Nat, (X : Int) / 16 = (q : Int) ∧ (X : Int) % 16 = (l : Int) ∧ w.cell? ⟨0, l, none⟩ = some (.int .u32 ((step4 l : Nat) : Int)) ∧
  bits .xor .u32 (q : Int) ((step4 l : Nat) : Int) = (Y : Int) ∧ (∀ w', (Instr.indexAt 212 (.pointer (some ⟨0, 0, none⟩)) (.int .u32 (l : Int))).run Tryz.prog w' = .ok (.pointer (some ⟨0, l, none⟩)) w') ∧ Y < 4294967296 ∧ Y = step4 X := by
 have hl : X % 16 < 16 := Nat.mod_lt _ (by decide)
 refine ⟨X / 16, X % 16, step4 X, by omega, by omega, hT _ hl, ?_, ctab_at _ hl, step4_lt hX, rfl⟩
 rw [u32_xor_nat _ _ (by omega) (step4_lt (by omega)), ← step4_half]
set_option maxRecDepth 100000 in
set_option maxHeartbeats 1000000 in
theorem update_any (s : Nat) (hs : s < 4294967296) (A : Option Addr) (n c : Nat) (xs : List UInt8) (w : World) (hr : Reads w w.heap.size 1 A n (u8s xs)) (hn : n ≤ maxLen) (hT : CTab w) :
  Calls Tryz.prog 115 #[.int .u32 (s : Int), .slice A n c] w fun e w' => e = .returned (.int .u32 ((crcU s xs : Nat) : Int)) ∧ w = w' := by
 have Hr := Lib.hid hr
 have HT := Lib.hid hT
 have Hl := Lib.hid (reads_len hr)
 have hn63 : n ≤ 9223372036854775807 := by simp only [maxLen] at hn; omega
 clear hr hT hn
 have hx1 := unary_not32 s hs
 go_enter Tryz.func115, Tryz.ntmps115
 go_wp2
 go_loopw [5, 12] (fun r i wr => ∃ j : Nat, j ≤ n ∧ i = .int .i64 (j : Int) ∧ r = .int .u32 ((crcR (4294967295 - s) (xs.take j) : Nat) : Int) ∧ wr = w) (fun _ i _ => n - (intOf i).toNat)
 case atStart => exact ⟨0, Nat.zero_le _, rfl, rfl, rfl⟩
 case round =>
  obtain ⟨j, hj, rfl, rfl, rfl⟩ := hrel
  have hlt0 := crcR_lt (r := 4294967295 - s) (by omega) (xs.take j)
  obtain ⟨R, hR⟩ : ∃ R, R = crcR (4294967295 - s) (xs.take j) := ⟨_, rfl⟩
  rw [← hR] at hlt0 ⊢
  have HR := Lib.hid hR
  clear hR
  by_cases hlt : j < n
  ·obtain ⟨ad, v, rfl, hbk, hu, hcell⟩ := Hr.out.at_ hlt
   obtain ⟨x, hx, rfl⟩ := u8s_get _ _ _ hu
   have Hx := Lib.hid hx
   clear hx hu hbk
   have hxl := x.toNat_lt
   have e1 : (x.toNat : Int) % 4294967296 = (x.toNat : Int) := by omega
   have e2 := u32_xor_nat R x.toNat hlt0 (by omega)
   obtain ⟨X, hX⟩ : ∃ X, X = R ^^^ x.toNat := ⟨_, rfl⟩
   have hXl : X < 4294967296 := by rw [hX]; exact xorb_lt hlt0 x
   rw [← hX] at e2
   obtain ⟨q, l, Y, e3, e4, c1, e5, hl, hYl, hYX⟩ := half_walk wr X hXl HT.out
   obtain ⟨q2, l2, Z, e6, e7, c2, e8, hl2, hZl, hZY⟩ := half_walk wr Y hYl HT.out
   have HE := Lib.hid (show Z = crcR (4294967295 - s) (xs.take (j + 1)) by
    rw [List.take_add_one, Hx.out, crcR_append, ← HR.out, hZY, hYX, hX]
    rfl)
   clear hX hYX hZY
   go_wp2
   go_roundw
   case rel => exact ⟨j + 1, by omega, by go_num, by rw [HE.out], trivial⟩
   case measure => simp [intOf]; omega
  ·obtain rfl : j = n := by omega
   have hx2 := unary_not32 R hlt0
   have HE := Lib.hid (show 4294967295 - R = crcU s xs by rw [HR.out, List.take_of_length_le (by rw [Hl.out]; exact Nat.le_refl _)]; rfl)
   rw [HE.out] at hx2
   go_wp2
   go_ret
   exact ⟨rfl, rfl⟩
end Go.Proofs.YtjpjalmilfgckaaGreatDoor
namespace Go.Proofs.YtjpjalmilfgckaaGreatDoor
open Go.RowKit
set_option maxRecDepth 100000 in
theorem csum_any (A : Option Addr) (n c : Nat) (xs : List UInt8) (w : World) (hr : Reads w w.heap.size 1 A n (u8s xs)) (hn : n ≤ maxLen) (hT : CTab w) :
  Calls Tryz.prog 49 #[.slice A n c] w fun e w' => e = .returned (.int .u32 ((crcS xs : Nat) : Int)) ∧ w = w' := by
 have Hr := Lib.hid hr
 have HT := Lib.hid hT
 have cU : Calls Tryz.prog 115 #[.int .u32 0, .slice A n c] w _ := update_any 0 (by decide) A n c xs w Hr.out hn HT.out
 have CU := Lib.hid cU
 clear hr hT cU
 go_enter Tryz.func49, Tryz.ntmps49
 go_wp2_with fail
 with_reducible refine CU.out.mono ?_
 rintro e w1 ⟨rfl, rfl⟩
 go_wp2
 go_ret
 exact ⟨rfl, rfl⟩
set_option maxRecDepth 100000 in
theorem rstep_any (r b : Nat) (hr : r < 4294967296) (hb : b < 2) (w : World) :
  Calls Tryz.prog 227 #[.int .u32 (r : Int), .int .u32 (b : Int)] w fun e w' => e = .returned (.int .u32 ((stepB r b : Nat) : Int)) ∧ w = w' := by
 obtain ⟨m, hm⟩ : ∃ m : Nat, (r : Int) % 2 = (m : Int) := ⟨r % 2, by omega⟩
 obtain ⟨q, hq⟩ : ∃ q : Nat, (r : Int) / 2 = (q : Int) := ⟨r / 2, by omega⟩
 have hqq : q = r / 2 := by omega
 have hmm : m = r % 2 := by omega
 by_cases h : m = b
 ·have d1 : ((m : Int) != (b : Int)) = false := by simp [h]
  have HS := Lib.hid (show stepB r b = q by unfold stepB; rw [if_neg (by omega), Nat.xor_zero, hqq])
  clear hqq hmm h
  go_enter Tryz.func227, Tryz.ntmps227
  go_wp2
  go_ret
  rw [HS.out]
  exact ⟨rfl, rfl⟩
 ·have d1 : ((m : Int) != (b : Int)) = true := by simp; omega
  have hx := u32_xor_nat q 2197175160 (by omega) (by decide)
  have hx2 : bits .xor .u32 (q : Int) 2197175160 = ((q ^^^ 2197175160 : Nat) : Int) := hx
  obtain ⟨Y, hY⟩ : ∃ Y, Y = q ^^^ 2197175160 := ⟨_, rfl⟩
  rw [← hY] at hx2
  have HS := Lib.hid (show stepB r b = Y by unfold stepB; rw [if_pos (by omega), ← hqq, hY]; rfl)
  clear hqq hmm h hx hY
  go_enter Tryz.func227, Tryz.ntmps227
  go_wp2
  go_ret
  rw [HS.out]
  exact ⟨rfl, rfl⟩
set_option maxRecDepth 100000 in
set_option maxHeartbeats 1000000 in
theorem rtake_any (r : Nat) (hr0 : r < 4294967296) (A : Option Addr) (n c : Nat) (xs : List UInt8) (w : World) (hr : Reads w w.heap.size 1 A n (u8s xs)) (hn : n ≤ maxLen) :
  Calls Tryz.prog 173 #[.int .u32 (r : Int), .slice A n c] w fun e w' => e = .returned (.int .u32 ((crcR r xs : Nat) : Int)) ∧ w = w' := by
 have Hr := Lib.hid hr
 have Hl := Lib.hid (reads_len hr)
 have hn63 : n ≤ 9223372036854775807 := by simp only [maxLen] at hn; omega
 clear hr hn
 go_enter Tryz.func173, Tryz.ntmps173
 go_wp2
 go_loopw [0, 5] (fun r' i wr => ∃ j : Nat, j ≤ n ∧ i = .int .i64 (j : Int) ∧ r' = .int .u32 ((crcR r (xs.take j) : Nat) : Int) ∧ wr = w) (fun _ i _ => n - (intOf i).toNat)
 case atStart => exact ⟨0, Nat.zero_le _, rfl, rfl, rfl⟩
 case round =>
  obtain ⟨j, hj, rfl, rfl, rfl⟩ := hrel
  have hlt0 := crcR_lt hr0 (xs.take j)
  obtain ⟨R, hR⟩ : ∃ R, R = crcR r (xs.take j) := ⟨_, rfl⟩
  rw [← hR] at hlt0 ⊢
  have HR := Lib.hid hR
  clear hR
  by_cases hlt : j < n
  ·obtain ⟨ad, v, rfl, hbk, hu, hcell⟩ := Hr.out.at_ hlt
   obtain ⟨x, hx, rfl⟩ := u8s_get _ _ _ hu
   have Hx := Lib.hid hx
   clear hx hu hbk
   have hxl := x.toNat_lt
   have e1 : (x.toNat : Int) % 4294967296 = (x.toNat : Int) := by omega
   have d1 : decide ((j : Int) < (n : Int)) = true := by simp; omega
   go_wp2
   go_loopw [0, 6, 7] (fun r' c' k' wr' => ∃ k : Nat, k ≤ 8 ∧ k' = .int .i64 (k : Int) ∧ c' = .int .u32 ((x.toNat / 2 ^ k : Nat) : Int) ∧ r' = .int .u32 ((stepsB R x.toNat k : Nat) : Int) ∧ wr' = wr) (fun _ _ k _ => 8 - (intOf k).toNat)
   case atStart => exact ⟨0, by omega, rfl, by simp, rfl, rfl⟩
   case round =>
    obtain ⟨k, hk, rfl, rfl, rfl, hwr⟩ := hrel
    subst hwr
    have hSl := stepsB_lt hlt0 x.toNat k
    have hcl : x.toNat / 2 ^ k < 256 := Nat.lt_of_le_of_lt (Nat.div_le_self _ _) hxl
    obtain ⟨C, hC⟩ : ∃ C, C = x.toNat / 2 ^ k := ⟨_, rfl⟩
    obtain ⟨T, hTT⟩ : ∃ T, T = stepsB R x.toNat k := ⟨_, rfl⟩
    rw [← hC] at hcl ⊢
    rw [← hTT] at hSl ⊢
    obtain ⟨m, hm⟩ : ∃ m : Nat, (C : Int) % 2 = (m : Int) := ⟨C % 2, by omega⟩
    obtain ⟨q, hq⟩ : ∃ q : Nat, (C : Int) / 2 = (q : Int) := ⟨C / 2, by omega⟩
    by_cases hk8 : k < 8
    ·have d2 : decide ((k : Int) < 8) = true := by simp; omega
     have HN := Lib.hid (show stepB T m = stepsB R x.toNat (k + 1) ∧ q = x.toNat / 2 ^ (k + 1) by
      refine ⟨?_, ?_⟩
      ·rw [stepsB, ← hTT, ← hC, show m = C % 2 by omega]
      ·rw [Nat.pow_succ, ← Nat.div_div_eq_div_mul, ← hC]
       omega)
     have hm2 : m < 2 := by omega
     clear hC hTT
     go_wp2_with fail
     with_reducible refine (rstep_any T m hSl hm2 _).mono ?_
     rintro e w1 ⟨rfl, rfl⟩
     rw [HN.out.1]
     go_wp2
     go_roundw
     case rel => exact ⟨k + 1, by omega, by go_num, by rw [← HN.out.2], rfl, trivial⟩
     case measure => simp [intOf]; omega
    ·obtain rfl : k = 8 := by omega
     have HN := Lib.hid (show T = crcR r (xs.take (j + 1)) by
      rw [hTT, byteR_bits, List.take_add_one, Hx.out, crcR_append, ← HR.out]
      rfl)
     clear hC hTT
     rw [HN.out]
     go_wp2
     go_roundw
     case rel => exact ⟨j + 1, by omega, by go_num, rfl, trivial⟩
     case measure => simp [intOf]; omega
  ·obtain rfl : j = n := by omega
   have HE := Lib.hid (show R = crcR r xs by rw [HR.out, List.take_of_length_le (by rw [Hl.out]; exact Nat.le_refl _)])
   rw [HE.out]
   go_wp2
   go_ret
   exact ⟨rfl, rfl⟩
set_option maxRecDepth 100000 in
theorem rupdate_any (s : Nat) (hs : s < 4294967296) (A : Option Addr) (n c : Nat) (xs : List UInt8) (w : World) (hr : Reads w w.heap.size 1 A n (u8s xs)) (hn : n ≤ maxLen) :
  Calls Tryz.prog 123 #[.int .u32 (s : Int), .slice A n c] w fun e w' => e = .returned (.int .u32 ((crcU s xs : Nat) : Int)) ∧ w = w' := by
 have Hr := Lib.hid hr
 clear hr
 have hx1 := unary_not32 s hs
 obtain ⟨s2, hs2⟩ : ∃ s2, s2 = 4294967295 - s := ⟨_, rfl⟩
 have hl := crcR_lt (r := s2) (by omega) xs
 have HU := Lib.hid (show 4294967295 - crcR s2 xs = crcU s xs by rw [hs2]; rfl)
 rw [← hs2] at hx1
 have hx2 := unary_not32 (crcR s2 xs) hl
 rw [HU.out] at hx2
 have h2 : s2 < 4294967296 := by omega
 clear hs2
 go_enter Tryz.func123, Tryz.ntmps123
 go_wp2_with fail
 with_reducible refine (rtake_any s2 h2 A n c xs w Hr.out hn).mono ?_
 rintro e w1 ⟨rfl, rfl⟩
 go_wp2
 go_ret
 exact ⟨rfl, rfl⟩
theorem sumB_cells (s : Nat) : u8s (sumB s) = [.int .u8 ((s % 256 : Nat) : Int), .int .u8 ((s / 256 % 256 : Nat) : Int), .int .u8 ((s / 65536 % 256 : Nat) : Int), .int .u8 ((s / 16777216 % 256 : Nat) : Int)] := by
 simp only [u8s, sumB, List.map_cons, List.map_nil, UInt8.toNat_ofNat']
def FourB (s : Nat) (w : World) (e : Ending) (w' : World) : Prop :=
 ∃ g, e = .returned (.slice (some ⟨g, 0, none⟩) 4 4) ∧ g = w.heap.size ∧ w'.ownsRow w.heap.size 5 1 (.slice (some ⟨g, 0, none⟩) 4 4) 4 (u8s (sumB s)) ∧ Below w.heap.size w w'
theorem four_new (s : Nat) (w : World) (a b c d : Int) (ha : a = ((s % 256 : Nat) : Int)) (hb : b = ((s / 256 % 256 : Nat) : Int)) (hc : c = ((s / 65536 % 256 : Nat) : Int)) (hd : d = ((s / 16777216 % 256 : Nat) : Int)) :
  FourB s w (.returned (.slice (some ⟨w.heap.size, 0, none⟩) 4 4)) (w.alloc (.cells #[.int .u8 a, .int .u8 b, .int .u8 c, .int .u8 d] 5)) := by
 subst ha hb hc hd
 refine ⟨_, rfl, rfl, ?_, (Below.refl _ _).alloc (Nat.le_refl _) _⟩
 exact (Blk.new w 5 _).own (n := 4) (xs := u8s (sumB s)) (Nat.le_refl _) (by rw [sumB_cells]) rfl (by decide)
set_option maxRecDepth 100000 in
theorem rbytes_any (s : Nat) (hs : s < 4294967296) (w : World) :
  Calls Tryz.prog 63 #[.int .u32 (s : Int)] w (FourB s w) := by
 go_enter Tryz.func63, Tryz.ntmps63
 go_wp2
 go_ret
 refine four_new s w _ _ _ _ ?_ ?_ ?_ ?_ <;> omega
set_option maxRecDepth 100000 in
theorem bsum_any (A : Option Addr) (n c : Nat) (xs : List UInt8) (w : World) (hr : Reads w w.heap.size 1 A n (u8s xs)) (hn : n ≤ maxLen) (hT : CTab w) :
  Calls Tryz.prog 45 #[.slice A n c] w (FourB (crcS xs) w) := by
 have Hr := Lib.hid hr
 have HT := Lib.hid hT
 clear hr hT
 have hs : crcS xs < 4294967296 := crcU_lt 0 xs
 have CS := Lib.hid (csum_any A n c xs w Hr.out hn HT.out)
 generalize crcS xs = s at hs CS ⊢
 go_enter Tryz.func45, Tryz.ntmps45
 go_wp2_with fail
 with_reducible refine CS.out.mono ?_
 rintro e w1 ⟨rfl, rfl⟩
 go_wp2
 go_ret
 refine four_new s w _ _ _ _ ?_ ?_ ?_ ?_ <;> omega
end Go.Proofs.YtjpjalmilfgckaaGreatDoor
