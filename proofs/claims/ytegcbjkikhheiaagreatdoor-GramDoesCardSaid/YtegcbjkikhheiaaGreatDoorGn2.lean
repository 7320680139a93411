/- Part 2 of the walks, merged: each text under its own heading. Conditions: none of its own; each lemma states what it asks. -/
import Derived.Test.YtegcbjkikhheiaaGreatDoorGn1
set_option linter.unusedVariables false
set_option linter.unusedSimpArgs false
namespace Go.Proofs.YtegcbjkikhheiaaGreatDoor
open Go.RowKit
theorem wk_mk {w : World} {g : Nat} {X : Option Addr} {xn xc : Nat} {xs bs : List UInt8} {a k s : Nat} {o : Bool} (hb : Blk w g 93 #[.slice X xn xc, .int .i64 (a : Int), .int .i64 (k : Int), .bool o, .int .u32 (s : Int)]) (hr : Reads w g 1 X xn (u8s xs)) (hm : xn ≤ maxLen)
    (h1 : lcp bs xs = a) (h2 : bs.length = k) (h3 : decide (lcp bs xs < bs.length) = o) (h4 : crcS bs = s) : Wk w g X xn xc xs bs := by
  refine ⟨?_, hr, hm⟩
  rw [h3, h1, h2, h4]
  exact hb
set_option maxRecDepth 100000 in
set_option maxHeartbeats 2000000 in
theorem ris_any (g : Nat) (X : Option Addr) (xn xc : Nat) (xs pre : List UInt8) (c : UInt8) (b : Int) (hb : b = (c.toNat : Int)) (w : World) (h : Wk w g X xn xc xs pre) (hl : pre.length < 4611686018427387904) :
    Calls Tryz.prog 99 #[.pointer (some ⟨g, 0, none⟩), .int .u8 b] w (WalkP g X xn xc xs pre [c] w) := by
  subst hb
  have hxl := h.len
  have h1 := lcp_le1 pre xs
  have h2 := lcp_le2 pre xs
  have Hx := Lib.hid hxl
  have HW := Lib.hid h
  have hB := h.blk
  have hlt := h.blk.lt
  obtain ⟨a, ha⟩ : ∃ a, lcp pre xs = a := ⟨_, rfl⟩
  obtain ⟨k, hk⟩ : ∃ k, pre.length = k := ⟨_, rfl⟩
  obtain ⟨o, ho⟩ : ∃ o, decide (a < k) = o := ⟨_, rfl⟩
  obtain ⟨s, hs⟩ : ∃ s, crcS pre = s := ⟨_, rfl⟩
  rw [ha, hk, ho, hs] at hB
  rw [ha, hxl] at h2
  rw [ha, hk] at h1
  rw [hk] at hl
  have hs2 : s < 4294967296 := by rw [← hs]; exact crcS_lt _
  have Ha := Lib.hid ha
  have Hk := Lib.hid hk
  have Ho := Lib.hid ho
  have Hs := Lib.hid hs
  have HB := Lib.hid hB
  have hxm := h.max
  have Hs' := Lib.hid (show crcS (pre ++ [c]) = crcU s [c] by rw [crcS_snoc, hs])
  clear ha hk ho hs h hxl
  have b4 := hB.cell 4
  have f4 := hB.frozen 4
  clear hB
  go_enter Tryz.func99, Tryz.ntmps99
  go_wp2_with fail
  refine (rupdate_any s hs2 (some ⟨w.heap.size, 0, none⟩) 1 1 [c] _ (by exact reads_lit _ _ _ _ _ _ rfl rfl rfl) (by decide)).mono ?_
  rintro e w2 ⟨rfl, rfl⟩
  obtain ⟨L, hL⟩ : ∃ L : Obj, L = .cells #[.int .u8 (c.toNat : Int)] 5 := ⟨_, rfl⟩
  have HWa := Lib.hid (HW.out.al L)
  have HBa := Lib.hid (HB.out.alloc L)
  rw [← hL]
  have Hga := Lib.hid (grown_of_below (r := some g) (bal (Below.refl _ _) L) : w.grownBy (w.alloc L) (some g))
  generalize w.alloc L = W at *
  have c4 := HBa.out.cell 4
  have k4 := HBa.out.frozen 4
  clear b4 hL f4
  obtain ⟨s2, hs2'⟩ : ∃ s2, crcU s [c] = s2 := ⟨_, rfl⟩
  rw [hs2'] at Hs' ⊢
  clear hs2'
  have B1 := HBa.out.set_ 4 (.int .u32 (s2 : Int))
  simp only [List.setIfInBounds_toArray, List.set_cons_succ, List.set_cons_zero] at B1
  have B2 := B1.set_ 2 (.int .i64 ((k : Int) + 1))
  simp only [List.setIfInBounds_toArray, List.set_cons_succ, List.set_cons_zero] at B2
  have c2 := B1.cell 2
  have f2 := B1.frozen 2
  have HB2 := Lib.hid B2
  have Hg2 := Lib.hid (grown_trans Hga.out (grown_trans (grown_set W g 4 (.int .u32 (s2 : Int))) (grown_set _ g 2 (.int .i64 ((k : Int) + 1)))))
  have HR2 := Lib.hid ((HWa.out.rd.setCell (p := ⟨g, 4, none⟩) (Nat.le_refl _) (.int .u32 (s2 : Int))).setCell (p := ⟨g, 2, none⟩) (Nat.le_refl _) (.int .i64 ((k : Int) + 1)))
  clear B1 B2
  go_wp2
  generalize (W.setCell ⟨g, 4, none⟩ (.int .u32 (s2 : Int))).setCell ⟨g, 2, none⟩ (.int .i64 ((k : Int) + 1)) = W2 at *
  clear c4 k4 c2 f2 HWa HBa Hga
  have hS : W2.drew = W2.drew := rfl
  have HX := Lib.hid (show ∀ w', w' = W2.drew → w'.cell? ⟨g, 0, none⟩ = some (.slice X xn xc) from fun w' h => by rw [h]; exact HB2.out.drew.cell 0)
  have HA := Lib.hid (show ∀ w', w' = W2.drew → w'.cell? ⟨g, 1, none⟩ = some (.int .i64 (a : Int)) from fun w' h => by rw [h]; exact HB2.out.drew.cell 1)
  have HO := Lib.hid (show ∀ w', w' = W2.drew → w'.cell? ⟨g, 3, none⟩ = some (.bool o) from fun w' h => by rw [h]; exact HB2.out.drew.cell 3)
  have B3 := HB2.out.drew.set_ 3 (.bool true)
  simp only [List.setIfInBounds_toArray, List.set_cons_succ, List.set_cons_zero] at B3
  have HB3 := Lib.hid B3
  have Hg3 := Lib.hid (grown_trans Hg2.out (grown_trans (grown_drew W2 (some g)) (grown_set W2.drew g 3 (.bool true))))
  have HR3 := Lib.hid ((HR2.out.drew).setCell (p := ⟨g, 3, none⟩) (Nat.le_refl _) (.bool true))
  clear B3
  have s3 := HB2.out.drew.cell 3
  have t3 := HB2.out.drew.frozen 3
  cases o with
  | true =>
    have hlo : a < k := of_decide_eq_true Ho.out
    obtain ⟨q1, q2⟩ := lcp_off (bs := pre) (xs := xs) c (by rw [Ha.out, Hk.out]; exact hlo)
    have HF := Lib.hid (show Wk (W2.drew.setCell ⟨g, 3, none⟩ (.bool true)) g X xn xc xs (pre ++ [c]) from wk_mk HB3.out HR3.out hxm (by rw [q1, Ha.out]) (by rw [List.length_append, Hk.out]; rfl) q2 Hs'.out)
    clear q1 q2 hlo
    refine wp_region_keep (fun w' => w' = W2.drew) [(0, false), (1, false), (2, false), (3, false), (4, false), (5, false), (6, false), (7, false), (8, false), (9, false), (10, false), (11, false), (12, false), (13, false), (14, false), (15, false), (16, false), (17, false), (18, false), (19, false), (20, false), (21, false), (22, false), (23, false), (24, false), (25, false), (26, false), (27, false), (28, false), (29, false)] (by kernel_rfl) (by kernel_rfl) (by kernel_rfl) (fun d _ _ _ _ h => by cases d <;> exact h) ?_
    iterate 3
      refine held_pure (v := ?_) rfl rfl (by simp [Region.wanted, yielded]) hS ?_ ?_
      rotate_left
      · intro w hw; go_simp; try with_reducible rfl
      try simp only [Act.put, List.setIfInBounds_toArray, List.set_cons_succ, List.set_cons_zero]
    refine held_pure (v := ?_) rfl rfl (by simp [Region.wanted, yielded]) hS ?_ ?_
    rotate_left
    · intro w hw; have c0 := HO.out w hw; clear hw; go_simp; try with_reducible rfl
    try simp only [Act.put, List.setIfInBounds_toArray, List.set_cons_succ, List.set_cons_zero]
    refine held_pure (v := ?_) rfl rfl (by simp [Region.wanted, yielded]) hS ?_ ?_
    rotate_left
    · intro w hw; go_simp; try with_reducible rfl
    try simp only [Act.put, List.setIfInBounds_toArray, List.set_cons_succ, List.set_cons_zero]
    refine held_off rfl rfl (by simp [Region.wanted, yielded, undef]) hS ?_
    simp only [Act.put, List.setIfInBounds_toArray, List.set_cons_succ, List.set_cons_zero]
    refine held_off rfl rfl (by simp [Region.wanted, yielded, undef]) hS ?_
    simp only [Act.put, List.setIfInBounds_toArray, List.set_cons_succ, List.set_cons_zero]
    refine held_off rfl rfl (by simp [Region.wanted, yielded, undef]) hS ?_
    simp only [Act.put, List.setIfInBounds_toArray, List.set_cons_succ, List.set_cons_zero]
    refine held_off rfl rfl (by simp [Region.wanted, yielded, undef]) hS ?_
    simp only [Act.put, List.setIfInBounds_toArray, List.set_cons_succ, List.set_cons_zero]
    refine held_off rfl rfl (by simp [Region.wanted, yielded, undef]) hS ?_
    simp only [Act.put, List.setIfInBounds_toArray, List.set_cons_succ, List.set_cons_zero]
    refine held_off rfl rfl (by simp [Region.wanted, yielded, undef]) hS ?_
    simp only [Act.put, List.setIfInBounds_toArray, List.set_cons_succ, List.set_cons_zero]
    refine held_off rfl rfl (by simp [Region.wanted, yielded, undef]) hS ?_
    simp only [Act.put, List.setIfInBounds_toArray, List.set_cons_succ, List.set_cons_zero]
    refine held_off rfl rfl (by simp [Region.wanted, yielded, undef]) hS ?_
    simp only [Act.put, List.setIfInBounds_toArray, List.set_cons_succ, List.set_cons_zero]
    refine held_off rfl rfl (by simp [Region.wanted, yielded, undef]) hS ?_
    simp only [Act.put, List.setIfInBounds_toArray, List.set_cons_succ, List.set_cons_zero]
    refine held_off rfl rfl (by simp [Region.wanted, yielded, undef]) hS ?_
    simp only [Act.put, List.setIfInBounds_toArray, List.set_cons_succ, List.set_cons_zero]
    iterate 2
      refine held_pure (v := ?_) rfl rfl (by simp [Region.wanted, yielded]) hS ?_ ?_
      rotate_left
      · intro w hw; go_simp; try with_reducible rfl
      try simp only [Act.put, List.setIfInBounds_toArray, List.set_cons_succ, List.set_cons_zero]
    refine held_off rfl rfl (by simp [Region.wanted, yielded, undef]) hS ?_
    simp only [Act.put, List.setIfInBounds_toArray, List.set_cons_succ, List.set_cons_zero]
    refine held_off rfl rfl (by simp [Region.wanted, yielded, undef]) hS ?_
    simp only [Act.put, List.setIfInBounds_toArray, List.set_cons_succ, List.set_cons_zero]
    refine held_off rfl rfl (by simp [Region.wanted, yielded, undef]) hS ?_
    simp only [Act.put, List.setIfInBounds_toArray, List.set_cons_succ, List.set_cons_zero]
    refine held_off rfl rfl (by simp [Region.wanted, yielded, undef]) hS ?_
    simp only [Act.put, List.setIfInBounds_toArray, List.set_cons_succ, List.set_cons_zero]
    refine held_off rfl rfl (by simp [Region.wanted, yielded, undef]) hS ?_
    simp only [Act.put, List.setIfInBounds_toArray, List.set_cons_succ, List.set_cons_zero]
    refine held_off rfl rfl (by simp [Region.wanted, yielded, undef]) hS ?_
    simp only [Act.put, List.setIfInBounds_toArray, List.set_cons_succ, List.set_cons_zero]
    refine held_off rfl rfl (by simp [Region.wanted, yielded, undef]) hS ?_
    simp only [Act.put, List.setIfInBounds_toArray, List.set_cons_succ, List.set_cons_zero]
    refine held_off rfl rfl (by simp [Region.wanted, yielded, undef]) hS ?_
    simp only [Act.put, List.setIfInBounds_toArray, List.set_cons_succ, List.set_cons_zero]
    refine held_off rfl rfl (by simp [Region.wanted, yielded, undef]) hS ?_
    simp only [Act.put, List.setIfInBounds_toArray, List.set_cons_succ, List.set_cons_zero]
    refine held_off rfl rfl (by simp [Region.wanted, yielded, undef]) hS ?_
    simp only [Act.put, List.setIfInBounds_toArray, List.set_cons_succ, List.set_cons_zero]
    refine held_off rfl rfl (by simp [Region.wanted, yielded, undef]) hS ?_
    simp only [Act.put, List.setIfInBounds_toArray, List.set_cons_succ, List.set_cons_zero]
    refine held_off rfl rfl (by simp [Region.wanted, yielded, undef]) hS ?_
    simp only [Act.put, List.setIfInBounds_toArray, List.set_cons_succ, List.set_cons_zero]
    refine held_pure (v := ?_) rfl rfl (by simp [Region.wanted, yielded]) hS ?_ ?_
    rotate_left
    · intro w hw; go_simp; try with_reducible rfl
    try simp only [Act.put, List.setIfInBounds_toArray, List.set_cons_succ, List.set_cons_zero]
    refine held_end ?_
    go_wp2
    ((try simp only [Exit.inBlock, Exit.then]); refine bodyPost_ret (results_none rfl _ _ _) rfl ?_)
    exact ⟨rfl, HF.out, Hg3.out⟩
  | false =>
    have hak : a = k := by have := of_decide_eq_false Ho.out; omega
    have hlk : lcp pre xs = pre.length := by rw [Ha.out, Hk.out, hak]
    by_cases hax : xn ≤ a
    · have d1 : decide ((xn : Int) ≤ (a : Int)) = true := by simp; omega
      obtain ⟨q1, q2⟩ := lcp_miss (bs := pre) (xs := xs) (c := c) hlk (by rw [List.getElem?_eq_none (by rw [Hx.out, Hk.out, ← hak]; exact hax)]; simp)
      have HF := Lib.hid (show Wk (W2.drew.setCell ⟨g, 3, none⟩ (.bool true)) g X xn xc xs (pre ++ [c]) from wk_mk HB3.out HR3.out hxm (by rw [q1, Ha.out]) (by rw [List.length_append, Hk.out]; rfl) q2 Hs'.out)
      clear q1 q2 hlk hak
      refine wp_region_keep (fun w' => w' = W2.drew) [(0, false), (1, false), (2, false), (3, false), (4, false), (5, false), (6, false), (7, false), (8, false), (9, false), (10, false), (11, false), (12, false), (13, false), (14, false), (15, false), (16, false), (17, false), (18, false), (19, false), (20, false), (21, false), (22, false), (23, false), (24, false), (25, false), (26, false), (27, false), (28, false), (29, false)] (by kernel_rfl) (by kernel_rfl) (by kernel_rfl) (fun d _ _ _ _ h => by cases d <;> exact h) ?_
      iterate 3
        refine held_pure (v := ?_) rfl rfl (by simp [Region.wanted, yielded]) hS ?_ ?_
        rotate_left
        · intro w hw; go_simp; try with_reducible rfl
        try simp only [Act.put, List.setIfInBounds_toArray, List.set_cons_succ, List.set_cons_zero]
      refine held_pure (v := ?_) rfl rfl (by simp [Region.wanted, yielded]) hS ?_ ?_
      rotate_left
      · intro w hw; have c0 := HO.out w hw; clear hw; go_simp; try with_reducible rfl
      try simp only [Act.put, List.setIfInBounds_toArray, List.set_cons_succ, List.set_cons_zero]
      iterate 4
        refine held_pure (v := ?_) rfl rfl (by simp [Region.wanted, yielded]) hS ?_ ?_
        rotate_left
        · intro w hw; go_simp; try with_reducible rfl
        try simp only [Act.put, List.setIfInBounds_toArray, List.set_cons_succ, List.set_cons_zero]
      refine held_pure (v := ?_) rfl rfl (by simp [Region.wanted, yielded]) hS ?_ ?_
      rotate_left
      · intro w hw; have c0 := HA.out w hw; clear hw; go_simp; try with_reducible rfl
      try simp only [Act.put, List.setIfInBounds_toArray, List.set_cons_succ, List.set_cons_zero]
      iterate 3
        refine held_pure (v := ?_) rfl rfl (by simp [Region.wanted, yielded]) hS ?_ ?_
        rotate_left
        · intro w hw; go_simp; try with_reducible rfl
        try simp only [Act.put, List.setIfInBounds_toArray, List.set_cons_succ, List.set_cons_zero]
      refine held_pure (v := ?_) rfl rfl (by simp [Region.wanted, yielded]) hS ?_ ?_
      rotate_left
      · intro w hw; have c0 := HX.out w hw; clear hw; go_simp; try with_reducible rfl
      try simp only [Act.put, List.setIfInBounds_toArray, List.set_cons_succ, List.set_cons_zero]
      iterate 4
        refine held_pure (v := ?_) rfl rfl (by simp [Region.wanted, yielded]) hS ?_ ?_
        rotate_left
        · intro w hw; go_simp; try with_reducible rfl
        try simp only [Act.put, List.setIfInBounds_toArray, List.set_cons_succ, List.set_cons_zero]
      refine held_off rfl rfl (by simp [Region.wanted, yielded, undef]) hS ?_
      simp only [Act.put, List.setIfInBounds_toArray, List.set_cons_succ, List.set_cons_zero]
      refine held_off rfl rfl (by simp [Region.wanted, yielded, undef]) hS ?_
      simp only [Act.put, List.setIfInBounds_toArray, List.set_cons_succ, List.set_cons_zero]
      refine held_off rfl rfl (by simp [Region.wanted, yielded, undef]) hS ?_
      simp only [Act.put, List.setIfInBounds_toArray, List.set_cons_succ, List.set_cons_zero]
      refine held_off rfl rfl (by simp [Region.wanted, yielded, undef]) hS ?_
      simp only [Act.put, List.setIfInBounds_toArray, List.set_cons_succ, List.set_cons_zero]
      refine held_off rfl rfl (by simp [Region.wanted, yielded, undef]) hS ?_
      simp only [Act.put, List.setIfInBounds_toArray, List.set_cons_succ, List.set_cons_zero]
      refine held_off rfl rfl (by simp [Region.wanted, yielded, undef]) hS ?_
      simp only [Act.put, List.setIfInBounds_toArray, List.set_cons_succ, List.set_cons_zero]
      refine held_off rfl rfl (by simp [Region.wanted, yielded, undef]) hS ?_
      simp only [Act.put, List.setIfInBounds_toArray, List.set_cons_succ, List.set_cons_zero]
      refine held_off rfl rfl (by simp [Region.wanted, yielded, undef]) hS ?_
      simp only [Act.put, List.setIfInBounds_toArray, List.set_cons_succ, List.set_cons_zero]
      refine held_off rfl rfl (by simp [Region.wanted, yielded, undef]) hS ?_
      simp only [Act.put, List.setIfInBounds_toArray, List.set_cons_succ, List.set_cons_zero]
      refine held_off rfl rfl (by simp [Region.wanted, yielded, undef]) hS ?_
      simp only [Act.put, List.setIfInBounds_toArray, List.set_cons_succ, List.set_cons_zero]
      refine held_off rfl rfl (by simp [Region.wanted, yielded, undef]) hS ?_
      simp only [Act.put, List.setIfInBounds_toArray, List.set_cons_succ, List.set_cons_zero]
      refine held_off rfl rfl (by simp [Region.wanted, yielded, undef]) hS ?_
      simp only [Act.put, List.setIfInBounds_toArray, List.set_cons_succ, List.set_cons_zero]
      refine held_pure (v := ?_) rfl rfl (by simp [Region.wanted, yielded]) hS ?_ ?_
      rotate_left
      · intro w hw; go_simp; try with_reducible rfl
      try simp only [Act.put, List.setIfInBounds_toArray, List.set_cons_succ, List.set_cons_zero]
      refine held_end ?_
      go_wp2
      ((try simp only [Exit.inBlock, Exit.then]); refine bodyPost_ret (results_none rfl _ _ _) rfl ?_)
      exact ⟨rfl, HF.out, Hg3.out⟩
    · have d1 : decide ((xn : Int) ≤ (a : Int)) = false := by simp; omega
      have e1 : (a : Int) < (xn : Int) := by omega
      obtain ⟨ad, u, rfl, hbk, hu, c1⟩ := HR2.out.drew.at_ (k := a) (by omega)
      obtain ⟨x, hx, rfl⟩ := u8s_get _ _ _ hu
      have HE := Lib.hid (show ∀ w', w' = W2.drew → w'.cell? (ad.add a) = some (.int .u8 (x.toNat : Int)) from fun w' h => by rw [h]; exact c1)
      by_cases hc : c = x
      · subst hc
        have d2 : ((c.toNat : Int) != (c.toNat : Int)) = false := by simp
        obtain ⟨q1, q2⟩ := lcp_hit (bs := pre) (xs := xs) (c := c) hlk (by rw [Hk.out, ← hak]; exact hx)
        have B4 := HB2.out.drew.set_ 1 (.int .i64 ((a : Int) + 1))
        simp only [List.setIfInBounds_toArray, List.set_cons_succ, List.set_cons_zero] at B4
        have HR4 := Lib.hid ((HR2.out.drew).setCell (p := ⟨g, 1, none⟩) (Nat.le_refl _) (.int .i64 ((a : Int) + 1)))
        have Hg4 := Lib.hid (grown_trans Hg2.out (grown_trans (grown_drew W2 (some g)) (grown_set W2.drew g 1 (.int .i64 ((a : Int) + 1)))))
        have HF := Lib.hid (show Wk (W2.drew.setCell ⟨g, 1, none⟩ (.int .i64 ((a : Int) + 1))) g (some ad) xn xc xs (pre ++ [c]) from wk_mk (a := a + 1) (k := k + 1) B4 HR4.out hxm (by rw [q1, Ha.out]) (by rw [List.length_append, Hk.out]; rfl) q2 Hs'.out)
        have s1 := HB2.out.drew.cell 1
        have t1 := HB2.out.drew.frozen 1
        clear q1 q2 hlk hak hu hx c1 B4 s3 t3
        refine wp_region_keep (fun w' => w' = W2.drew) [(0, false), (1, false), (2, false), (3, false), (4, false), (5, false), (6, false), (7, false), (8, false), (9, false), (10, false), (11, false), (12, false), (13, false), (14, false), (15, false), (16, false), (17, false), (18, false), (19, false), (20, false), (21, false), (22, false), (23, false), (24, false), (25, false), (26, false), (27, false), (28, false), (29, false)] (by kernel_rfl) (by kernel_rfl) (by kernel_rfl) (fun d _ _ _ _ h => by cases d <;> exact h) ?_
        iterate 3
          refine held_pure (v := ?_) rfl rfl (by simp [Region.wanted, yielded]) hS ?_ ?_
          rotate_left
          · intro w hw; go_simp; try with_reducible rfl
          try simp only [Act.put, List.setIfInBounds_toArray, List.set_cons_succ, List.set_cons_zero]
        refine held_pure (v := ?_) rfl rfl (by simp [Region.wanted, yielded]) hS ?_ ?_
        rotate_left
        · intro w hw; have c0 := HO.out w hw; clear hw; go_simp; try with_reducible rfl
        try simp only [Act.put, List.setIfInBounds_toArray, List.set_cons_succ, List.set_cons_zero]
        iterate 4
          refine held_pure (v := ?_) rfl rfl (by simp [Region.wanted, yielded]) hS ?_ ?_
          rotate_left
          · intro w hw; go_simp; try with_reducible rfl
          try simp only [Act.put, List.setIfInBounds_toArray, List.set_cons_succ, List.set_cons_zero]
        refine held_pure (v := ?_) rfl rfl (by simp [Region.wanted, yielded]) hS ?_ ?_
        rotate_left
        · intro w hw; have c0 := HA.out w hw; clear hw; go_simp; try with_reducible rfl
        try simp only [Act.put, List.setIfInBounds_toArray, List.set_cons_succ, List.set_cons_zero]
        iterate 3
          refine held_pure (v := ?_) rfl rfl (by simp [Region.wanted, yielded]) hS ?_ ?_
          rotate_left
          · intro w hw; go_simp; try with_reducible rfl
          try simp only [Act.put, List.setIfInBounds_toArray, List.set_cons_succ, List.set_cons_zero]
        refine held_pure (v := ?_) rfl rfl (by simp [Region.wanted, yielded]) hS ?_ ?_
        rotate_left
        · intro w hw; have c0 := HX.out w hw; clear hw; go_simp; try with_reducible rfl
        try simp only [Act.put, List.setIfInBounds_toArray, List.set_cons_succ, List.set_cons_zero]
        iterate 7
          refine held_pure (v := ?_) rfl rfl (by simp [Region.wanted, yielded]) hS ?_ ?_
          rotate_left
          · intro w hw; go_simp; try with_reducible rfl
          try simp only [Act.put, List.setIfInBounds_toArray, List.set_cons_succ, List.set_cons_zero]
        refine held_pure (v := ?_) rfl rfl (by simp [Region.wanted, yielded]) hS ?_ ?_
        rotate_left
        · intro w hw; have c0 := HX.out w hw; clear hw; go_simp; try with_reducible rfl
        try simp only [Act.put, List.setIfInBounds_toArray, List.set_cons_succ, List.set_cons_zero]
        iterate 3
          refine held_pure (v := ?_) rfl rfl (by simp [Region.wanted, yielded]) hS ?_ ?_
          rotate_left
          · intro w hw; go_simp; try with_reducible rfl
          try simp only [Act.put, List.setIfInBounds_toArray, List.set_cons_succ, List.set_cons_zero]
        refine held_pure (v := ?_) rfl rfl (by simp [Region.wanted, yielded]) hS ?_ ?_
        rotate_left
        · intro w hw; have c0 := HA.out w hw; clear hw; go_simp; try with_reducible rfl
        try simp only [Act.put, List.setIfInBounds_toArray, List.set_cons_succ, List.set_cons_zero]
        refine held_pure (v := ?_) rfl rfl (by simp [Region.wanted, yielded]) hS ?_ ?_
        rotate_left
        · intro w hw; go_simp; try with_reducible rfl
        try simp only [Act.put, List.setIfInBounds_toArray, List.set_cons_succ, List.set_cons_zero]
        refine held_pure (v := ?_) rfl rfl (by simp [Region.wanted, yielded]) hS ?_ ?_
        rotate_left
        · intro w hw; have c0 := HE.out w hw; clear hw; go_simp; try with_reducible rfl
        try simp only [Act.put, List.setIfInBounds_toArray, List.set_cons_succ, List.set_cons_zero]
        iterate 3
          refine held_pure (v := ?_) rfl rfl (by simp [Region.wanted, yielded]) hS ?_ ?_
          rotate_left
          · intro w hw; go_simp; try with_reducible rfl
          try simp only [Act.put, List.setIfInBounds_toArray, List.set_cons_succ, List.set_cons_zero]
        refine held_end ?_
        go_wp2
        go_end0
        exact ⟨rfl, HF.out, Hg4.out⟩
      · have d2 : ((x.toNat : Int) != (c.toNat : Int)) = true := by
          have : x.toNat ≠ c.toNat := fun e => hc (UInt8.toNat_inj.1 e.symm)
          simp; omega
        obtain ⟨q1, q2⟩ := lcp_miss (bs := pre) (xs := xs) (c := c) hlk (by rw [Hk.out, ← hak, hx]; intro e; injection e with e; exact hc e.symm)
        have HF := Lib.hid (show Wk (W2.drew.setCell ⟨g, 3, none⟩ (.bool true)) g (some ad) xn xc xs (pre ++ [c]) from wk_mk (k := k + 1) HB3.out HR3.out hxm (by rw [q1, Ha.out]) (by rw [List.length_append, Hk.out]; rfl) q2 Hs'.out)
        clear q1 q2 hlk hak hu hx c1 hc
        refine wp_region_keep (fun w' => w' = W2.drew) [(0, false), (1, false), (2, false), (3, false), (4, false), (5, false), (6, false), (7, false), (8, false), (9, false), (10, false), (11, false), (12, false), (13, false), (14, false), (15, false), (16, false), (17, false), (18, false), (19, false), (20, false), (21, false), (22, false), (23, false), (24, false), (25, false), (26, false), (27, false), (28, false), (29, false)] (by kernel_rfl) (by kernel_rfl) (by kernel_rfl) (fun d _ _ _ _ h => by cases d <;> exact h) ?_
        iterate 3
          refine held_pure (v := ?_) rfl rfl (by simp [Region.wanted, yielded]) hS ?_ ?_
          rotate_left
          · intro w hw; go_simp; try with_reducible rfl
          try simp only [Act.put, List.setIfInBounds_toArray, List.set_cons_succ, List.set_cons_zero]
        refine held_pure (v := ?_) rfl rfl (by simp [Region.wanted, yielded]) hS ?_ ?_
        rotate_left
        · intro w hw; have c0 := HO.out w hw; clear hw; go_simp; try with_reducible rfl
        try simp only [Act.put, List.setIfInBounds_toArray, List.set_cons_succ, List.set_cons_zero]
        iterate 4
          refine held_pure (v := ?_) rfl rfl (by simp [Region.wanted, yielded]) hS ?_ ?_
          rotate_left
          · intro w hw; go_simp; try with_reducible rfl
          try simp only [Act.put, List.setIfInBounds_toArray, List.set_cons_succ, List.set_cons_zero]
        refine held_pure (v := ?_) rfl rfl (by simp [Region.wanted, yielded]) hS ?_ ?_
        rotate_left
        · intro w hw; have c0 := HA.out w hw; clear hw; go_simp; try with_reducible rfl
        try simp only [Act.put, List.setIfInBounds_toArray, List.set_cons_succ, List.set_cons_zero]
        iterate 3
          refine held_pure (v := ?_) rfl rfl (by simp [Region.wanted, yielded]) hS ?_ ?_
          rotate_left
          · intro w hw; go_simp; try with_reducible rfl
          try simp only [Act.put, List.setIfInBounds_toArray, List.set_cons_succ, List.set_cons_zero]
        refine held_pure (v := ?_) rfl rfl (by simp [Region.wanted, yielded]) hS ?_ ?_
        rotate_left
        · intro w hw; have c0 := HX.out w hw; clear hw; go_simp; try with_reducible rfl
        try simp only [Act.put, List.setIfInBounds_toArray, List.set_cons_succ, List.set_cons_zero]
        iterate 7
          refine held_pure (v := ?_) rfl rfl (by simp [Region.wanted, yielded]) hS ?_ ?_
          rotate_left
          · intro w hw; go_simp; try with_reducible rfl
          try simp only [Act.put, List.setIfInBounds_toArray, List.set_cons_succ, List.set_cons_zero]
        refine held_pure (v := ?_) rfl rfl (by simp [Region.wanted, yielded]) hS ?_ ?_
        rotate_left
        · intro w hw; have c0 := HX.out w hw; clear hw; go_simp; try with_reducible rfl
        try simp only [Act.put, List.setIfInBounds_toArray, List.set_cons_succ, List.set_cons_zero]
        iterate 3
          refine held_pure (v := ?_) rfl rfl (by simp [Region.wanted, yielded]) hS ?_ ?_
          rotate_left
          · intro w hw; go_simp; try with_reducible rfl
          try simp only [Act.put, List.setIfInBounds_toArray, List.set_cons_succ, List.set_cons_zero]
        refine held_pure (v := ?_) rfl rfl (by simp [Region.wanted, yielded]) hS ?_ ?_
        rotate_left
        · intro w hw; have c0 := HA.out w hw; clear hw; go_simp; try with_reducible rfl
        try simp only [Act.put, List.setIfInBounds_toArray, List.set_cons_succ, List.set_cons_zero]
        refine held_pure (v := ?_) rfl rfl (by simp [Region.wanted, yielded]) hS ?_ ?_
        rotate_left
        · intro w hw; go_simp; try with_reducible rfl
        try simp only [Act.put, List.setIfInBounds_toArray, List.set_cons_succ, List.set_cons_zero]
        refine held_pure (v := ?_) rfl rfl (by simp [Region.wanted, yielded]) hS ?_ ?_
        rotate_left
        · intro w hw; have c0 := HE.out w hw; clear hw; go_simp; try with_reducible rfl
        try simp only [Act.put, List.setIfInBounds_toArray, List.set_cons_succ, List.set_cons_zero]
        iterate 3
          refine held_pure (v := ?_) rfl rfl (by simp [Region.wanted, yielded]) hS ?_ ?_
          rotate_left
          · intro w hw; go_simp; try with_reducible rfl
          try simp only [Act.put, List.setIfInBounds_toArray, List.set_cons_succ, List.set_cons_zero]
        refine held_end ?_
        go_wp2
        ((try simp only [Exit.inBlock, Exit.then]); refine bodyPost_ret (results_none rfl _ _ _) rfl ?_)
        exact ⟨rfl, HF.out, Hg3.out⟩
end Go.Proofs.YtegcbjkikhheiaaGreatDoor
namespace Go.Proofs.YtegcbjkikhheiaaGreatDoor
open Go.RowKit
set_option maxRecDepth 100000 in
set_option maxHeartbeats 1000000 in
theorem rnumber_any (g : Nat) (X : Option Addr) (xn xc : Nat) (xs pre : List UInt8) (n : Nat) (z : Int) (hz : z = (n : Int)) (hn : n < 18446744073709551616) (w : World) (h : Wk w g X xn xc xs pre) (hl : pre.length + 10 ≤ 4611686018427387904) :
    Calls Tryz.prog 100 #[.pointer (some ⟨g, 0, none⟩), .int .u64 z] w (WalkP g X xn xc xs pre (leb n) w) := by
  subst hz
  have Hn := Lib.hid hn
  have H := Lib.hid h
  have hlb := leb_le n
  clear hn h
  go_enter Tryz.func100, Tryz.ntmps100
  go_wp2
  go_loopw [1] (fun u wr => ∃ (m f : Nat) (cur : List UInt8), u = .int .u64 (m : Int) ∧ Hid (cur.length + f = 9) ∧ Hid (m < 128 ^ (f + 1)) ∧ Hid (m < 18446744073709551616) ∧ Hid (cur ++ lebF f m = leb n) ∧ Hid (Wk wr g X xn xc xs (pre ++ cur)) ∧ Hid (w.grownBy wr (some g))) (fun u _ => (intOf u).toNat)
  case atStart => exact ⟨n, 9, [], rfl, rfl, by have := Hn.out; show n < 128 ^ (9 + 1); omega, Hn, rfl, Lib.hid (by rw [List.append_nil]; exact H.out), Lib.hid (grown_refl _ _)⟩
  case round =>
    clear H
    obtain ⟨m, f, cur, rfl, Hk, Hm, Hm64, Hcur, H, HG⟩ := hrel
    have hcl : (pre ++ cur).length < 4611686018427387904 := by have := Hk.out; rw [List.length_append]; omega
    by_cases hlt : 128 ≤ m
    · go_wp2_with fail
      refine (ris_any g X xn xc xs (pre ++ cur) (UInt8.ofNat (m % 128 + 128)) _ (by rw [ofNat_toNat _ (by omega)]; omega) _ H.out hcl).mono ?_
      rintro e w1 ⟨rfl, hW, hg⟩
      have H1 := Lib.hid hW
      have HG1 := Lib.hid (grown_trans HG.out hg)
      have hcur' : (cur ++ [UInt8.ofNat (m % 128 + 128)]) ++ lebF (f - 1) (m / 128) = leb n ∧ 1 ≤ f := by
        have h1 := Hcur.out
        have h2 := Hm.out
        cases f with
        | zero => simp at h2; omega
        | succ f => rw [← h1]; simp [lebF, Nat.not_lt.2 hlt]
      have Hcur' := Lib.hid hcur'
      have hdiv : IntKind.u64.wrap ((m : Int) / 128) = ((m / 128 : Nat) : Int) := by
        have := Hm64.out
        rw [IntKind.wrap_u64]; omega
      have Hdiv := Lib.hid hdiv
      clear hW hg hcur' hdiv hcl H HG
      go_wp2
      go_roundw
      case rel =>
        refine ⟨m / 128, f - 1, cur ++ [UInt8.ofNat (m % 128 + 128)], by first | rw [Hdiv.out] | go_num, Lib.hid ?_, Lib.hid ?_, Lib.hid ?_, Lib.hid Hcur'.out.1, Lib.hid (by rw [← List.append_assoc]; exact H1.out), HG1⟩
        · have := Hk.out
          have := Hcur'.out.2
          rw [List.length_append, List.length_singleton]
          omega
        · have h2 := Hm.out
          have := Hcur'.out.2
          obtain ⟨f, rfl⟩ : ∃ g, f = g + 1 := ⟨f - 1, by omega⟩
          rw [Nat.pow_succ] at h2
          exact Nat.div_lt_of_lt_mul (by rw [Nat.mul_comm]; exact h2)
        · have := Hm64.out
          omega
      case measure => first | (simp [intOf, Hdiv.out]; omega) | (simp [intOf]; omega)
    · have hcf : pre ++ leb n = (pre ++ cur) ++ [UInt8.ofNat m] := by rw [← Hcur.out, lebF_small f m (by omega), List.append_assoc]
      have Hcf := Lib.hid hcf
      clear hcf
      go_wp2_with fail
      refine (ris_any g X xn xc xs (pre ++ cur) (UInt8.ofNat m) _ (by rw [ofNat_toNat _ (by omega)]) _ H.out hcl).mono ?_
      rintro e w1 ⟨rfl, hW, hg⟩
      have H1 := Lib.hid hW
      have HG1 := Lib.hid (grown_trans HG.out hg)
      clear hW hg H HG
      go_wp2
      go_end0
      exact ⟨rfl, by rw [Hcf.out]; exact H1.out, HG1.out⟩
set_option maxRecDepth 100000 in
set_option maxHeartbeats 1000000 in
theorem rzigzag_any (g : Nat) (X : Option Addr) (xn xc : Nat) (xs pre : List UInt8) (n : Int) (h1 : -9223372036854775808 ≤ n) (h2 : n ≤ 9223372036854775807) (w : World) (h : Wk w g X xn xc xs pre) (hl : pre.length + 10 ≤ 4611686018427387904) :
    Calls Tryz.prog 102 #[.pointer (some ⟨g, 0, none⟩), .int .i64 n] w (WalkP g X xn xc xs pre (leb (zig n)) w) := by
  have hzl : zig n < 18446744073709551616 := by unfold zig; split <;> omega
  have Hzl := Lib.hid hzl
  have H := Lib.hid h
  clear hzl h
  by_cases hn : n < 0
  · go_enter Tryz.func102, Tryz.ntmps102
    go_wp2_with fail
    refine (rnumber_any g X xn xc xs pre (zig n) _ (by first | (unfold zig; rw [if_pos hn]; omega) | (simp only [IntKind.wrap_u64, wrap64]; unfold zig; rw [if_pos hn]; omega)) Hzl.out _ H.out hl).mono ?_
    rintro e w1 ⟨rfl, hW, hg⟩
    have H1 := Lib.hid hW
    have HG := Lib.hid hg
    clear hW hg
    go_wp2
    go_end0
    exact ⟨rfl, H1.out, HG.out⟩
  · go_enter Tryz.func102, Tryz.ntmps102
    go_wp2_with fail
    refine (rnumber_any g X xn xc xs pre (zig n) _ (by unfold zig; rw [if_neg (by omega)]; omega) Hzl.out _ H.out hl).mono ?_
    rintro e w1 ⟨rfl, hW, hg⟩
    have H1 := Lib.hid hW
    have HG := Lib.hid hg
    clear hW hg
    go_wp2
    go_end0
    exact ⟨rfl, H1.out, HG.out⟩
theorem text_at (s : ByteArray) (i : Nat) (hi : i < s.size) : ∃ b, s.data.toList[i]? = some b := ⟨_, List.getElem?_eq_getElem (by rw [Array.length_toList]; exact hi)⟩
set_option maxRecDepth 100000 in
set_option maxHeartbeats 1000000 in
theorem rtext_any (g : Nat) (X : Option Addr) (xn xc : Nat) (xs pre : List UInt8) (s : ByteArray) (hs : s.size ≤ maxLen) (w : World) (h : Wk w g X xn xc xs pre) (hl : pre.length + 10 + s.size ≤ 4611686018427387904) :
    Calls Tryz.prog 137 #[.pointer (some ⟨g, 0, none⟩), .string s] w (WalkP g X xn xc xs pre (leb s.size ++ s.data.toList) w) := by
  have H := Lib.hid h
  have hs63 : s.size ≤ 9223372036854775807 := by simp only [maxLen] at hs; omega
  have hlb := leb_le s.size
  have hlen : s.data.toList.length = s.size := by rw [Array.length_toList]; rfl
  have Hlen := Lib.hid hlen
  clear h hs hlen
  go_enter Tryz.func137, Tryz.ntmps137
  go_wp2_with fail
  refine (rnumber_any g X xn xc xs pre s.size _ (by first | rfl | (simp only [IntKind.wrap_u64]; omega)) (by omega) _ H.out (by omega)).mono ?_
  rintro e w1 ⟨rfl, hW, hg⟩
  replace H := Lib.hid hW
  have HG := Lib.hid hg
  clear hW hg
  go_wp2
  go_loopw [4] (fun v wr => ∃ i : Nat, i ≤ s.size ∧ v = .int .i64 (i : Int) ∧ Hid (Wk wr g X xn xc xs (pre ++ (leb s.size ++ s.data.toList.take i))) ∧ Hid (w.grownBy wr (some g))) (fun v _ => s.size - (intOf v).toNat)
  case atStart => exact ⟨0, Nat.zero_le _, rfl, Lib.hid (by rw [List.take_zero, List.append_nil]; exact H.out), HG⟩
  case round =>
    clear H HG
    obtain ⟨i, hi, rfl, H, HG⟩ := hrel
    by_cases hlt : i < s.size
    · have d1 : decide ((i : Int) < (s.size : Int)) = true := by simp; omega
      have e1 : (i : Int) < (s.size : Int) := by omega
      obtain ⟨b, hb⟩ := text_at s i hlt
      have Hst := Lib.hid (show s.data.toList.take (i + 1) = s.data.toList.take i ++ [b] by rw [List.take_add_one, hb]; rfl)
      have Hb := Lib.hid hb
      have hbi : s[i] = b := by
        have := List.getElem?_eq_some_iff.1 hb
        obtain ⟨h1, h2⟩ := this
        rw [← h2]
        rfl
      clear hb
      go_wp2_with fail
      refine (ris_any g X xn xc xs _ b _ rfl _ H.out (by simp only [List.length_append, List.length_take]; omega)).mono ?_
      rintro e w2 ⟨rfl, hW, hg⟩
      replace H := Lib.hid (show Wk w2 g X xn xc xs (pre ++ (leb s.size ++ s.data.toList.take (i + 1))) by rw [Hst.out]; simpa only [List.append_assoc] using hW)
      replace HG := Lib.hid (grown_trans HG.out hg)
      clear hW hg hbi
      go_wp2
      go_roundw
      case rel => exact ⟨i + 1, hlt, by go_num, H, HG⟩
      case measure => simp [intOf]; omega
    · obtain rfl : i = s.size := by omega
      have d1 : decide ((s.size : Int) < (s.size : Int)) = false := by simp
      rw [List.take_of_length_le (by rw [Hlen.out]; exact Nat.le_refl _)] at H
      go_wp2
      go_end0
      exact ⟨rfl, H.out, HG.out⟩
end Go.Proofs.YtegcbjkikhheiaaGreatDoor
namespace Go.Proofs.YtegcbjkikhheiaaGreatDoor
open Go.RowKit
set_option maxRecDepth 100000 in
set_option maxHeartbeats 4000000 in
theorem rmask_any (g : Nat) (X : Option Addr) (xn xc : Nat) (xs pre : List UInt8) (A : Option Addr) (n c base : Nat) (l : List Bool) (w : World) (h : Wk w g X xn xc xs pre) (ho : w.ownsRow base 4 1 (.slice A n c) n (bls l)) (hn : n ≤ 1099511627776) (hl : pre.length + n ≤ 4611686018427387000) :
    Calls Tryz.prog 135 #[.pointer (some ⟨g, 0, none⟩), .slice A n c] w (WalkP g X xn xc xs pre (packL l) w) := by
  have H := Lib.hid h
  have HO := Lib.hid ho
  have hln : l.length = n := blen (own_reads ho)
  have Hln := Lib.hid hln
  clear h ho hln
  go_enter Tryz.func135, Tryz.ntmps135
  go_wp2
  go_loopw [4] (fun v wr => ∃ (i : Nat) (done : List UInt8), i ≤ n + 8 ∧ v = .int .i64 (i : Int) ∧ Hid (done.length ≤ i) ∧ Hid (packL l = done ++ packL (l.drop i)) ∧ Hid (Wk wr g X xn xc xs (pre ++ done)) ∧ Hid (wr.ownsRow base 4 1 (.slice A n c) n (bls l)) ∧ Hid (w.grownBy wr (some g))) (fun v _ => n + 8 - (intOf v).toNat)
  case atStart => exact ⟨0, [], by omega, rfl, Lib.hid (Nat.zero_le _), Lib.hid rfl, Lib.hid (by simpa using H.out), HO, Lib.hid (grown_refl _ _)⟩
  case round =>
    clear H HO
    obtain ⟨i, done, hi, rfl, Hdl, Hd, H, HO, HG⟩ := hrel
    by_cases hin : i < n
    · have d1 : decide ((i : Int) < (n : Int)) = true := by simp; omega
      obtain ⟨rest, hrest⟩ : ∃ rest, l.drop i = rest := ⟨_, rfl⟩
      have Hrest := Lib.hid hrest
      have hrl : rest.length = n - i := by rw [← hrest, List.length_drop, Hln.out]
      obtain ⟨mn, hmn⟩ : ∃ mn : Nat, mn = min 8 (n - i) := ⟨_, rfl⟩
      have h8 : mn ≤ 8 := by omega
      have hmi : i + mn ≤ n := by omega
      have Hmn := Lib.hid hmn
      have Hrl := Lib.hid hrl
      clear hrest hmn hrl
      generalize wr = W at *
      go_wp2
      go_loopw [5, 6, 7] (fun u p kx wr => ∃ t bb pw kk : Nat, t ≤ mn ∧ u = .int .i64 (bb : Int) ∧ p = .int .i64 (pw : Int) ∧ kx = .int .i64 (kk : Int) ∧ Hid (bb = byteOf (rest.take t)) ∧ Hid (pw = 2 ^ t) ∧ Hid (kk = i + t) ∧ wr = W) (fun _ _ kx _ => n - (intOf kx).toNat)
      case atStart => exact ⟨0, 0, 1, i, Nat.zero_le _, rfl, rfl, rfl, Lib.hid rfl, Lib.hid rfl, Lib.hid rfl, rfl⟩
      case round =>
        obtain ⟨t, bb, pw, kk, ht, rfl, rfl, rfl, Hbb, Hpw, Hkk, rfl⟩ := hrel
        by_cases hlt : t < mn
        · have hkn : kk < n := by have := Hkk.out; omega
          have d2 : decide ((kk : Int) < (n : Int)) = true := by simp; omega
          have d3 : decide ((kk : Int) < (i : Int) + 8) = true := by have := Hkk.out; simp; omega
          have e1 : (kk : Int) < (n : Int) := by omega
          obtain ⟨ad, v, rfl, -, hx, c1⟩ := (own_reads HO.out).at_ hkn
          obtain ⟨q, hq, rfl⟩ := bls_get _ _ _ hx
          have hst := byteOf_step rest t q (by rw [← Hrest.out, List.getElem?_drop, ← Hkk.out]; exact hq)
          have hlt2 := byteOf_lt_take rest t
          rw [← Hbb.out, ← Hpw.out] at hlt2
          have hp7 : pw ≤ 128 := by rw [Hpw.out]; have : 2 ^ t ≤ 2 ^ 7 := Nat.pow_le_pow_right (by omega) (by omega); omega
          have Hst := Lib.hid hst
          have hp2 := Lib.hid (show pw * 2 = 2 ^ (t + 1) by rw [Hpw.out, Nat.pow_succ])
          clear hx hq hst
          cases q with
          | true =>
            go_wp2
            go_roundw
            case rel => exact ⟨t + 1, bb + pw, pw * 2, kk + 1, hlt, by go_num, by go_num, by go_num, Lib.hid (by rw [Hst.out, if_pos rfl, ← Hbb.out, ← Hpw.out]), hp2, Lib.hid (by have := Hkk.out; omega), trivial⟩
            case measure => simp [intOf]; omega
          | false =>
            go_wp2
            go_roundw
            case rel => exact ⟨t + 1, bb, pw * 2, kk + 1, hlt, by go_num, by go_num, by go_num, Lib.hid (by rw [Hst.out, ← Hbb.out]; simp), hp2, Lib.hid (by have := Hkk.out; omega), trivial⟩
            case measure => simp [intOf]; omega
        · obtain rfl : t = mn := by omega
          have hrl := Hrl.out
          have htk : rest.take t = rest.take 8 := by
            have := Hmn.out
            rcases Nat.lt_or_ge (n - i) 8 with h | h
            · rw [List.take_of_length_le (by omega), List.take_of_length_le (by omega)]
            · rw [show t = 8 by omega]
          by_cases hkn : kk < n
          · have d2 : decide ((kk : Int) < (n : Int)) = true := by simp; omega
            have d3 : decide ((kk : Int) < (i : Int) + 8) = false := by have := Hkk.out; have := Hmn.out; simp; omega
            have Hcf := Lib.hid (show packL l = (done ++ [UInt8.ofNat bb]) ++ packL (l.drop (i + 8)) by
              have hne : rest ≠ [] := by intro h; rw [h] at hrl; simp at hrl; omega
              rw [Hd.out, Hrest.out, packL_chunk rest hne, Hbb.out, ← htk, ← Hrest.out, List.drop_drop]
              simp)
            have hcl : (pre ++ done).length < 4611686018427387904 := by have := Hdl.out; rw [List.length_append]; omega
            have hb256 : bb < 256 := by rw [Hbb.out]; have := byteOf_lt_take rest t; have : 2 ^ t ≤ 2 ^ 8 := Nat.pow_le_pow_right (by omega) h8; omega
            clear htk
            go_wp2_with fail
            refine (ris_any g X xn xc xs (pre ++ done) (UInt8.ofNat bb) _ (by rw [ofNat_toNat _ hb256]) _ H.out hcl).mono ?_
            rintro e w1 ⟨rfl, hW, hg⟩
            have HO1 := Lib.hid (own_grown HO.out H.out.blk (by decide) hg)
            have HG1 := Lib.hid (grown_trans HG.out hg)
            have H1 := Lib.hid (show Wk w1 g X xn xc xs (pre ++ (done ++ [UInt8.ofNat bb])) by rw [← List.append_assoc]; exact hW)
            have Hdl1 := Lib.hid (show (done ++ [UInt8.ofNat bb]).length ≤ i + 8 by have := Hdl.out; rw [List.length_append, List.length_singleton]; omega)
            clear hW hg H HO HG
            go_wp2
            go_roundw
            case rel => exact ⟨i + 8, _, by omega, by go_num, Hdl1, Hcf, H1, HO1, HG1⟩
            case measure => simp [intOf]; omega
          · have d2 : decide ((kk : Int) < (n : Int)) = false := by simp; omega
            have Hcf := Lib.hid (show packL l = (done ++ [UInt8.ofNat bb]) ++ packL (l.drop (i + 8)) by
              have hne : rest ≠ [] := by intro h; rw [h] at hrl; simp at hrl; omega
              rw [Hd.out, Hrest.out, packL_chunk rest hne, Hbb.out, ← htk, ← Hrest.out, List.drop_drop]
              simp)
            have hcl : (pre ++ done).length < 4611686018427387904 := by have := Hdl.out; rw [List.length_append]; omega
            have hb256 : bb < 256 := by rw [Hbb.out]; have := byteOf_lt_take rest t; have : 2 ^ t ≤ 2 ^ 8 := Nat.pow_le_pow_right (by omega) h8; omega
            clear htk
            go_wp2_with fail
            refine (ris_any g X xn xc xs (pre ++ done) (UInt8.ofNat bb) _ (by rw [ofNat_toNat _ hb256]) _ H.out hcl).mono ?_
            rintro e w1 ⟨rfl, hW, hg⟩
            have HO1 := Lib.hid (own_grown HO.out H.out.blk (by decide) hg)
            have HG1 := Lib.hid (grown_trans HG.out hg)
            have H1 := Lib.hid (show Wk w1 g X xn xc xs (pre ++ (done ++ [UInt8.ofNat bb])) by rw [← List.append_assoc]; exact hW)
            have Hdl1 := Lib.hid (show (done ++ [UInt8.ofNat bb]).length ≤ i + 8 by have := Hdl.out; rw [List.length_append, List.length_singleton]; omega)
            clear hW hg H HO HG
            go_wp2
            go_roundw
            case rel => exact ⟨i + 8, _, by omega, by go_num, Hdl1, Hcf, H1, HO1, HG1⟩
            case measure => simp [intOf]; omega
    · have d1 : decide ((i : Int) < (n : Int)) = false := by simp; omega
      have hp : packL l = done := by
        rw [Hd.out, List.drop_eq_nil_of_le (by rw [Hln.out]; omega), packL_nil, List.append_nil]
      go_wp2
      go_end0
      rw [hp]
      exact ⟨rfl, H.out, HG.out⟩
abbrev txc (l : List Cl) : List ByteArray := l.map fun c => c.2.2
theorem txc_at {l : List Cl} {k : Nat} {u : Bool} {m : Int} {s : ByteArray} (h : l[k]? = some (u, m, s)) : (txc l)[k]? = some s := by simp [txc, h]
def FirstP (l : List Cl) (i : Nat) (s : ByteArray) (w : World) (e : Ending) (w' : World) : Prop := ∃ b : Bool, e = .returned (.bool b) ∧ (b = true ↔ s ∉ (txc l).take i) ∧ Below w.heap.size w w'
set_option maxRecDepth 100000 in
set_option maxHeartbeats 2000000 in
theorem rfirst_any (A : Option Addr) (n c : Nat) (l : List Cl) (i : Nat) (s : ByteArray) (hs : (txc l)[i]? = some s) (w : World) (hr : Reads w w.heap.size 3 A n (cls l)) (hn : n ≤ 1099511627776) :
    Calls Tryz.prog 184 #[.slice A n c, .int .i64 (i : Int)] w (FirstP l i s w) := by
  have Hr := Lib.hid hr
  have hin : i < n := by have := (List.getElem?_eq_some_iff.1 hs).1; have := cls_len hr; have h3 := (List.getElem?_eq_some_iff.1 hs).1; rw [List.length_map] at h3; omega
  have Hs := Lib.hid hs
  clear hr hs
  go_enter Tryz.func184, Tryz.ntmps184
  go_wp2
  go_loopw [5] (fun v wr => ∃ k : Nat, k ≤ i ∧ v = .int .i64 (k : Int) ∧ Hid (s ∉ (txc l).take k) ∧ Hid (Below w.heap.size w wr)) (fun v _ => i - (intOf v).toNat)
  case atStart => exact ⟨0, Nat.zero_le _, rfl, Lib.hid (by simp), Lib.hid (Below.refl _ _)⟩
  case round =>
    obtain ⟨k, hk, rfl, Hno, HB⟩ := hrel
    by_cases hlt : k < i
    · have d1 : decide ((k : Int) < (i : Int)) = true := by simp; omega
      have hkn : k < n := by omega
      have e1 : (k : Int) < (n : Int) := by omega
      have e2 : (i : Int) < (n : Int) := by omega
      have hr2 := Hr.out.on HB.out
      obtain ⟨ad, u, m, s1, rfl, -, hb1, -, -, g2⟩ := cls_at hr2 hkn
      obtain ⟨ad', u', m', s', had, -, hb2, -, -, k2⟩ := cls_at hr2 hin
      obtain rfl := Option.some.inj had
      obtain rfl : s' = s := Option.some.inj ((txc_at hb2).symm.trans Hs.out)
      have HA := Lib.hid (show ∀ w', w' = wr.drew → w'.cell? ⟨(ad.add (k * 3)).block, (ad.add (k * 3)).off + 2, none⟩ = some (.string s1) from fun w' h => by rw [h]; exact g2)
      have HC := Lib.hid (show ∀ w', w' = wr.drew → w'.cell? ⟨(ad.add (i * 3)).block, (ad.add (i * 3)).off + 2, none⟩ = some (.string s') from fun w' h => by rw [h]; exact k2)
      have Hb1 := Lib.hid (txc_at hb1)
      replace HB := Lib.hid (show Below w.heap.size w wr.drew from bon HB.out (Below.refl _ _).drew)
      clear hr2 hb1 hb2 g2 k2 had
      by_cases hss : s1 = s'
      · subst hss
        have HY := Lib.hid (show s1 ∈ (txc l).take i from List.mem_of_getElem? (i := k) (by rw [List.getElem?_take, if_pos hlt]; exact Hb1.out))
        have t1 : (s1.toList == s1.toList) = true := by simp
        go_wp2
        have hS : wr.drew = wr.drew := rfl
        refine wp_region_keep (fun w' => w' = wr.drew) [(0, false), (1, false), (2, false), (3, false), (4, false), (5, false), (6, false), (7, false), (8, false), (9, false), (10, false)] (by kernel_rfl) (by kernel_rfl) (by kernel_rfl) (fun d _ _ _ _ h => by cases d <;> exact h) ?_
        iterate 4
          refine held_pure (v := ?_) rfl rfl (by simp [Region.wanted, yielded]) hS ?_ ?_
          rotate_left
          · intro w hw; go_simp; try with_reducible rfl
          try simp only [Act.put, List.setIfInBounds_toArray, List.set_cons_succ, List.set_cons_zero]
        refine held_pure (v := ?_) rfl rfl (by simp [Region.wanted, yielded]) hS ?_ ?_
        rotate_left
        · intro w hw; have c0 := HA.out w hw; clear hw; go_simp; try with_reducible rfl
        try simp only [Act.put, List.setIfInBounds_toArray, List.set_cons_succ, List.set_cons_zero]
        iterate 4
          refine held_pure (v := ?_) rfl rfl (by simp [Region.wanted, yielded]) hS ?_ ?_
          rotate_left
          · intro w hw; go_simp; try with_reducible rfl
          try simp only [Act.put, List.setIfInBounds_toArray, List.set_cons_succ, List.set_cons_zero]
        refine held_pure (v := ?_) rfl rfl (by simp [Region.wanted, yielded]) hS ?_ ?_
        rotate_left
        · intro w hw; have c0 := HC.out w hw; clear hw; go_simp; try with_reducible rfl
        try simp only [Act.put, List.setIfInBounds_toArray, List.set_cons_succ, List.set_cons_zero]
        refine held_pure (v := ?_) rfl rfl (by simp [Region.wanted, yielded]) hS ?_ ?_
        rotate_left
        · intro w hw; go_simp; try with_reducible rfl
        try simp only [Act.put, List.setIfInBounds_toArray, List.set_cons_succ, List.set_cons_zero]
        refine held_end ?_
        clear HA HC
        go_wp2
        go_ret
        exact ⟨false, rfl, ⟨(fun h => by cases h), (fun h => absurd HY.out h)⟩, HB.out⟩
      · have HY := Lib.hid (show s' ∉ (txc l).take (k + 1) by
          rw [List.take_add_one, Hb1.out]
          intro h
          rcases List.mem_append.1 h with h | h
          · exact Hno.out h
          · exact hss (List.mem_singleton.1 h).symm)
        have hsl : ¬ s1.toList = s'.toList := by
          intro h
          have h2 := text_eqb2 s1 s'
          rw [h] at h2
          simp at h2
          exact hss h2
        have hsb : (s1.toList == s'.toList) = false := by simpa using hsl
        clear hss
        go_wp2
        have hS : wr.drew = wr.drew := rfl
        refine wp_region_keep (fun w' => w' = wr.drew) [(0, false), (1, false), (2, false), (3, false), (4, false), (5, false), (6, false), (7, false), (8, false), (9, false), (10, false)] (by kernel_rfl) (by kernel_rfl) (by kernel_rfl) (fun d _ _ _ _ h => by cases d <;> exact h) ?_
        iterate 4
          refine held_pure (v := ?_) rfl rfl (by simp [Region.wanted, yielded]) hS ?_ ?_
          rotate_left
          · intro w hw; go_simp; try with_reducible rfl
          try simp only [Act.put, List.setIfInBounds_toArray, List.set_cons_succ, List.set_cons_zero]
        refine held_pure (v := ?_) rfl rfl (by simp [Region.wanted, yielded]) hS ?_ ?_
        rotate_left
        · intro w hw; have c0 := HA.out w hw; clear hw; go_simp; try with_reducible rfl
        try simp only [Act.put, List.setIfInBounds_toArray, List.set_cons_succ, List.set_cons_zero]
        iterate 4
          refine held_pure (v := ?_) rfl rfl (by simp [Region.wanted, yielded]) hS ?_ ?_
          rotate_left
          · intro w hw; go_simp; try with_reducible rfl
          try simp only [Act.put, List.setIfInBounds_toArray, List.set_cons_succ, List.set_cons_zero]
        refine held_pure (v := ?_) rfl rfl (by simp [Region.wanted, yielded]) hS ?_ ?_
        rotate_left
        · intro w hw; have c0 := HC.out w hw; clear hw; go_simp; try with_reducible rfl
        try simp only [Act.put, List.setIfInBounds_toArray, List.set_cons_succ, List.set_cons_zero]
        refine held_pure (v := ?_) rfl rfl (by simp [Region.wanted, yielded]) hS ?_ ?_
        rotate_left
        · intro w hw; go_simp; try with_reducible rfl
        try simp only [Act.put, List.setIfInBounds_toArray, List.set_cons_succ, List.set_cons_zero]
        refine held_end ?_
        clear HA HC
        go_wp2
        go_roundw
        case rel => exact ⟨k + 1, hlt, by go_num, HY, HB⟩
        case measure => simp [intOf]; omega
    · obtain rfl : k = i := by omega
      have d1 : decide ((k : Int) < (k : Int)) = false := by simp
      go_wp2
      go_ret
      exact ⟨true, rfl, ⟨(fun _ => Hno.out), (fun _ => rfl)⟩, HB.out⟩
end Go.Proofs.YtegcbjkikhheiaaGreatDoor
