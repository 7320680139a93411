/- Layer 3, walked: the document's writer. -/
import Derived.Test.YtnkkhplddjopnaaPackW
set_option linter.unusedVariables false
set_option linter.unusedSimpArgs false
namespace Go.Proofs.Ytnkkhplddjopnaa
open Go.RowKit
set_option maxRecDepth 100000 in
set_option maxHeartbeats 1000000 in
theorem rraw_any (base g : Nat) (r : Option Nat) (B : List UInt8) (most : Int) (full : Bool) (A : Option Addr) (l c : Nat) (xs : List UInt8) (w : World) (hp : RWr w base g r B most full) (hm0 : 0 ≤ most) (hm1 : most ≤ 9223372036854775807) (hr : Reads w w.heap.size 1 A l (u8s xs)) (hb : B.length + l ≤ 1099511627776) :
    Calls Try.prog 48 #[.pointer (some ⟨g, 0, none⟩), .slice A l c] w (RWrt base g r B most full xs w) := by
  obtain ⟨i0, hi0, hz0, hz1, hz2⟩ := info_parts u8_info
  have hp0 := Lib.hid hp
  obtain ⟨hbg, A0, c0, hblk, hown, hrr⟩ := hp
  have hxl := reads_len hr
  have d0 := hblk.cell 0
  have d1 := hblk.cell 1
  have d2 := hblk.cell 2
  have f0 := hblk.frozen 0
  have f2 := hblk.frozen 2
  have Hblk := Lib.hid hblk
  have Hrr := Lib.hid hrr
  have Hxl := Lib.hid hxl
  generalize hn : B.length = n at *
  have Hn := Lib.hid hn
  have hglt := hblk.lt
  have hbw : base ≤ w.heap.size := by omega
  clear hblk hrr hxl hn
  rcases full with _ | _
  · have hL : ∀ w', w' = w.drew → w'.cell? ⟨g, 1, none⟩ = some (.int .i64 most) := fun w' h => by rw [h]; exact d1
    have hL2 : ∀ w', w' = w.drew → w'.cell? ⟨g, 0, none⟩ = some (.slice A0 n c0) := fun w' h => by rw [h]; exact d0
    have hL3 : ∀ w', w' = w.drew → w'.cell? ⟨g, 2, none⟩ = some (.bool false) := fun w' h => by rw [h]; exact d2
    have HL3 := Lib.hid hL3
    have HL := Lib.hid hL
    have HL2 := Lib.hid hL2
    have Hsub := Lib.hid (i64_wrap_in (most - (n : Int)) (by omega) (by omega))
    clear hL hL2 hL3
    by_cases hbig : most - (n : Int) < (l : Int)
    · have db : decide (most - (n : Int) < (l : Int)) = true := by simp; omega
      have hraw : rawB B most false xs = (B, true) := by unfold rawB; rw [if_pos (.inr (by rw [Hn.out, Hxl.out]; exact hbig))]
      have Hraw := Lib.hid hraw
      clear hraw
      go_enter Try.func48, Try.ntmps48
      go_wp2
      have hS : w.drew = w.drew := rfl
      refine wp_region_keep (fun w' => w' = w.drew) [(0, false), (1, false), (2, false), (3, false), (4, false), (5, false), (6, false), (7, false), (8, false), (9, false), (10, false), (11, false), (12, false), (13, false), (14, false), (15, false), (16, false), (17, false), (18, false)] (by kernel_rfl) (by kernel_rfl) (by kernel_rfl) (fun d _ _ _ _ h => by cases d <;> exact h) ?_
      refine held_pure (v := ?_) rfl rfl (by simp [Region.wanted, yielded]) hS ?_ ?_
      rotate_left
      · intro w hw; go_simp; try with_reducible rfl
      try simp only [Act.put, List.setIfInBounds_toArray, List.set_cons_succ, List.set_cons_zero]
      refine held_pure (v := ?_) rfl rfl (by simp [Region.wanted, yielded]) hS ?_ ?_
      rotate_left
      · intro w hw; go_simp; try with_reducible rfl
      try simp only [Act.put, List.setIfInBounds_toArray, List.set_cons_succ, List.set_cons_zero]
      refine held_pure (v := ?_) rfl rfl (by simp [Region.wanted, yielded]) hS ?_ ?_
      rotate_left
      · intro w hw; go_simp; try with_reducible rfl
      try simp only [Act.put, List.setIfInBounds_toArray, List.set_cons_succ, List.set_cons_zero]
      refine held_pure (v := ?_) rfl rfl (by simp [Region.wanted, yielded]) hS ?_ ?_
      rotate_left
      · intro w hw; have c0 := HL3.out w hw; clear hw; go_simp; try with_reducible rfl
      try simp only [Act.put, List.setIfInBounds_toArray, List.set_cons_succ, List.set_cons_zero]
      refine held_pure (v := ?_) rfl rfl (by simp [Region.wanted, yielded]) hS ?_ ?_
      rotate_left
      · intro w hw; go_simp; try with_reducible rfl
      try simp only [Act.put, List.setIfInBounds_toArray, List.set_cons_succ, List.set_cons_zero]
      refine held_pure (v := ?_) rfl rfl (by simp [Region.wanted, yielded]) hS ?_ ?_
      rotate_left
      · intro w hw; go_simp; try with_reducible rfl
      try simp only [Act.put, List.setIfInBounds_toArray, List.set_cons_succ, List.set_cons_zero]
      refine held_pure (v := ?_) rfl rfl (by simp [Region.wanted, yielded]) hS ?_ ?_
      rotate_left
      · intro w hw; go_simp; try with_reducible rfl
      try simp only [Act.put, List.setIfInBounds_toArray, List.set_cons_succ, List.set_cons_zero]
      refine held_pure (v := ?_) rfl rfl (by simp [Region.wanted, yielded]) hS ?_ ?_
      rotate_left
      · intro w hw; go_simp; try with_reducible rfl
      try simp only [Act.put, List.setIfInBounds_toArray, List.set_cons_succ, List.set_cons_zero]
      refine held_pure (v := ?_) rfl rfl (by simp [Region.wanted, yielded]) hS ?_ ?_
      rotate_left
      · intro w hw; go_simp; try with_reducible rfl
      try simp only [Act.put, List.setIfInBounds_toArray, List.set_cons_succ, List.set_cons_zero]
      refine held_pure (v := ?_) rfl rfl (by simp [Region.wanted, yielded]) hS ?_ ?_
      rotate_left
      · intro w hw; go_simp; try with_reducible rfl
      try simp only [Act.put, List.setIfInBounds_toArray, List.set_cons_succ, List.set_cons_zero]
      refine held_pure (v := ?_) rfl rfl (by simp [Region.wanted, yielded]) hS ?_ ?_
      rotate_left
      · intro w hw; have c0 := HL.out w hw; clear hw; go_simp; try with_reducible rfl
      try simp only [Act.put, List.setIfInBounds_toArray, List.set_cons_succ, List.set_cons_zero]
      refine held_pure (v := ?_) rfl rfl (by simp [Region.wanted, yielded]) hS ?_ ?_
      rotate_left
      · intro w hw; go_simp; try with_reducible rfl
      try simp only [Act.put, List.setIfInBounds_toArray, List.set_cons_succ, List.set_cons_zero]
      refine held_pure (v := ?_) rfl rfl (by simp [Region.wanted, yielded]) hS ?_ ?_
      rotate_left
      · intro w hw; go_simp; try with_reducible rfl
      try simp only [Act.put, List.setIfInBounds_toArray, List.set_cons_succ, List.set_cons_zero]
      refine held_pure (v := ?_) rfl rfl (by simp [Region.wanted, yielded]) hS ?_ ?_
      rotate_left
      · intro w hw; go_simp; try with_reducible rfl
      try simp only [Act.put, List.setIfInBounds_toArray, List.set_cons_succ, List.set_cons_zero]
      refine held_pure (v := ?_) rfl rfl (by simp [Region.wanted, yielded]) hS ?_ ?_
      rotate_left
      · intro w hw; have c0 := HL2.out w hw; clear hw; go_simp; try with_reducible rfl
      try simp only [Act.put, List.setIfInBounds_toArray, List.set_cons_succ, List.set_cons_zero]
      refine held_pure (v := ?_) rfl rfl (by simp [Region.wanted, yielded]) hS ?_ ?_
      rotate_left
      · intro w hw; go_simp; try with_reducible rfl
      try simp only [Act.put, List.setIfInBounds_toArray, List.set_cons_succ, List.set_cons_zero]
      refine held_pure (v := ?_) rfl rfl (by simp [Region.wanted, yielded]) hS ?_ ?_
      rotate_left
      · intro w hw; go_simp; try with_reducible rfl
      try simp only [Act.put, List.setIfInBounds_toArray, List.set_cons_succ, List.set_cons_zero]
      rw [Hsub.out]
      refine held_pure (v := ?_) rfl rfl (by simp [Region.wanted, yielded]) hS ?_ ?_
      rotate_left
      · intro w hw; go_simp; try with_reducible rfl
      try simp only [Act.put, List.setIfInBounds_toArray, List.set_cons_succ, List.set_cons_zero]
      refine held_pure (v := ?_) rfl rfl (by simp [Region.wanted, yielded]) hS ?_ ?_
      rotate_left
      · intro w hw; go_simp; try with_reducible rfl
      try simp only [Act.put, List.setIfInBounds_toArray, List.set_cons_succ, List.set_cons_zero]
      refine held_end ?_
      clear hS
      go_wp2
      go_end0
      have hb4 := (Hblk.out.set_ 2 (.bool true)).drew
      refine ⟨rfl, ?_, r, Next.refl, ?_⟩
      · exact (Touch.set w 2 (.bool true)).trans Next.refl (Touch.of_below ((Below.refl _ _).drew))
      · rw [Hraw.out]
        refine ⟨hbg, A0, c0, ?_, ?_, ?_⟩
        · rw [Hn.out]; exact hb4
        · rw [Hn.out]
          exact ownsRow_drew (own_far3 hown Hblk.out (by decide) 2 (.bool true))
        · rw [Hn.out]; exact Hrr.out
    · have db : decide (most - (n : Int) < (l : Int)) = false := by simp; omega
      have hraw : rawB B most false xs = (B ++ xs, false) := by unfold rawB; rw [if_neg (by rw [Hn.out, Hxl.out]; simp; omega)]
      have Hraw := Lib.hid hraw
      have hs1 : n + l ≤ maxLen := by simp only [maxLen]; omega
      have hs2 : (n + l) * 1 ≤ 70368744177664 := by omega
      clear hraw
      go_enter Try.func48, Try.ntmps48
      go_wp2
      have hS : w.drew = w.drew := rfl
      refine wp_region_keep (fun w' => w' = w.drew) [(0, false), (1, false), (2, false), (3, false), (4, false), (5, false), (6, false), (7, false), (8, false), (9, false), (10, false), (11, false), (12, false), (13, false), (14, false), (15, false), (16, false), (17, false), (18, false)] (by kernel_rfl) (by kernel_rfl) (by kernel_rfl) (fun d _ _ _ _ h => by cases d <;> exact h) ?_
      refine held_pure (v := ?_) rfl rfl (by simp [Region.wanted, yielded]) hS ?_ ?_
      rotate_left
      · intro w hw; go_simp; try with_reducible rfl
      try simp only [Act.put, List.setIfInBounds_toArray, List.set_cons_succ, List.set_cons_zero]
      refine held_pure (v := ?_) rfl rfl (by simp [Region.wanted, yielded]) hS ?_ ?_
      rotate_left
      · intro w hw; go_simp; try with_reducible rfl
      try simp only [Act.put, List.setIfInBounds_toArray, List.set_cons_succ, List.set_cons_zero]
      refine held_pure (v := ?_) rfl rfl (by simp [Region.wanted, yielded]) hS ?_ ?_
      rotate_left
      · intro w hw; go_simp; try with_reducible rfl
      try simp only [Act.put, List.setIfInBounds_toArray, List.set_cons_succ, List.set_cons_zero]
      refine held_pure (v := ?_) rfl rfl (by simp [Region.wanted, yielded]) hS ?_ ?_
      rotate_left
      · intro w hw; have c0 := HL3.out w hw; clear hw; go_simp; try with_reducible rfl
      try simp only [Act.put, List.setIfInBounds_toArray, List.set_cons_succ, List.set_cons_zero]
      refine held_pure (v := ?_) rfl rfl (by simp [Region.wanted, yielded]) hS ?_ ?_
      rotate_left
      · intro w hw; go_simp; try with_reducible rfl
      try simp only [Act.put, List.setIfInBounds_toArray, List.set_cons_succ, List.set_cons_zero]
      refine held_pure (v := ?_) rfl rfl (by simp [Region.wanted, yielded]) hS ?_ ?_
      rotate_left
      · intro w hw; go_simp; try with_reducible rfl
      try simp only [Act.put, List.setIfInBounds_toArray, List.set_cons_succ, List.set_cons_zero]
      refine held_pure (v := ?_) rfl rfl (by simp [Region.wanted, yielded]) hS ?_ ?_
      rotate_left
      · intro w hw; go_simp; try with_reducible rfl
      try simp only [Act.put, List.setIfInBounds_toArray, List.set_cons_succ, List.set_cons_zero]
      refine held_pure (v := ?_) rfl rfl (by simp [Region.wanted, yielded]) hS ?_ ?_
      rotate_left
      · intro w hw; go_simp; try with_reducible rfl
      try simp only [Act.put, List.setIfInBounds_toArray, List.set_cons_succ, List.set_cons_zero]
      refine held_pure (v := ?_) rfl rfl (by simp [Region.wanted, yielded]) hS ?_ ?_
      rotate_left
      · intro w hw; go_simp; try with_reducible rfl
      try simp only [Act.put, List.setIfInBounds_toArray, List.set_cons_succ, List.set_cons_zero]
      refine held_pure (v := ?_) rfl rfl (by simp [Region.wanted, yielded]) hS ?_ ?_
      rotate_left
      · intro w hw; go_simp; try with_reducible rfl
      try simp only [Act.put, List.setIfInBounds_toArray, List.set_cons_succ, List.set_cons_zero]
      refine held_pure (v := ?_) rfl rfl (by simp [Region.wanted, yielded]) hS ?_ ?_
      rotate_left
      · intro w hw; have c0 := HL.out w hw; clear hw; go_simp; try with_reducible rfl
      try simp only [Act.put, List.setIfInBounds_toArray, List.set_cons_succ, List.set_cons_zero]
      refine held_pure (v := ?_) rfl rfl (by simp [Region.wanted, yielded]) hS ?_ ?_
      rotate_left
      · intro w hw; go_simp; try with_reducible rfl
      try simp only [Act.put, List.setIfInBounds_toArray, List.set_cons_succ, List.set_cons_zero]
      refine held_pure (v := ?_) rfl rfl (by simp [Region.wanted, yielded]) hS ?_ ?_
      rotate_left
      · intro w hw; go_simp; try with_reducible rfl
      try simp only [Act.put, List.setIfInBounds_toArray, List.set_cons_succ, List.set_cons_zero]
      refine held_pure (v := ?_) rfl rfl (by simp [Region.wanted, yielded]) hS ?_ ?_
      rotate_left
      · intro w hw; go_simp; try with_reducible rfl
      try simp only [Act.put, List.setIfInBounds_toArray, List.set_cons_succ, List.set_cons_zero]
      refine held_pure (v := ?_) rfl rfl (by simp [Region.wanted, yielded]) hS ?_ ?_
      rotate_left
      · intro w hw; have c0 := HL2.out w hw; clear hw; go_simp; try with_reducible rfl
      try simp only [Act.put, List.setIfInBounds_toArray, List.set_cons_succ, List.set_cons_zero]
      refine held_pure (v := ?_) rfl rfl (by simp [Region.wanted, yielded]) hS ?_ ?_
      rotate_left
      · intro w hw; go_simp; try with_reducible rfl
      try simp only [Act.put, List.setIfInBounds_toArray, List.set_cons_succ, List.set_cons_zero]
      refine held_pure (v := ?_) rfl rfl (by simp [Region.wanted, yielded]) hS ?_ ?_
      rotate_left
      · intro w hw; go_simp; try with_reducible rfl
      try simp only [Act.put, List.setIfInBounds_toArray, List.set_cons_succ, List.set_cons_zero]
      rw [Hsub.out]
      refine held_pure (v := ?_) rfl rfl (by simp [Region.wanted, yielded]) hS ?_ ?_
      rotate_left
      · intro w hw; go_simp; try with_reducible rfl
      try simp only [Act.put, List.setIfInBounds_toArray, List.set_cons_succ, List.set_cons_zero]
      refine held_pure (v := ?_) rfl rfl (by simp [Region.wanted, yielded]) hS ?_ ?_
      rotate_left
      · intro w hw; go_simp; try with_reducible rfl
      try simp only [Act.put, List.setIfInBounds_toArray, List.set_cons_succ, List.set_cons_zero]
      refine held_end ?_
      clear hS
      go_wp2_with (at_builtin
                   refine wpList_append_blk rfl (.tmp 30) (.tmp 31) 32 rfl base 5 i0 (.int .u8 0) 1 1 Try.underlying32 hi0 hz0 hz1 hz2 rfl (by decide) A0 n c0 (u8s B) rfl (ownsRow_drew hown) A l c (u8s xs) rfl hr.drew (u8s_one _) hs1 hs2 hbw ?_
                   intro A2 c2 w2 hown2 hg2 hbk2
                   have hblk2 := Blk.apart' Hblk.out.drew (ownsRow_drew hown) (by decide) hg2
                   have e0 := hblk2.cell 0
                   have fe0 := hblk2.frozen 0
                   have Hblk2 := Lib.hid hblk2
                   have Hbk2 := Lib.hid hbk2
                   clear hblk2 hbk2)
      go_end0
      rw [← u8s_append] at hown2
      have hb4 := Hblk2.out.set_ 0 (.slice A2 (n + l) c2)
      have hlen : (B ++ xs).length = n + l := by rw [List.length_append, Hn.out, Hxl.out]
      refine ⟨rfl, ?_, (Value.slice A2 (n + l) c2).ownBlock, ?_, ?_⟩
      · have h1 : Touch w w2 g r := by
          have := Touch.of_grown (g := g) hg2
          rw [Hrr.out] at this
          exact ((Touch.of_below ((Below.refl _ w).drew)).trans Next.refl this)
        have hn : Next w r r := Next.refl
        exact h1.trans hn (Touch.set w2 0 _)
      · rcases Hbk2.out with h | h
        · exact .inl (h.trans Hrr.out)
        · exact .inr ⟨_, h, Nat.le_refl _⟩
      · rw [Hraw.out]
        refine ⟨hbg, A2, c2, ?_, ?_, ?_⟩
        · simp only [hlen]; exact hb4
        · simp only [hlen]
          exact own_far3 hown2 Hblk2.out (by decide) 0 (.slice A2 (n + l) c2)
        · simp only [hlen]
  · have hraw : rawB B most true xs = (B, true) := by unfold rawB; rw [if_pos (.inl rfl)]
    have Hraw := Lib.hid hraw
    have hL3 : ∀ w', w' = w.drew → w'.cell? ⟨g, 2, none⟩ = some (.bool true) := fun w' h => by rw [h]; exact d2
    have HL3 := Lib.hid hL3
    clear hraw hL3
    go_enter Try.func48, Try.ntmps48
    go_wp2
    have hS : w.drew = w.drew := rfl
    refine wp_region_keep (fun w' => w' = w.drew) [(0, false), (1, false), (2, false), (3, false), (4, false), (5, false), (6, false), (7, false), (8, false), (9, false), (10, false), (11, false), (12, false), (13, false), (14, false), (15, false), (16, false), (17, false), (18, false)] (by kernel_rfl) (by kernel_rfl) (by kernel_rfl) (fun d _ _ _ _ h => by cases d <;> exact h) ?_
    refine held_pure (v := ?_) rfl rfl (by simp [Region.wanted, yielded]) hS ?_ ?_
    rotate_left
    · intro w hw; go_simp; try with_reducible rfl
    try simp only [Act.put, List.setIfInBounds_toArray, List.set_cons_succ, List.set_cons_zero]
    refine held_pure (v := ?_) rfl rfl (by simp [Region.wanted, yielded]) hS ?_ ?_
    rotate_left
    · intro w hw; go_simp; try with_reducible rfl
    try simp only [Act.put, List.setIfInBounds_toArray, List.set_cons_succ, List.set_cons_zero]
    refine held_pure (v := ?_) rfl rfl (by simp [Region.wanted, yielded]) hS ?_ ?_
    rotate_left
    · intro w hw; go_simp; try with_reducible rfl
    try simp only [Act.put, List.setIfInBounds_toArray, List.set_cons_succ, List.set_cons_zero]
    refine held_pure (v := ?_) rfl rfl (by simp [Region.wanted, yielded]) hS ?_ ?_
    rotate_left
    · intro w hw; have c0 := HL3.out w hw; clear hw; go_simp; try with_reducible rfl
    try simp only [Act.put, List.setIfInBounds_toArray, List.set_cons_succ, List.set_cons_zero]
    refine held_pure (v := ?_) rfl rfl (by simp [Region.wanted, yielded]) hS ?_ ?_
    rotate_left
    · intro w hw; go_simp; try with_reducible rfl
    try simp only [Act.put, List.setIfInBounds_toArray, List.set_cons_succ, List.set_cons_zero]
    refine held_off rfl rfl (by simp [Region.wanted, yielded, undef]) hS ?_
    simp only [Act.put, List.setIfInBounds_toArray, List.set_cons_succ, List.set_cons_zero]
    refine held_off rfl rfl (by simp [Region.wanted, yielded, undef]) hS ?_
    simp only [Act.put, List.setIfInBounds_toArray, List.set_cons_succ, List.set_cons_zero]
    refine held_off rfl rfl (by simp [Region.wanted, yielded, undef]) hS ?_
    simp only [Act.put, List.setIfInBounds_toArray, List.set_cons_succ, List.set_cons_zero]
    refine held_off rfl rfl (by simp [Region.wanted, yielded, undef]) hS ?_
    simp only [Act.put, List.setIfInBounds_toArray, List.set_cons_succ, List.set_cons_zero]
    refine held_off rfl rfl (by simp [Region.wanted, yielded, undef]) hS ?_
    simp only [Act.put, List.setIfInBounds_toArray, List.set_cons_succ, List.set_cons_zero]
    refine held_off rfl rfl (by simp [Region.wanted, yielded, undef]) hS ?_
    simp only [Act.put, List.setIfInBounds_toArray, List.set_cons_succ, List.set_cons_zero]
    refine held_off rfl rfl (by simp [Region.wanted, yielded, undef]) hS ?_
    simp only [Act.put, List.setIfInBounds_toArray, List.set_cons_succ, List.set_cons_zero]
    refine held_off rfl rfl (by simp [Region.wanted, yielded, undef]) hS ?_
    simp only [Act.put, List.setIfInBounds_toArray, List.set_cons_succ, List.set_cons_zero]
    refine held_off rfl rfl (by simp [Region.wanted, yielded, undef]) hS ?_
    simp only [Act.put, List.setIfInBounds_toArray, List.set_cons_succ, List.set_cons_zero]
    refine held_off rfl rfl (by simp [Region.wanted, yielded, undef]) hS ?_
    simp only [Act.put, List.setIfInBounds_toArray, List.set_cons_succ, List.set_cons_zero]
    refine held_off rfl rfl (by simp [Region.wanted, yielded, undef]) hS ?_
    simp only [Act.put, List.setIfInBounds_toArray, List.set_cons_succ, List.set_cons_zero]
    refine held_off rfl rfl (by simp [Region.wanted, yielded, undef]) hS ?_
    simp only [Act.put, List.setIfInBounds_toArray, List.set_cons_succ, List.set_cons_zero]
    refine held_off rfl rfl (by simp [Region.wanted, yielded, undef]) hS ?_
    simp only [Act.put, List.setIfInBounds_toArray, List.set_cons_succ, List.set_cons_zero]
    refine held_pure (v := ?_) rfl rfl (by simp [Region.wanted, yielded]) hS ?_ ?_
    rotate_left
    · intro w hw; go_simp; try with_reducible rfl
    try simp only [Act.put, List.setIfInBounds_toArray, List.set_cons_succ, List.set_cons_zero]
    refine held_end ?_
    clear hS
    go_wp2
    refine bodyPost_ret (results_none rfl _ _ _) rfl ?_
    have hb4 := (Hblk.out.set_ 2 (.bool true)).drew
    refine ⟨rfl, ?_, r, Next.refl, ?_⟩
    · exact (Touch.set w 2 (.bool true)).trans Next.refl (Touch.of_below ((Below.refl _ _).drew))
    · rw [Hraw.out]
      refine ⟨hbg, A0, c0, ?_, ?_, ?_⟩
      · rw [Hn.out]; exact hb4
      · rw [Hn.out]
        exact ownsRow_drew (own_far3 hown Hblk.out (by decide) 2 (.bool true))
      · rw [Hn.out]; exact Hrr.out
end Go.Proofs.Ytnkkhplddjopnaa
