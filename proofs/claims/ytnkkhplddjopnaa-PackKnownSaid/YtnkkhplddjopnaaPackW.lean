/- Layer 3, walked: the program's writer. -/
import Derived.Test.YtnkkhplddjopnaaPackMem
set_option linter.unusedVariables false
set_option linter.unusedSimpArgs false
namespace Go.Proofs.Ytnkkhplddjopnaa
open Go.RowKit
theorem i64_wrap_in (x : Int) (h1 : -9223372036854775808 ≤ x) (h2 : x ≤ 9223372036854775807) : IntKind.i64.wrap x = x := by
  simp only [IntKind.wrap, IntKind.signed, IntKind.bits]
  simp
  omega
theorem Blk.apart' {w w' : World} {base size n g : Nat} {e t : TypeId} {v : Value} {xs : List Value} {cs : Array Value} (hb : Blk w g t cs) (h : w.ownsRow base e size v n xs) (hne : e ≠ t) (hg : w.grownBy w' v.ownBlock) : Blk w' g t cs := by
  refine (hg.block g hb.lt ?_).trans hb
  exact fun e => own_blk h hb hne e.symm
theorem own_far3 {w : World} {base size n g : Nat} {e t : TypeId} {v : Value} {xs : List Value} {cs : Array Value} (h : w.ownsRow base e size v n xs) (hb : Blk w g t cs) (hne : e ≠ t) (i : Nat) (u : Value) : (w.setCell ⟨g, i, none⟩ u).ownsRow base e size v n xs := by
  refine own_touch h (Touch.set (g := g) (r := none) w i u) (own_blk h hb hne) ?_
  rcases v.ownBlock with _ | k
  · exact .inl rfl
  · exact .inr (by simp)
theorem ownsRow_drew {w : World} {base size n : Nat} {e : TypeId} {v : Value} {xs : List Value} (h : w.ownsRow base e size v n xs) : w.drew.ownsRow base e size v n xs := h
set_option maxRecDepth 100000 in
set_option maxHeartbeats 1000000 in
theorem wraw_any (base g : Nat) (r : Option Nat) (B : List UInt8) (most : Int) (full : Bool) (A : Option Addr) (l c : Nat) (xs : List UInt8) (w : World) (hp : PWr w base g r B most full) (hm0 : 0 ≤ most) (hm1 : most ≤ 9223372036854775807) (hr : Reads w w.heap.size 1 A l (u8s xs)) (hb : B.length + l ≤ 1099511627776) :
    Calls Try.prog 42 #[.pointer (some ⟨g, 0, none⟩), .slice A l c] w (Wr base g r B most full xs w) := by
  obtain ⟨i0, hi0, hz0, hz1, hz2⟩ := info_parts u8_info
  have hp0 := Lib.hid hp
  obtain ⟨hbg, A0, c0, hblk, hown, hrr⟩ := hp
  have hxl := reads_len hr
  have d0 := hblk.cell 0
  have d1 := hblk.cell 1
  have d2 := hblk.cell 2
  have d3 := hblk.cell 3
  have f0 := hblk.frozen 0
  have f3 := hblk.frozen 3
  have Hblk := Lib.hid hblk
  have Hrr := Lib.hid hrr
  have Hxl := Lib.hid hxl
  generalize hn : B.length = n at *
  have Hn := Lib.hid hn
  have hglt := hblk.lt
  have hbw : base ≤ w.heap.size := by omega
  clear hblk hrr hxl hn
  rcases full with _ | _
  · have hL : ∀ w', w' = w.drew → w'.cell? ⟨g, 2, none⟩ = some (.int .i64 most) := fun w' h => by rw [h]; exact d2
    have hL2 : ∀ w', w' = w.drew → w'.cell? ⟨g, 0, none⟩ = some (.slice A0 n c0) := fun w' h => by rw [h]; exact d0
    have HL := Lib.hid hL
    have HL2 := Lib.hid hL2
    have Hsub := Lib.hid (i64_wrap_in (most - (n : Int)) (by omega) (by omega))
    clear hL hL2
    by_cases hbig : most - (n : Int) < (l : Int)
    · have db : decide (most - (n : Int) < (l : Int)) = true := by simp; omega
      have hraw : rawB B most false xs = (B, true) := by unfold rawB; rw [if_pos (.inr (by rw [Hn.out, Hxl.out]; exact hbig))]
      have Hraw := Lib.hid hraw
      clear hraw
      go_enter Try.func42, Try.ntmps42
      go_wp2
      have hS : w.drew = w.drew := rfl
      refine wp_region_keep (fun w' => w' = w.drew) [(0, false), (1, false), (2, false), (3, false), (4, false), (5, false), (6, false), (7, false), (8, false), (9, false), (10, false), (11, false), (12, false), (13, false), (14, false)] (by kernel_rfl) (by kernel_rfl) (by kernel_rfl) (fun d _ _ _ _ h => by cases d <;> exact h) ?_
      refine held_pure (v := ?_) rfl rfl (by simp [Region.wanted, yielded]) hS ?_ ?_
      rotate_left
      · intro w hw; go_simp; try with_reducible rfl
      try simp only [Act.put, List.setIfInBounds_toArray, List.set_cons_succ, List.set_cons_zero]
      refine held_pure (v := ?_) rfl rfl (by simp [Region.wanted, yielded]) hS ?_ ?_
      rotate_left
      · intro w hw; go_simp; try with_reducible rfl
      try simp only [Act.put, List.setIfInBounds_toArray, List.set_cons_succ, List.set_cons_zero]
      refine held_pure (v := ?_) rfl rfl (by simp [Region.wanted, yielded]) hS ?_ ?_
      rotate_left
      · intro w hw; go_simp; try with_reducible rfl
      try simp only [Act.put, List.setIfInBounds_toArray, List.set_cons_succ, List.set_cons_zero]
      refine held_pure (v := ?_) rfl rfl (by simp [Region.wanted, yielded]) hS ?_ ?_
      rotate_left
      · intro w hw; go_simp; try with_reducible rfl
      try simp only [Act.put, List.setIfInBounds_toArray, List.set_cons_succ, List.set_cons_zero]
      refine held_pure (v := ?_) rfl rfl (by simp [Region.wanted, yielded]) hS ?_ ?_
      rotate_left
      · intro w hw; go_simp; try with_reducible rfl
      try simp only [Act.put, List.setIfInBounds_toArray, List.set_cons_succ, List.set_cons_zero]
      refine held_pure (v := ?_) rfl rfl (by simp [Region.wanted, yielded]) hS ?_ ?_
      rotate_left
      · intro w hw; have c0 := HL.out w hw; clear hw; go_simp; try with_reducible rfl
      try simp only [Act.put, List.setIfInBounds_toArray, List.set_cons_succ, List.set_cons_zero]
      refine held_pure (v := ?_) rfl rfl (by simp [Region.wanted, yielded]) hS ?_ ?_
      rotate_left
      · intro w hw; go_simp; try with_reducible rfl
      try simp only [Act.put, List.setIfInBounds_toArray, List.set_cons_succ, List.set_cons_zero]
      refine held_pure (v := ?_) rfl rfl (by simp [Region.wanted, yielded]) hS ?_ ?_
      rotate_left
      · intro w hw; go_simp; try with_reducible rfl
      try simp only [Act.put, List.setIfInBounds_toArray, List.set_cons_succ, List.set_cons_zero]
      refine held_pure (v := ?_) rfl rfl (by simp [Region.wanted, yielded]) hS ?_ ?_
      rotate_left
      · intro w hw; go_simp; try with_reducible rfl
      try simp only [Act.put, List.setIfInBounds_toArray, List.set_cons_succ, List.set_cons_zero]
      refine held_pure (v := ?_) rfl rfl (by simp [Region.wanted, yielded]) hS ?_ ?_
      rotate_left
      · intro w hw; go_simp; try with_reducible rfl
      try simp only [Act.put, List.setIfInBounds_toArray, List.set_cons_succ, List.set_cons_zero]
      refine held_pure (v := ?_) rfl rfl (by simp [Region.wanted, yielded]) hS ?_ ?_
      rotate_left
      · intro w hw; have c0 := HL2.out w hw; clear hw; go_simp; try with_reducible rfl
      try simp only [Act.put, List.setIfInBounds_toArray, List.set_cons_succ, List.set_cons_zero]
      refine held_pure (v := ?_) rfl rfl (by simp [Region.wanted, yielded]) hS ?_ ?_
      rotate_left
      · intro w hw; go_simp; try with_reducible rfl
      try simp only [Act.put, List.setIfInBounds_toArray, List.set_cons_succ, List.set_cons_zero]
      refine held_pure (v := ?_) rfl rfl (by simp [Region.wanted, yielded]) hS ?_ ?_
      rotate_left
      · intro w hw; go_simp; try with_reducible rfl
      try simp only [Act.put, List.setIfInBounds_toArray, List.set_cons_succ, List.set_cons_zero]
      rw [Hsub.out]
      refine held_pure (v := ?_) rfl rfl (by simp [Region.wanted, yielded]) hS ?_ ?_
      rotate_left
      · intro w hw; go_simp; try with_reducible rfl
      try simp only [Act.put, List.setIfInBounds_toArray, List.set_cons_succ, List.set_cons_zero]
      refine held_pure (v := ?_) rfl rfl (by simp [Region.wanted, yielded]) hS ?_ ?_
      rotate_left
      · intro w hw; go_simp; try with_reducible rfl
      try simp only [Act.put, List.setIfInBounds_toArray, List.set_cons_succ, List.set_cons_zero]
      refine held_end ?_
      clear hS
      go_wp2
      go_end0
      have hb4 := (Hblk.out.set_ 3 (.bool true)).drew
      refine ⟨rfl, ?_, r, Next.refl, ?_⟩
      · exact (Touch.set w 3 (.bool true)).trans Next.refl (Touch.of_below ((Below.refl _ _).drew))
      · rw [Hraw.out]
        refine ⟨hbg, A0, c0, ?_, ?_, ?_⟩
        · rw [Hn.out]; exact hb4
        · rw [Hn.out]
          exact ownsRow_drew (own_far3 hown Hblk.out (by decide) 3 (.bool true))
        · rw [Hn.out]; exact Hrr.out
    · have db : decide (most - (n : Int) < (l : Int)) = false := by simp; omega
      have hraw : rawB B most false xs = (B ++ xs, false) := by unfold rawB; rw [if_neg (by rw [Hn.out, Hxl.out]; simp; omega)]
      have Hraw := Lib.hid hraw
      have hs1 : n + l ≤ maxLen := by simp only [maxLen]; omega
      have hs2 : (n + l) * 1 ≤ 70368744177664 := by omega
      clear hraw
      go_enter Try.func42, Try.ntmps42
      go_wp2
      have hS : w.drew = w.drew := rfl
      refine wp_region_keep (fun w' => w' = w.drew) [(0, false), (1, false), (2, false), (3, false), (4, false), (5, false), (6, false), (7, false), (8, false), (9, false), (10, false), (11, false), (12, false), (13, false), (14, false)] (by kernel_rfl) (by kernel_rfl) (by kernel_rfl) (fun d _ _ _ _ h => by cases d <;> exact h) ?_
      refine held_pure (v := ?_) rfl rfl (by simp [Region.wanted, yielded]) hS ?_ ?_
      rotate_left
      · intro w hw; go_simp; try with_reducible rfl
      try simp only [Act.put, List.setIfInBounds_toArray, List.set_cons_succ, List.set_cons_zero]
      refine held_pure (v := ?_) rfl rfl (by simp [Region.wanted, yielded]) hS ?_ ?_
      rotate_left
      · intro w hw; go_simp; try with_reducible rfl
      try simp only [Act.put, List.setIfInBounds_toArray, List.set_cons_succ, List.set_cons_zero]
      refine held_pure (v := ?_) rfl rfl (by simp [Region.wanted, yielded]) hS ?_ ?_
      rotate_left
      · intro w hw; go_simp; try with_reducible rfl
      try simp only [Act.put, List.setIfInBounds_toArray, List.set_cons_succ, List.set_cons_zero]
      refine held_pure (v := ?_) rfl rfl (by simp [Region.wanted, yielded]) hS ?_ ?_
      rotate_left
      · intro w hw; go_simp; try with_reducible rfl
      try simp only [Act.put, List.setIfInBounds_toArray, List.set_cons_succ, List.set_cons_zero]
      refine held_pure (v := ?_) rfl rfl (by simp [Region.wanted, yielded]) hS ?_ ?_
      rotate_left
      · intro w hw; go_simp; try with_reducible rfl
      try simp only [Act.put, List.setIfInBounds_toArray, List.set_cons_succ, List.set_cons_zero]
      refine held_pure (v := ?_) rfl rfl (by simp [Region.wanted, yielded]) hS ?_ ?_
      rotate_left
      · intro w hw; have c0 := HL.out w hw; clear hw; go_simp; try with_reducible rfl
      try simp only [Act.put, List.setIfInBounds_toArray, List.set_cons_succ, List.set_cons_zero]
      refine held_pure (v := ?_) rfl rfl (by simp [Region.wanted, yielded]) hS ?_ ?_
      rotate_left
      · intro w hw; go_simp; try with_reducible rfl
      try simp only [Act.put, List.setIfInBounds_toArray, List.set_cons_succ, List.set_cons_zero]
      refine held_pure (v := ?_) rfl rfl (by simp [Region.wanted, yielded]) hS ?_ ?_
      rotate_left
      · intro w hw; go_simp; try with_reducible rfl
      try simp only [Act.put, List.setIfInBounds_toArray, List.set_cons_succ, List.set_cons_zero]
      refine held_pure (v := ?_) rfl rfl (by simp [Region.wanted, yielded]) hS ?_ ?_
      rotate_left
      · intro w hw; go_simp; try with_reducible rfl
      try simp only [Act.put, List.setIfInBounds_toArray, List.set_cons_succ, List.set_cons_zero]
      refine held_pure (v := ?_) rfl rfl (by simp [Region.wanted, yielded]) hS ?_ ?_
      rotate_left
      · intro w hw; go_simp; try with_reducible rfl
      try simp only [Act.put, List.setIfInBounds_toArray, List.set_cons_succ, List.set_cons_zero]
      refine held_pure (v := ?_) rfl rfl (by simp [Region.wanted, yielded]) hS ?_ ?_
      rotate_left
      · intro w hw; have c0 := HL2.out w hw; clear hw; go_simp; try with_reducible rfl
      try simp only [Act.put, List.setIfInBounds_toArray, List.set_cons_succ, List.set_cons_zero]
      refine held_pure (v := ?_) rfl rfl (by simp [Region.wanted, yielded]) hS ?_ ?_
      rotate_left
      · intro w hw; go_simp; try with_reducible rfl
      try simp only [Act.put, List.setIfInBounds_toArray, List.set_cons_succ, List.set_cons_zero]
      refine held_pure (v := ?_) rfl rfl (by simp [Region.wanted, yielded]) hS ?_ ?_
      rotate_left
      · intro w hw; go_simp; try with_reducible rfl
      try simp only [Act.put, List.setIfInBounds_toArray, List.set_cons_succ, List.set_cons_zero]
      rw [Hsub.out]
      refine held_pure (v := ?_) rfl rfl (by simp [Region.wanted, yielded]) hS ?_ ?_
      rotate_left
      · intro w hw; go_simp; try with_reducible rfl
      try simp only [Act.put, List.setIfInBounds_toArray, List.set_cons_succ, List.set_cons_zero]
      refine held_pure (v := ?_) rfl rfl (by simp [Region.wanted, yielded]) hS ?_ ?_
      rotate_left
      · intro w hw; go_simp; try with_reducible rfl
      try simp only [Act.put, List.setIfInBounds_toArray, List.set_cons_succ, List.set_cons_zero]
      refine held_end ?_
      clear hS
      go_wp2_with (at_builtin
                   refine wpList_append_blk rfl (.tmp 9) (.tmp 10) 32 rfl base 5 i0 (.int .u8 0) 1 1 Try.underlying32 hi0 hz0 hz1 hz2 rfl (by decide) A0 n c0 (u8s B) rfl (ownsRow_drew hown) A l c (u8s xs) rfl hr.drew (u8s_one _) hs1 hs2 hbw ?_
                   intro A2 c2 w2 hown2 hg2 hbk2
                   have hblk2 := Blk.apart' Hblk.out.drew (ownsRow_drew hown) (by decide) hg2
                   have e0 := hblk2.cell 0
                   have fe0 := hblk2.frozen 0
                   have Hblk2 := Lib.hid hblk2
                   have Hbk2 := Lib.hid hbk2
                   clear hblk2 hbk2)
      go_end0
      rw [← u8s_append] at hown2
      have hb4 := Hblk2.out.set_ 0 (.slice A2 (n + l) c2)
      have hlen : (B ++ xs).length = n + l := by rw [List.length_append, Hn.out, Hxl.out]
      refine ⟨rfl, ?_, (Value.slice A2 (n + l) c2).ownBlock, ?_, ?_⟩
      · have h1 : Touch w w2 g r := by
          have := Touch.of_grown (g := g) hg2
          rw [Hrr.out] at this
          exact ((Touch.of_below ((Below.refl _ w).drew)).trans Next.refl this)
        have hn : Next w r r := Next.refl
        exact h1.trans hn (Touch.set w2 0 _)
      · rcases Hbk2.out with h | h
        · exact .inl (h.trans Hrr.out)
        · exact .inr ⟨_, h, Nat.le_refl _⟩
      · rw [Hraw.out]
        refine ⟨hbg, A2, c2, ?_, ?_, ?_⟩
        · simp only [hlen]; exact hb4
        · simp only [hlen]
          exact own_far3 hown2 Hblk2.out (by decide) 0 (.slice A2 (n + l) c2)
        · simp only [hlen]
  · have hraw : rawB B most true xs = (B, true) := by unfold rawB; rw [if_pos (.inl rfl)]
    have Hraw := Lib.hid hraw
    clear hraw
    go_enter Try.func42, Try.ntmps42
    go_wp2
    go_end0
    refine ⟨rfl, Touch.refl, r, Next.refl, ?_⟩
    rw [Hraw.out]
    exact hp0.out
end Go.Proofs.Ytnkkhplddjopnaa
