/- Part 20 of the walks, merged: each text under its own heading. Conditions: none of its own; each lemma states what it asks. -/
import Derived.Test.YtfgpbnfobpfacaaGreatDoorPart19
/- Layer 16, walked: the document's Put. -/
set_option linter.unusedVariables false
set_option linter.unusedSimpArgs false
namespace Go.Proofs.YtfgpbnfobpfacaaGreatDoor
open Go.RowKit
theorem bareB_le (k : Int) (l : List Cl) (hsz : ∀ c ∈ l, c.2.2.size ≤ 1024) : (bareB k l).length ≤ 10 + 1044 * l.length := by
  unfold bareB
  split
  · have := packL_le (l.map fun c => c.2.1 == 1)
    rw [List.length_map] at this
    omega
  · split
    · have := putD_le (l.map fun c => c.2.2) (by intro s hs; obtain ⟨c, hc, rfl⟩ := List.mem_map.1 hs; exact hsz c hc)
      rw [List.length_map] at this
      exact this
    · split
      · have : ∀ t : List Cl, (∀ c ∈ t, c.2.2.size ≤ 1024) → (rawsB t).length ≤ 1034 * t.length := by
          intro t
          induction t with
          | nil => intro _; simp [rawsB]
          | cons c t ih =>
            intro ht
            have h2 := ih (fun x hx => ht x (by simp [hx]))
            have h3 := ht c (by simp)
            have h4 := leb_le c.2.2.size
            have h5 : c.2.2.data.toList.length = c.2.2.size := Array.length_toList
            unfold rawsB at h2 ⊢
            rw [List.flatMap_cons, List.length_append, List.length_append, List.length_cons]
            omega
        have := this l hsz
        omega
      · have : ∀ t : List Cl, (intsB t).length ≤ 10 * t.length := by
          intro t
          induction t with
          | nil => simp [intsB]
          | cons c t ih =>
            have h4 := leb_le (zig c.2.1)
            unfold intsB at ih ⊢
            rw [List.flatMap_cons, List.length_append, List.length_cons]
            omega
        have := this l
        omega
theorem rcheck_any3 (k : Int) (nl u : Bool) (x : Int) (s : ByteArray) (w : World) (hn : K9 x) : Calls Tryz.prog 30 #[.agg #[.int .i64 k, .bool nl], .agg #[.bool u, .int .i64 x, .string s]] w fun e w' => e = .returned (.int .i64 (checkE k nl (u, x, s))) ∧ Below w.heap.size w w' := rcheck_any k nl (u, x, s) w hn
set_option maxRecDepth 100000 in
set_option maxHeartbeats 2000000 in
theorem rput_any (A : Option Addr) (n c : Nat) (xs : List UInt8) (k : Int) (nl : Bool) (B : Option Addr) (m cB : Nat) (l : List Cl) (w : World) (hr : Reads w w.heap.size 1 A n (u8s xs)) (hn : n ≤ 274877906944)
    (hr2 : Reads w w.heap.size 3 B m (cls l)) (hm : m ≤ 1048576) (hok : ClOk l) :
    Calls Tryz.prog 14 #[.slice A n c, .agg #[.int .i64 k, .bool nl], .slice B m cB] w fun e w' => ∃ A' n' c', e = .returned (.tuple #[.slice A' n' c', .int .i64 (putE k nl l)]) ∧ n' ≤ c' ∧ c' ≤ maxLen ∧
      w'.ownsRow w.heap.size 5 1 (.slice A' n' c') n' (u8s (putO k nl l xs)) ∧ Below w.heap.size w w' := by
  obtain ⟨i0, hi0, hz0, hz1, hz2⟩ := info_parts u8_info
  obtain ⟨b0, hb0, hb1, hb2, hb3⟩ := info_parts bool_info
  obtain ⟨j0, hj0, hk0, hj1, hk2⟩ := info_parts cell_info
  have Hr := Lib.hid hr
  have Hr2 := Lib.hid hr2
  have Hok := Lib.hid hok
  have Hm := Lib.hid hm
  have Hn := Lib.hid hn
  have Hln := Lib.hid (cls_len hr2)
  have Hxl := Lib.hid (show xs.length = n from reads_len hr)
  have B4 := Lib.hid (Blk.new w 24 #[.int .i64 k, .bool nl])
  clear hr hr2 hok
  go_enter Tryz.func14, Tryz.ntmps14
  go_wp2_with fail
  with_reducible refine (rmay_any k nl _).mono ?_
  rintro e w1 ⟨rfl, hb1⟩
  have HB := Lib.hid (bon ((Below.refl _ w).alloc (Nat.le_refl _) (.cells #[.int .i64 k, .bool nl] 24)) hb1)
  replace B4 := Lib.hid (B4.out.on hb1)
  clear hb1
  cases hmk : mayK k with
  | false =>
    go_wp2
    go_ret2
    exact ⟨none, 0, 0, by simp [putE, hmk], Nat.le_refl _, by decide, by rw [show putO k nl l xs = [] by simp [putO, putE, hmk]]; exact World.ownsRow_nil _ _ _ _, HB.out⟩
  | true =>
    obtain ⟨hk1, hk5⟩ : 1 ≤ k ∧ k ≤ 5 := by simpa [mayK] using hmk
    go_wp2
    go_loopw [8, 9, 10] (fun v8 v9 i wr => ∃ (j : Nat) (A8 : Option Addr) (c8 : Nat) (A9 : Option Addr) (n9 c9 : Nat), j ≤ m ∧ v8 = .slice A8 j c8 ∧ v9 = .slice A9 n9 c9 ∧ i = .int .i64 (j : Int) ∧ n9 ≤ j ∧ Hid (allC k nl (l.take j) = true) ∧
      Hid (wr.ownsRow w.heap.size 4 1 (.slice A8 j c8) j (bls ((l.take j).map fun c => !c.1))) ∧ Hid (wr.ownsRow w.heap.size 41 3 (.slice A9 n9 c9) n9 (cls (someC (l.take j)))) ∧ Hid (Blk wr w.heap.size 24 #[.int .i64 k, .bool nl]) ∧ Hid (Below w.heap.size w wr)) (fun _ _ i _ => m - (intOf i).toNat)
    case atStart => exact ⟨0, none, 0, none, 0, 0, Nat.zero_le _, rfl, rfl, rfl, Nat.le_refl _, Lib.hid rfl, Lib.hid (World.ownsRow_nil _ _ _ _), Lib.hid (World.ownsRow_nil _ _ _ _), B4, HB⟩
    case round =>
      obtain ⟨j, A8, c8, A9, n9, c9, hj, rfl, rfl, rfl, hn9, hall, HO8, HO9, B4, HB⟩ := hrel
      by_cases hlt : j < m
      · obtain ⟨ad, u, x, s, rfl, hbk, hx, h0, h1, h2⟩ := cls_at Hr2.out hlt
        have Hx := Lib.hid hx
        have hbk2 : (ad.add (j * 3)).block < w.heap.size := by rw [block_of_add]; exact hbk
        have HY0 := Lib.hid (show ∀ w', Below w.heap.size w w' → w'.cell? (ad.add (j * 3)) = some (.bool u) from fun w' h => (h.cell (p := ad.add (j * 3)) hbk2).trans h0)
        have HY1 := Lib.hid (show ∀ w', Below w.heap.size w w' → w'.cell? ⟨(ad.add (j * 3)).block, (ad.add (j * 3)).off + 1, none⟩ = some (.int .i64 x) from fun w' h => (h.cell (p := ⟨(ad.add (j * 3)).block, (ad.add (j * 3)).off + 1, none⟩) hbk2).trans h1)
        have HY2 := Lib.hid (show ∀ w', Below w.heap.size w w' → w'.cell? ⟨(ad.add (j * 3)).block, (ad.add (j * 3)).off + 2, none⟩ = some (.string s) from fun w' h => (h.cell (p := ⟨(ad.add (j * 3)).block, (ad.add (j * 3)).off + 2, none⟩) hbk2).trans h2)
        have Hok1 := Lib.hid (Hok.out _ (List.mem_of_getElem? hx))
        have Hmp := Lib.hid (show (l.take (j + 1)).map (fun c => !c.1) = (l.take j).map (fun c => !c.1) ++ [!u] by rw [List.take_add_one, hx]; simp)
        have Hstep := Lib.hid (someC_step hx)
        have hm2 := Hm.out
        have hs1 : j + 1 ≤ maxLen := by simp only [maxLen]; omega
        have hs2 : (j + 1) * 1 ≤ 70368744177664 := by omega
        have hs3 : n9 + 1 ≤ maxLen := by simp only [maxLen]; omega
        have hs4 : (n9 + 1) * 32 ≤ 70368744177664 := by omega
        clear hx hbk hbk2 h0 h1 h2
        go_wp2
        have HT0 := Lib.hid (show ∀ w', Below wr.heap.size wr w' → w'.cell? ⟨w.heap.size, 0, none⟩ = some (.int .i64 k) from fun w' h => (B4.out.on h).cell 0)
        have HT1 := Lib.hid (show ∀ w', Below wr.heap.size wr w' → w'.cell? ⟨w.heap.size, 1, none⟩ = some (.bool nl) from fun w' h => (B4.out.on h).cell 1)
        have HZ0 := Lib.hid (show ∀ w', Below wr.heap.size wr w' → w'.cell? (ad.add (j * 3)) = some (.bool u) from fun w' h => HY0.out w' (HB.out.trans (h.mono HB.out.size)))
        have HZ1 := Lib.hid (show ∀ w', Below wr.heap.size wr w' → w'.cell? ⟨(ad.add (j * 3)).block, (ad.add (j * 3)).off + 1, none⟩ = some (.int .i64 x) from fun w' h => HY1.out w' (HB.out.trans (h.mono HB.out.size)))
        have HZ2 := Lib.hid (show ∀ w', Below wr.heap.size wr w' → w'.cell? ⟨(ad.add (j * 3)).block, (ad.add (j * 3)).off + 2, none⟩ = some (.string s) from fun w' h => HY2.out w' (HB.out.trans (h.mono HB.out.size)))
        have hS : Below wr.heap.size wr wr.drew := (Below.refl _ _).drew
        have hjm : (j : Int) < (m : Int) := by omega
        refine wp_region_keep (fun w' => Below wr.heap.size wr w') [(0, false), (1, false), (2, false), (3, false), (4, false), (5, true), (6, false)] (by kernel_rfl) (by kernel_rfl) (by kernel_rfl) (fun d _ _ _ _ h => by cases d <;> exact h) ?_
        refine held_pure (v := ?_) rfl rfl (by simp [Region.wanted, yielded]) hS ?_ ?_
        rotate_left
        · intro w hw; have c0 := HT0.out w hw; have c1 := HT1.out w hw; clear hw; go_simp; try with_reducible rfl
        try simp only [Act.put, List.setIfInBounds_toArray, List.set_cons_succ, List.set_cons_zero]
        refine held_pure (v := ?_) rfl rfl (by simp [Region.wanted, yielded]) hS ?_ ?_
        rotate_left
        · intro w hw; go_simp; try with_reducible rfl
        try simp only [Act.put, List.setIfInBounds_toArray, List.set_cons_succ, List.set_cons_zero]
        refine held_pure (v := ?_) rfl rfl (by simp [Region.wanted, yielded]) hS ?_ ?_
        rotate_left
        · intro w hw; go_simp; try with_reducible rfl
        try simp only [Act.put, List.setIfInBounds_toArray, List.set_cons_succ, List.set_cons_zero]
        refine held_pure (v := ?_) rfl rfl (by simp [Region.wanted, yielded]) hS ?_ ?_
        rotate_left
        · intro w hw; go_simp; try with_reducible rfl
        try simp only [Act.put, List.setIfInBounds_toArray, List.set_cons_succ, List.set_cons_zero]
        refine held_pure (v := ?_) rfl rfl (by simp [Region.wanted, yielded]) hS ?_ ?_
        rotate_left
        · intro w hw; have c0 := HZ0.out w hw; have c1 := HZ1.out w hw; have c2 := HZ2.out w hw; clear hw; go_simp; try with_reducible rfl
        try simp only [Act.put, List.setIfInBounds_toArray, List.set_cons_succ, List.set_cons_zero]
        refine held_eff1 rfl (by simp [Region.wanted, yielded]) fun K hK => ?_
        go_simp
        with_reducible refine (rcheck_any3 k nl u x s _ ⟨Hok1.out.1, Hok1.out.2.1⟩).mono ?_
        rintro e w5 ⟨rfl, hb5⟩
        refine held_go hK (by exact bon hS hb5) fun hS => ?_
        clear hK K
        try simp only [Act.put, List.setIfInBounds_toArray, List.set_cons_succ, List.set_cons_zero]
        clear hb5
        refine held_pure (v := ?_) rfl rfl (by simp [Region.wanted, yielded]) hS ?_ ?_
        rotate_left
        · intro w hw; go_simp; try with_reducible rfl
        try simp only [Act.put, List.setIfInBounds_toArray, List.set_cons_succ, List.set_cons_zero]
        refine held_end ?_
        have HO8 := Lib.hid (own_below HO8.out hS)
        have HO9 := Lib.hid (own_below HO9.out hS)
        have B4 := Lib.hid (B4.out.on hS)
        have HB := Lib.hid (HB.out.trans (hS.mono HB.out.size))
        clear hS HT0 HT1 HZ0 HZ1 HZ2 hjm
        rcases checkE_two k nl (u, x, s) hmk with h0 | h0
        · have hall2 := Lib.hid (allC_step hall.out Hx.out h0)
          generalize checkE k nl (u, x, s) = E0 at h0
          subst h0
          have y0 := HY0.out _ HB.out
          cases u with
          | true =>
            have Hstep := Lib.hid (show someC (l.take (j + 1)) = someC (l.take j) by rw [Hstep.out]; rfl)
            go_wp2_with (at_builtin
                         (refine wpList_append_any _ rfl (.tmp 28) (.tmp 35) 42 rfl w.heap.size 4 b0 (.bool false) 1 1 Tryz.underlying42 hb0 hb1 hb2 hb3 rfl (by decide) A8 j c8 _ rfl (HO8.out.alloc _) (some ⟨_, 0, none⟩) 1 1 [.bool false] rfl (reads_new _ _ _) (one_bool _) hs1 hs2 (Nat.le_trans HB.out.size (by simp)) ?_
                          intro A1 c1 w8 r1 r2 r3 r4 r5
                          have hB8 := Lib.hid ((HB.out.alloc HB.out.size (.cells #[.bool false] 4)).trans r2)
                          have hO9 := Lib.hid (own_apart (HO9.out.alloc (.cells #[.bool false] 4)) (HO8.out.alloc (.cells #[.bool false] 4)) (by decide) r3)
                          have hO8 := Lib.hid r1
                          have h4 := Lib.hid ((B4.out.alloc (.cells #[.bool false] 4)).apart (HO8.out.alloc (.cells #[.bool false] 4)) (by decide) r3)
                          have y0 := HY0.out _ hB8.out
                          have y1 := HY1.out _ hB8.out
                          have y2 := HY2.out _ hB8.out
                          clear r1 r2 r3 r4 r5))
            have hO8 := Lib.hid (show w8.ownsRow w.heap.size 4 1 (.slice A1 (j + 1) c1) (j + 1) (bls ((l.take (j + 1)).map fun c => !c.1)) by rw [Hmp.out, bls_append]; exact hO8.out)
            go_roundw
            case rel => exact ⟨j + 1, A1, c1, A9, n9, c9, by omega, rfl, rfl, by go_num, by omega, hall2, hO8, by rw [Hstep.out]; exact hO9, h4, hB8⟩
            case measure => simp [intOf]; omega
          | false =>
            have Hstep := Lib.hid (show someC (l.take (j + 1)) = someC (l.take j) ++ [(false, x, s)] by rw [Hstep.out]; rfl)
            go_wp2_with (at_builtin
                         first
                         | (refine wpList_append_any _ rfl (.tmp 28) (.tmp 35) 42 rfl w.heap.size 4 b0 (.bool false) 1 1 Tryz.underlying42 hb0 hb1 hb2 hb3 rfl (by decide) A8 j c8 _ rfl (HO8.out.alloc _) (some ⟨_, 0, none⟩) 1 1 [.bool true] rfl (reads_new _ _ _) (one_bool _) hs1 hs2 (Nat.le_trans HB.out.size (by simp)) ?_
                            intro A1 c1 w8 r1 r2 r3 r4 r5
                            have hB8 := Lib.hid ((HB.out.alloc HB.out.size (.cells #[.bool true] 4)).trans r2)
                            have hO9 := Lib.hid (own_apart (HO9.out.alloc (.cells #[.bool true] 4)) (HO8.out.alloc (.cells #[.bool true] 4)) (by decide) r3)
                            have hO8 := Lib.hid r1
                            have h4 := Lib.hid ((B4.out.alloc (.cells #[.bool true] 4)).apart (HO8.out.alloc (.cells #[.bool true] 4)) (by decide) r3)
                            have y0 := HY0.out _ hB8.out
                            have y1 := HY1.out _ hB8.out
                            have y2 := HY2.out _ hB8.out
                            clear r1 r2 r3 r4 r5)
                         | (refine wpList_append_any _ rfl (.tmp 43) (.tmp 48) 25 rfl w.heap.size 41 j0 (.agg #[.bool false, .int .i64 0, .string ⟨#[]⟩]) 3 32 Tryz.underlying25 hj0 hk0 hj1 hk2 rfl (by decide) A9 n9 c9 _ rfl (hO9.out.alloc _) (some ⟨_, 0, none⟩) 1 1 (cls [(false, x, s)]) rfl (reads_cell _ _ _ _) (cls_one _) hs3 hs4 (Nat.le_trans hB8.out.size (by simp)) ?_
                            intro A2 c2 w9 r1 r2 r3 r4 r5
                            rw [← cls_append] at r1
                            have hB9 := Lib.hid ((hB8.out.alloc hB8.out.size (.cells #[.bool false, .int .i64 x, .string s] 41)).trans r2)
                            have hP8 := Lib.hid (own_apart (hO8.out.alloc (.cells #[.bool false, .int .i64 x, .string s] 41)) (hO9.out.alloc (.cells #[.bool false, .int .i64 x, .string s] 41)) (by decide) r3)
                            have h5 := Lib.hid ((h4.out.alloc (.cells #[.bool false, .int .i64 x, .string s] 41)).apart (hO9.out.alloc (.cells #[.bool false, .int .i64 x, .string s] 41)) (by decide) r3)
                            have hP9 := Lib.hid r1
                            clear r1 r2 r3 r4 r5))
            have hP8 := Lib.hid (show w9.ownsRow w.heap.size 4 1 (.slice A1 (j + 1) c1) (j + 1) (bls ((l.take (j + 1)).map fun c => !c.1)) by rw [Hmp.out, bls_append]; exact hP8.out)
            go_roundw
            case rel => exact ⟨j + 1, A1, c1, A2, n9 + 1, c2, by omega, rfl, rfl, by go_num, by omega, hall2, hP8, by rw [Hstep.out]; exact hP9, h5, hB9⟩
            case measure => simp [intOf]; omega
        · have hall2 := Lib.hid (allC_bad Hx.out h0)
          generalize checkE k nl (u, x, s) = E0 at h0
          subst h0
          go_wp2
          go_ret2
          exact ⟨none, 0, 0, by simp [putE, hmk, hall2.out], Nat.le_refl _, by decide, by rw [show putO k nl l xs = [] by simp [putO, putE, hmk, hall2.out]]; exact World.ownsRow_nil _ _ _ _, HB.out⟩
      · obtain rfl : j = m := by omega
        have hmap : l.take j = l := List.take_of_length_le (by rw [Hln.out]; exact Nat.le_refl _)
        rw [hmap] at hall HO8 HO9
        have HE := Lib.hid (show putE k nl l = 0 by simp [putE, hmk, hall.out])
        have HsZ := Lib.hid (some_sizes hmk hall.out)
        have HsO := Lib.hid (show ClOk (someC l) from fun c hc => Hok.out c (List.mem_filter.1 hc).1)
        have Hn9 := Lib.hid (show n9 ≤ 1048576 by have := Hm.out; omega)
        have Hbl := Lib.hid (show n + (packL (l.map fun c => !c.1)).length + (bareB k (someC l)).length ≤ 274877906944 + 2200000000 by
          have h1 := packL_le (l.map fun c => !c.1)
          have h2 := bareB_le k (someC l) HsZ.out
          have h3 := someC_le l
          rw [List.length_map, Hln.out] at h1
          rw [Hln.out] at h3
          have := Hm.out
          have := Hn.out
          omega)
        obtain ⟨q3, q4⟩ := own_caps HO8.out
        have Q8 := Lib.hid (And.intro q3 q4)
        clear hmap hlt q3 q4
        go_wp2_with fail
        with_reducible refine (copyBytes_any A n c xs _ ((Hr.out.below HB.out).more HB.out.size) (by have := Hn.out; omega)).mono ?_
        rintro e w5 ⟨AO, cO, rfl, q1, q2, q3, q4⟩
        have HO8 := Lib.hid (own_below HO8.out q4)
        have HO9 := Lib.hid (own_below HO9.out q4)
        have B4 := Lib.hid (B4.out.on q4)
        have HOut := Lib.hid (own_mono q3 HB.out.size)
        have HB := Lib.hid (HB.out.trans (q4.mono HB.out.size))
        clear q1 q2 q3 q4
        have c40 := B4.out.cell 0
        have c41 := B4.out.cell 1
        cases nl with
        | false =>
          have HF := Lib.hid (show putO k false l xs = xs ++ bareB k (someC l) by simp [putO, HE.out, putB])
          go_wp2_with fail
          with_reducible refine (rbare_any k A9 n9 c9 (someC l) _ (Reads.of_own HO9.out) (by have := Hn9.out; omega) HsO.out HsZ.out hk1 hk5).mono ?_
          rintro e w7 ⟨AB, cB2, rfl, q1, q2, q3, q4⟩
          have HB := Lib.hid (HB.out.trans (q4.mono HB.out.size))
          have HO := Lib.hid (own_below HOut.out q4)
          have Q := Lib.hid (Reads.of_own q3)
          have hs1 : n + (bareB k (someC l)).length ≤ maxLen := by simp only [maxLen]; have := Hbl.out; omega
          have hs2 : (n + (bareB k (someC l)).length) * 1 ≤ 70368744177664 := by have := Hbl.out; omega
          clear q1 q2 q3 q4
          go_wp2_with (at_builtin
                       refine wpList_append_any _ rfl (.tmp 58) (.tmp 62) 22 rfl w.heap.size 5 i0 (.int .u8 0) 1 1 Tryz.underlying22 hi0 hz0 hz1 hz2 rfl (by decide) AO n cO _ rfl HO.out AB _ cB2 _ rfl Q.out (u8s_one _) hs1 hs2 HB.out.size ?_
                       intro AF cF wF r1 r2 r3 r4 r5
                       have R := Lib.hid (And.intro r1 (And.intro r2 (And.intro r4 r5)))
                       clear r1 r2 r3 r4 r5)
          go_ret2
          have r1 := R.out.1
          rw [← u8s_append] at r1
          exact ⟨AF, _, cF, by rw [HE.out]; rfl, R.out.2.2.1, R.out.2.2.2, by rw [HF.out]; exact r1, HB.out.trans R.out.2.1⟩
        | true =>
          have HF := Lib.hid (show putO k true l xs = (xs ++ packL (l.map fun c => !c.1)) ++ bareB k (someC l) by simp [putO, HE.out, putB])
          go_wp2_with fail
          with_reducible refine (refmpack_any A8 j c8 _ _ (Reads.of_own HO8.out) Q8.out.1 Q8.out.2 (by have := Hm.out; omega)).mono ?_
          rintro e w6 ⟨AP, cP, rfl, q1, q2, q3, q4⟩
          have HO9 := Lib.hid (own_below HO9.out q4)
          have HOut := Lib.hid (own_below HOut.out q4)
          have B4 := Lib.hid (B4.out.on q4)
          have HB := Lib.hid (HB.out.trans (q4.mono HB.out.size))
          have Q := Lib.hid (Reads.of_own q3)
          have hs1 : n + (packL (l.map fun c => !c.1)).length ≤ maxLen := by simp only [maxLen]; have := Hbl.out; omega
          have hs2 : (n + (packL (l.map fun c => !c.1)).length) * 1 ≤ 70368744177664 := by have := Hbl.out; omega
          clear q1 q2 q3 q4 c40 c41
          go_wp2_with (at_builtin
                       refine wpList_append_any _ rfl (.tmp 54) (.tmp 56) 22 rfl w.heap.size 5 i0 (.int .u8 0) 1 1 Tryz.underlying22 hi0 hz0 hz1 hz2 rfl (by decide) AO n cO _ rfl HOut.out AP _ cP _ rfl Q.out (u8s_one _) hs1 hs2 HB.out.size ?_
                       intro AO2 cO2 w7 r1 r2 r3 r4 r5
                       have HO9 := Lib.hid (own_apart HO9.out HOut.out (by decide) r3)
                       have B4 := Lib.hid (B4.out.apart HOut.out (by decide) r3)
                       have HOut := Lib.hid r1
                       have HB := Lib.hid (HB.out.trans r2)
                       have c40 := B4.out.cell 0
                       clear r1 r2 r3 r4 r5)
          have HOut := Lib.hid (show w7.ownsRow w.heap.size 5 1 (.slice AO2 (n + (packL (l.map fun c => !c.1)).length) cO2) (n + (packL (l.map fun c => !c.1)).length) (u8s (xs ++ packL (l.map fun c => !c.1))) by rw [u8s_append]; exact HOut.out)
          clear hs1 hs2 Q
          with_reducible refine (rbare_any k A9 n9 c9 (someC l) _ (Reads.of_own HO9.out) (by have := Hn9.out; omega) HsO.out HsZ.out hk1 hk5).mono ?_
          rintro e w7 ⟨AB, cB2, rfl, q1, q2, q3, q4⟩
          have HB := Lib.hid (HB.out.trans (q4.mono HB.out.size))
          have HO := Lib.hid (own_below HOut.out q4)
          have Q := Lib.hid (Reads.of_own q3)
          have hs1 : (n + (packL (l.map fun c => !c.1)).length) + (bareB k (someC l)).length ≤ maxLen := by simp only [maxLen]; have := Hbl.out; omega
          have hs2 : ((n + (packL (l.map fun c => !c.1)).length) + (bareB k (someC l)).length) * 1 ≤ 70368744177664 := by have := Hbl.out; omega
          clear q1 q2 q3 q4
          go_wp2_with (at_builtin
                       refine wpList_append_any _ rfl (.tmp 58) (.tmp 62) 22 rfl w.heap.size 5 i0 (.int .u8 0) 1 1 Tryz.underlying22 hi0 hz0 hz1 hz2 rfl (by decide) AO2 (n + (packL (l.map fun c => !c.1)).length) cO2 _ rfl HO.out AB _ cB2 _ rfl Q.out (u8s_one _) hs1 hs2 HB.out.size ?_
                       intro AF cF wF r1 r2 r3 r4 r5
                       have R := Lib.hid (And.intro r1 (And.intro r2 (And.intro r4 r5)))
                       clear r1 r2 r3 r4 r5)
          go_ret2
          have r1 := R.out.1
          rw [← u8s_append] at r1
          exact ⟨AF, _, cF, by rw [HE.out]; rfl, R.out.2.2.1, R.out.2.2.2, by rw [HF.out]; exact r1, HB.out.trans R.out.2.1⟩
end Go.Proofs.YtfgpbnfobpfacaaGreatDoor
/- Layer 16, walked: the document's some. -/
set_option linter.unusedVariables false
set_option linter.unusedSimpArgs false
namespace Go.Proofs.YtfgpbnfobpfacaaGreatDoor
open Go.RowKit
set_option maxRecDepth 100000 in
set_option maxHeartbeats 2000000 in
theorem rsome1_any (B : Option Addr) (m cb : Nat) (xs : List UInt8) (n : Int) (w : World) (hr : Reads w w.heap.size 1 B m (u8s xs)) (hm : m ≤ cb) (hc : cb ≤ maxLen) (hn1 : -9223372036854775808 ≤ n) (hn2 : n ≤ 9223372036854775807) :
    Calls Tryz.prog 38 #[.slice B m cb, .int .i64 1, .int .i64 n] w (GotC3 (getB 1 xs n) w) := by
  obtain ⟨j0, hj0, hk0, hj1, hk2⟩ := info_parts cell_info
  have hgb : getB 1 xs n = (if (unpackL xs n).2.2 = 0 then .ok ((unpackL xs n).1.map boolC, (unpackL xs n).2.1) else .error (unpackL xs n).2.2) := by simp only [getB, if_true]
  have hus := (unpackL_size xs n).2.1
  have hemp : (unpackL xs n).2.2 ≠ 0 → (unpackL xs n).1 = [] ∧ (unpackL xs n).2.1 = 0 := by
    rcases unpackL_only xs n with ⟨l, t, e, -⟩ | ⟨e, h, -⟩
    · rw [e]; intro h; exact absurd rfl h
    · rw [h]; intro _; exact ⟨rfl, rfl⟩
  have Hgb := Lib.hid hgb
  have Hus := Lib.hid hus
  have Hemp := Lib.hid hemp
  clear hgb hus hemp
  go_enter Tryz.func38, Tryz.ntmps38
  go_wp2_with fail
  with_reducible refine (refmunpack_any B m cb xs n _ hr hm hc hn1 hn2).mono ?_
  rintro e w1 ⟨AL, cL, rfl, q1, q2, q3, q4⟩
  generalize unpackL xs n = r at *
  obtain ⟨bl, sz, er⟩ := r
  simp only at q1 q2 q3 q4 Hus Hemp Hgb
  have hus := Hus.out
  have HL := Lib.hid q3
  have HB := Lib.hid q4
  have HB1w := Lib.hid q4.size
  clear q1 q2 q3 q4
  go_wp2
  go_loopw [9, 13] (fun v i wr => ∃ (j : Nat) (A9 : Option Addr) (c9 : Nat), j ≤ bl.length ∧ v = .slice A9 j c9 ∧ i = .int .i64 (j : Int) ∧ (j = 0 → A9 = none ∧ c9 = 0) ∧ Hid (wr.ownsRow w1.heap.size 41 3 (.slice A9 j c9) j (cls ((bl.take j).map boolC))) ∧ Hid (Reads wr w1.heap.size 1 AL bl.length (bls bl)) ∧ Hid (Below w.heap.size w wr) ∧ Hid (w1.heap.size ≤ wr.heap.size)) (fun _ i _ => bl.length - (intOf i).toNat)
  case atStart => exact ⟨0, none, 0, Nat.zero_le _, rfl, rfl, fun _ => ⟨rfl, rfl⟩, Lib.hid (World.ownsRow_nil _ _ _ _), HL, HB, Lib.hid (Nat.le_refl _)⟩
  case round =>
    obtain ⟨j, A9, c9, hj, rfl, rfl, hz, HO, HL, HB, Hw1⟩ := hrel
    by_cases hlt : j < bl.length
    · obtain ⟨ad, u, rfl, hbk, hu, hcell⟩ := HL.out.at_ hlt
      obtain ⟨is, hx, rfl⟩ := bls_get _ _ _ hu
      have Hx := Lib.hid hx
      have hs1 : j + 1 ≤ maxLen := by simp only [maxLen]; omega
      have hs2 : (j + 1) * 32 ≤ 70368744177664 := by omega
      have HbL := Lib.hid (show (ad.add j).block < w1.heap.size by rw [block_of_add]; exact hbk)
      have hc2 : (wr.alloc (.cells #[.bool false, .int .i64 0, .string ⟨#[]⟩] 41)).cell? (ad.add j) = some (.bool is) := (World.cell?_alloc_lt wr _ _ (Nat.lt_of_lt_of_le HbL.out Hw1.out)).trans hcell
      clear hu hx hbk hcell hz
      cases is with
      | false =>
        go_wp2_with (at_builtin
                     refine wpList_append_any _ rfl (.tmp 48) (.tmp 50) 25 rfl w1.heap.size 41 j0 (.agg #[.bool false, .int .i64 0, .string ⟨#[]⟩]) 3 32 Tryz.underlying25 hj0 hk0 hj1 hk2 rfl (by decide) A9 j c9 _ rfl (own_below HO.out (((Below.refl _ wr).alloc (Nat.le_refl _) (.cells #[.bool false, .int .i64 0, .string ⟨#[]⟩] 41)).alloc (by simp) (.cells #[.bool false, .int .i64 0, .string ⟨#[]⟩] 41))) (some ⟨_, 0, none⟩) 1 1 (cls [(false, 0, ⟨#[]⟩)]) rfl (by exact reads_cellb _ _ (by simp) _ _ _) (cls_one _) hs1 hs2 (Nat.le_trans Hw1.out (by simp; omega)) ?_
                     intro A8 c8 w8 r1 r2 r3 r4 r5
                     rw [← cls_append] at r1
                     have R1 := Lib.hid r1
                     have R2 := Lib.hid r2
                     clear r1 r2 r3 r4 r5)
        have R1 := Lib.hid (show w8.ownsRow w1.heap.size 41 3 (.slice A8 (j + 1) c8) (j + 1) (cls ((bl.take (j + 1)).map boolC)) by rw [List.take_add_one, Hx.out, List.map_append]; exact R1.out)
        have HL := Lib.hid (((HL.out.alloc Hw1.out (.cells #[.bool false, .int .i64 0, .string ⟨#[]⟩] 41)).alloc (Nat.le_trans Hw1.out (by simp)) (.cells #[.bool false, .int .i64 0, .string ⟨#[]⟩] 41)).below R2.out)
        have HB := Lib.hid (((HB.out.alloc HB.out.size (.cells #[.bool false, .int .i64 0, .string ⟨#[]⟩] 41)).alloc (Nat.le_trans HB.out.size (by simp)) (.cells #[.bool false, .int .i64 0, .string ⟨#[]⟩] 41)).trans (R2.out.mono HB1w.out))
        have Hw1 := Lib.hid (show w1.heap.size ≤ w8.heap.size from Nat.le_trans (Nat.le_trans Hw1.out (by simp; omega)) R2.out.size)
        go_roundw
        case rel => exact ⟨j + 1, A8, c8, by omega, rfl, by go_num, fun h => absurd h (by omega), R1, HL, HB, Hw1⟩
        case measure => simp [intOf]; omega
      | true =>
        go_wp2_with (at_builtin
                     refine wpList_append_any _ rfl (.tmp 48) (.tmp 50) 25 rfl w1.heap.size 41 j0 (.agg #[.bool false, .int .i64 0, .string ⟨#[]⟩]) 3 32 Tryz.underlying25 hj0 hk0 hj1 hk2 rfl (by decide) A9 j c9 _ rfl (own_below HO.out (((Below.refl _ wr).alloc (Nat.le_refl _) (.cells #[.bool false, .int .i64 1, .string ⟨#[]⟩] 41)).alloc (by simp) (.cells #[.bool false, .int .i64 1, .string ⟨#[]⟩] 41))) (some ⟨_, 0, none⟩) 1 1 (cls [(false, 1, ⟨#[]⟩)]) rfl (by exact reads_cellb _ _ (by simp) _ _ _) (cls_one _) hs1 hs2 (Nat.le_trans Hw1.out (by simp; omega)) ?_
                     intro A8 c8 w8 r1 r2 r3 r4 r5
                     rw [← cls_append] at r1
                     have R1 := Lib.hid r1
                     have R2 := Lib.hid r2
                     clear r1 r2 r3 r4 r5)
        have R1 := Lib.hid (show w8.ownsRow w1.heap.size 41 3 (.slice A8 (j + 1) c8) (j + 1) (cls ((bl.take (j + 1)).map boolC)) by rw [List.take_add_one, Hx.out, List.map_append]; exact R1.out)
        have HL := Lib.hid (((HL.out.alloc Hw1.out (.cells #[.bool false, .int .i64 1, .string ⟨#[]⟩] 41)).alloc (Nat.le_trans Hw1.out (by simp)) (.cells #[.bool false, .int .i64 1, .string ⟨#[]⟩] 41)).below R2.out)
        have HB := Lib.hid (((HB.out.alloc HB.out.size (.cells #[.bool false, .int .i64 1, .string ⟨#[]⟩] 41)).alloc (Nat.le_trans HB.out.size (by simp)) (.cells #[.bool false, .int .i64 1, .string ⟨#[]⟩] 41)).trans (R2.out.mono HB1w.out))
        have Hw1 := Lib.hid (show w1.heap.size ≤ w8.heap.size from Nat.le_trans (Nat.le_trans Hw1.out (by simp; omega)) R2.out.size)
        go_roundw
        case rel => exact ⟨j + 1, A8, c8, by omega, rfl, by go_num, fun h => absurd h (by omega), R1, HL, HB, Hw1⟩
        case measure => simp [intOf]; omega
    · obtain rfl : j = bl.length := by omega
      go_wp2
      go_ret3
      rw [Hgb.out]
      by_cases he : er = 0
      · subst he
        have ho := HO.out
        rw [List.take_of_length_le (Nat.le_refl _)] at ho
        obtain ⟨p1, p2⟩ := own_caps ho
        simp only [if_true]
        refine ⟨HB.out, by simpa using hus, A9, c9, by simp only [List.length_map]; rfl, by simpa using p1, p2, ?_⟩
        simp only [List.length_map]
        exact own_mono ho (HB1w.out)
      · have hz2 := Hemp.out he
        obtain ⟨hb0, hs0⟩ := hz2
        subst hs0
        obtain ⟨h1, h2⟩ := hz (by rw [hb0]; rfl)
        subst h1 h2
        rw [if_neg he]
        refine ⟨HB.out, ?_, he⟩
        rw [hb0]
        rfl
set_option maxRecDepth 100000 in
set_option maxHeartbeats 2000000 in
theorem rsome4_any (B : Option Addr) (m cb : Nat) (xs : List UInt8) (n : Int) (w : World) (hr : Reads w w.heap.size 1 B m (u8s xs)) (hm : m ≤ cb) (hc : cb ≤ maxLen) (hn1 : -9223372036854775808 ≤ n) (hn2 : n ≤ 9223372036854775807) :
    Calls Tryz.prog 38 #[.slice B m cb, .int .i64 4, .int .i64 n] w (GotC3 (getB 4 xs n) w) := by
  obtain ⟨j0, hj0, hk0, hj1, hk2⟩ := info_parts cell_info
  have Hgb := Lib.hid (show getB 4 xs n = (match getDI xs n 1024 with
    | .ok (l, s) => if l.all (fun s => Lib.validD s.data.toList) = true then .ok (l.map txtC, s) else .error 90
    | .error e => .error e) by simp only [getB, show ¬ (4 : Int) = 1 by decide, if_false, if_true]; rfl)
  go_enter Tryz.func38, Tryz.ntmps38
  go_wp2_with fail
  with_reducible refine (refdget_any B m cb xs n 1024 _ hr hm hc hn1 hn2 (by decide)).mono ?_
  rintro e w1 ⟨q4, hm3⟩
  have HB := Lib.hid q4
  have HB1w := Lib.hid q4.size
  rcases hd : getDI xs n 1024 with er | ⟨bl, sz⟩
  · have he0 : er ≠ 0 := fun h => getDI_err0 _ _ _ (by rw [hd, h])
    rw [hd] at hm3
    simp only at hm3
    subst hm3
    have HE := Lib.hid (show getB 4 xs n = .error er by rw [Hgb.out, hd])
    clear hd q4
    go_wp2
    go_loopw [9, 18] (fun v i wr => v = .slice none 0 0 ∧ i = .int .i64 0 ∧ wr = w1) (fun _ _ _ => 0)
    case atStart => exact ⟨rfl, rfl, rfl⟩
    case round =>
      obtain ⟨rfl, rfl, rfl⟩ := hrel
      go_wp2
      go_ret3
      rw [HE.out]
      exact ⟨HB.out, rfl, he0⟩
  · have ho := getDI_only _ _ _ _ _ hd
    have hzs := getDI_sizes _ _ _ _ _ hd
    rw [hd] at hm3
    obtain ⟨AL, cL, rfl, q1, q2, q3⟩ := hm3
    have Hzs := Lib.hid hzs
    have hbl := ho.2.1
    have HE := Lib.hid (show getB 4 xs n = (if bl.all (fun s => Lib.validD s.data.toList) = true then .ok (bl.map txtC, sz) else .error 90) by rw [Hgb.out, hd])
    have HL := Lib.hid (Reads.of_own q3)
    clear hd ho hzs q1 q2 q3 q4
    go_wp2
    go_loopw [9, 18] (fun v i wr => ∃ (j : Nat) (A9 : Option Addr) (c9 : Nat), j ≤ bl.length ∧ v = .slice A9 j c9 ∧ i = .int .i64 (j : Int) ∧ Hid ((bl.take j).all (fun s => Lib.validD s.data.toList) = true) ∧ Hid (wr.ownsRow w1.heap.size 41 3 (.slice A9 j c9) j (cls ((bl.take j).map txtC))) ∧ Hid (Reads wr w1.heap.size 1 AL bl.length (txs bl)) ∧ Hid (Below w.heap.size w wr) ∧ Hid (w1.heap.size ≤ wr.heap.size)) (fun _ i _ => bl.length - (intOf i).toNat)
    case atStart => exact ⟨0, none, 0, Nat.zero_le _, rfl, rfl, Lib.hid rfl, Lib.hid (World.ownsRow_nil _ _ _ _), HL, HB, Lib.hid (Nat.le_refl _)⟩
    case round =>
      obtain ⟨j, A9, c9, hj, rfl, rfl, Hall, HO, HL, HB, Hw1⟩ := hrel
      by_cases hlt : j < bl.length
      · obtain ⟨ad, u, rfl, hbk, hu, hcell⟩ := HL.out.at_ hlt
        obtain ⟨s, hx, rfl⟩ := txs_get _ _ _ hu
        have Hx := Lib.hid hx
        have Hs := Lib.hid (Hzs.out s (List.mem_of_getElem? hx))
        have HbL := Lib.hid (show (ad.add j).block < w1.heap.size by rw [block_of_add]; exact hbk)
        have hs1 : j + 1 ≤ maxLen := by simp only [maxLen]; omega
        have hs2 : (j + 1) * 32 ≤ 70368744177664 := by omega
        clear hu hx hbk
        go_wp2_with fail
        with_reducible refine (uvalid_any s _ (by have := Hs.out; simp only [maxLen]; omega)).mono ?_
        rintro e w5 ⟨rfl, hb5⟩
        have hcell := (hb5.cell (p := ad.add j) (Nat.lt_of_lt_of_le HbL.out Hw1.out)).trans hcell
        have HO := Lib.hid (own_below HO.out hb5)
        have HL := Lib.hid (HL.out.below (hb5.mono Hw1.out))
        have HB := Lib.hid (HB.out.trans (hb5.mono HB.out.size))
        have Hw1 := Lib.hid (Nat.le_trans Hw1.out hb5.size)
        clear hb5
        cases hv : Lib.validD s.data.toList with
        | false =>
          have HE2 := Lib.hid (show bl.all (fun s => Lib.validD s.data.toList) = false by rw [List.all_eq_false]; exact ⟨s, List.mem_of_getElem? Hx.out, by simp [hv]⟩)
          clear hv
          go_wp2
          go_ret3
          rw [HE.out, HE2.out]
          exact ⟨HB.out, rfl, by decide⟩
        | true =>
          have Hall2 := Lib.hid (show (bl.take (j + 1)).all (fun s => Lib.validD s.data.toList) = true by rw [List.take_add_one, Hx.out]; simp only [Option.toList_some, List.all_append, Hall.out, Bool.true_and, List.all_cons, List.all_nil, hv, Bool.and_true])
          clear hv
          go_wp2_with (at_builtin
                       refine wpList_append_any _ rfl (.tmp 76) (.tmp 82) 25 rfl w1.heap.size 41 j0 (.agg #[.bool false, .int .i64 0, .string ⟨#[]⟩]) 3 32 Tryz.underlying25 hj0 hk0 hj1 hk2 rfl (by decide) A9 j c9 _ rfl (own_below HO.out ((Below.refl _ w5).alloc (Nat.le_refl _) (.cells #[.bool false, .int .i64 0, .string s] 41))) (some ⟨_, 0, none⟩) 1 1 (cls [(false, 0, s)]) rfl (by exact reads_cellb _ _ (by simp) _ _ _) (cls_one _) hs1 hs2 (Nat.le_trans Hw1.out (by simp)) ?_
                       intro A8 c8 w8 r1 r2 r3 r4 r5
                       rw [← cls_append] at r1
                       have R1 := Lib.hid r1
                       have R2 := Lib.hid r2
                       clear r1 r2 r3 r4 r5)
          have R1 := Lib.hid (show w8.ownsRow w1.heap.size 41 3 (.slice A8 (j + 1) c8) (j + 1) (cls ((bl.take (j + 1)).map txtC)) by rw [List.take_add_one, Hx.out, List.map_append]; exact R1.out)
          have HL := Lib.hid ((HL.out.alloc Hw1.out (.cells #[.bool false, .int .i64 0, .string s] 41)).below R2.out)
          have HB := Lib.hid ((HB.out.alloc HB.out.size (.cells #[.bool false, .int .i64 0, .string s] 41)).trans (R2.out.mono HB1w.out))
          have Hw1 := Lib.hid (show w1.heap.size ≤ w8.heap.size from Nat.le_trans (Nat.le_trans Hw1.out (by simp)) R2.out.size)
          go_roundw
          case rel => exact ⟨j + 1, A8, c8, by omega, rfl, by go_num, Hall2, R1, HL, HB, Hw1⟩
          case measure => simp [intOf]; omega
      · obtain rfl : j = bl.length := by omega
        go_wp2
        go_ret3
        rw [HE.out]
        have ho := HO.out
        have ha := Hall.out
        rw [List.take_of_length_le (Nat.le_refl _)] at ho ha
        obtain ⟨p1, p2⟩ := own_caps ho
        rw [if_pos ha]
        refine ⟨HB.out, by simpa using hbl, A9, c9, by simp only [List.length_map]; rfl, by simpa using p1, p2, ?_⟩
        simp only [List.length_map]
        exact own_mono ho HB1w.out
set_option maxRecDepth 100000 in
set_option maxHeartbeats 2000000 in
theorem rsomeI_any (k : Int) (hk : k = 2 ∨ k = 3) (B : Option Addr) (m cb : Nat) (xs : List UInt8) (N : Nat) (w : World) (hr : Reads w w.heap.size 1 B m (u8s xs)) (hm : m ≤ cb) (hc : cb ≤ maxLen) (hN : N ≤ 1048576) :
    Calls Tryz.prog 38 #[.slice B m cb, .int .i64 k, .int .i64 (N : Int)] w (GotC3 (iterC (stepI k xs) N) w) := by
  obtain ⟨j0, hj0, hk0, hj1, hk2⟩ := info_parts cell_info
  have hmk : mayK k = true := by rcases hk with rfl | rfl <;> rfl
  have hk1 : (k == 1) = false := by rcases hk with rfl | rfl <;> rfl
  have hk4 : (k == 4) = false := by rcases hk with rfl | rfl <;> rfl
  have hk5 : (k == 5) = false := by rcases hk with rfl | rfl <;> rfl
  have hk5' : (k != 5) = true := by rcases hk with rfl | rfl <;> rfl
  have Hr := Lib.hid hr
  have Hmx := Lib.hid hc
  have Hxl := Lib.hid (show xs.length = m from reads_len hr)
  clear hr hc
  go_enter Tryz.func38, Tryz.ntmps38
  go_wp2
  go_loopw [9, 19, 20] (fun v at_ i wr => ∃ (j : Nat) (lj : List Cl) (q : Nat) (A9 : Option Addr) (c9 : Nat), j ≤ N ∧ v = .slice A9 j c9 ∧ at_ = .int .i64 (q : Int) ∧ i = .int .i64 (j : Int) ∧ q ≤ m ∧ Hid (iterC (stepI k xs) j = .ok (lj, q)) ∧ Hid (lj.length = j) ∧ Hid (wr.ownsRow w.heap.size 41 3 (.slice A9 j c9) j (cls lj)) ∧ Hid (Below w.heap.size w wr)) (fun _ _ i _ => N - (intOf i).toNat)
  case atStart => exact ⟨0, [], 0, none, 0, Nat.zero_le _, rfl, rfl, rfl, Nat.zero_le _, Lib.hid rfl, Lib.hid rfl, Lib.hid (World.ownsRow_nil _ _ _ _), Lib.hid (Below.refl _ _)⟩
  case round =>
    obtain ⟨j, lj, q, A9, c9, hj, rfl, rfl, rfl, hqm, Hit, Hlj, HO, HB⟩ := hrel
    by_cases hlt : j < N
    · have hgs := get_size (xs.drop q)
      rw [List.length_drop, Hxl.out] at hgs
      have Hgs := Lib.hid hgs
      have hcut := ((Hr.out.below HB.out).more HB.out.size).cut (k := q) hqm hm
      rw [Nat.mul_one, u8s_drop] at hcut
      have hcm : cb ≤ 9223372036854775807 := by have := Hmx.out; simp only [maxLen] at this; omega
      obtain ⟨A2, hA2⟩ : ∃ A2, (if cb = q then B else Option.map (fun x => x.add q) B) = A2 := ⟨_, rfl⟩
      rw [hA2] at hcut
      have Hcut := Lib.hid hcut
      clear hgs hcut
      go_wp2_with fail
      with_reducible refine (refGetInt_any A2 (m - q) (cb - q) (xs.drop q) _ Hcut.out (by omega) (by have := Hmx.out; omega)).mono ?_
      rintro e w3 ⟨rfl, rfl⟩
      have hlt64 := get_lt (xs.drop q)
      generalize hget : get (xs.drop q) = r at Hgs hlt64 ⊢
      obtain ⟨rn, rk, re⟩ := r
      have Hget := Lib.hid hget
      have Hzb := Lib.hid (zag_bounds rn hlt64)
      clear hget hlt64 hA2
      simp only [gottenInt] at Hgs ⊢
      by_cases he : re = 0
      · subst he
        obtain ⟨q2, hq2⟩ : ∃ q2, q2 = q + rk := ⟨_, rfl⟩
        have hgs1 := Hgs.out.1
        have hq2m : q2 ≤ m := by omega
        have hsum : (q : Int) + (rk : Int) = (q2 : Int) := by omega
        have hmm : m ≤ 9223372036854775807 := by omega
        have Hq2 := Lib.hid hq2
        clear hq2 hgs1
        go_wp2_with fail
        with_reducible refine (rcheck_any3 k false false (zag rn) ⟨#[]⟩ _ ⟨Hzb.out.1, Hzb.out.2⟩).mono ?_
        rintro e w5 ⟨rfl, hb5⟩
        have HO := Lib.hid (own_below HO.out hb5)
        have HB := Lib.hid (HB.out.trans (hb5.mono HB.out.size))
        clear hb5
        have hE := checkE_is hmk false (zag rn) ⟨#[]⟩
        generalize checkE k false (false, zag rn, ⟨#[]⟩) = E0 at hE ⊢
        cases hI : isC k (false, zag rn, ⟨#[]⟩) with
        | false =>
          rw [hI] at hE
          simp only [Bool.false_eq_true, if_false] at hE
          subst hE
          have Hst := Lib.hid (iterC_err (iterC_next Hit.out (show stepI k xs (lj, q) = .error 90 by unfold stepI; simp only; rw [Hget.out]; simp only [if_true]; rw [if_neg (by unfold intC; rw [hI]; simp)])) (show j + 1 ≤ N by omega))
          clear hI
          go_wp2
          go_ret3
          rw [Hst.out]
          exact ⟨HB.out, rfl, by decide⟩
        | true =>
          rw [hI] at hE
          simp only [if_true] at hE
          subst hE
          have Hit2 := Lib.hid (iterC_next Hit.out (show stepI k xs (lj, q) = .ok (lj ++ [intC (zag rn)], q2) by unfold stepI; simp only; rw [Hget.out]; simp only [if_true]; rw [if_pos (by unfold intC; rw [hI]), Hq2.out]))
          have hs1 : j + 1 ≤ maxLen := by simp only [maxLen]; omega
          have hs2 : (j + 1) * 32 ≤ 70368744177664 := by omega
          clear hI
          go_wp2_with (at_builtin
                       refine wpList_append_any _ rfl (.tmp 114) (.tmp 117) 25 rfl w.heap.size 41 j0 (.agg #[.bool false, .int .i64 0, .string ⟨#[]⟩]) 3 32 Tryz.underlying25 hj0 hk0 hj1 hk2 rfl (by decide) A9 j c9 _ rfl (own_below HO.out ((Below.refl _ w5).alloc (Nat.le_refl _) (.cells #[.bool false, .int .i64 (zag rn), .string ⟨#[]⟩] 41))) (some ⟨_, 0, none⟩) 1 1 (cls [(false, (zag rn), ⟨#[]⟩)]) rfl (by exact reads_cellb _ _ (by simp) _ _ _) (cls_one _) hs1 hs2 (Nat.le_trans HB.out.size (by simp)) ?_
                       intro A8 c8 w8 r1 r2 r3 r4 r5
                       rw [← cls_append] at r1
                       have R1 := Lib.hid r1
                       have R2 := Lib.hid r2
                       clear r1 r2 r3 r4 r5)
          have HB := Lib.hid ((HB.out.alloc HB.out.size (.cells #[.bool false, .int .i64 (zag rn), .string ⟨#[]⟩] 41)).trans R2.out)
          go_roundw
          case rel => exact ⟨j + 1, lj ++ [intC (zag rn)], q2, A8, c8, by omega, rfl, rfl, by go_num, hq2m, Hit2, Lib.hid (by simp [Hlj.out]), R1, HB⟩
          case measure => simp [intOf]; omega
      · have hne : ((re : Int) == 0) = false := by simp; omega
        have hne2 : ((re : Int) != 0) = true := by simp; omega
        have Hst := Lib.hid (iterC_err (iterC_next Hit.out (show stepI k xs (lj, q) = .error re by unfold stepI; simp only; rw [Hget.out]; simp only; rw [if_neg he])) (show j + 1 ≤ N by omega))
        go_wp2
        go_ret3
        rw [Hst.out]
        exact ⟨HB.out, rfl, he⟩
    · obtain rfl : j = N := by omega
      go_wp2
      go_ret3
      rw [Hit.out]
      obtain ⟨q1, q2⟩ := own_caps HO.out
      have hl := Hlj.out
      refine ⟨HB.out, by rw [hl]; exact hN, A9, c9, by rw [hl]; rfl, by rw [hl]; exact q1, q2, by rw [hl]; exact HO.out⟩
set_option maxRecDepth 100000 in
set_option maxHeartbeats 2000000 in
theorem rsome5_any (B : Option Addr) (m cb : Nat) (xs : List UInt8) (N : Nat) (w : World) (hr : Reads w w.heap.size 1 B m (u8s xs)) (hm : m ≤ cb) (hc : cb ≤ maxLen) (hN : N ≤ 1048576) :
    Calls Tryz.prog 38 #[.slice B m cb, .int .i64 5, .int .i64 (N : Int)] w (GotC3 (iterC (stepR xs) N) w) := by
  obtain ⟨j0, hj0, hk0, hj1, hk2⟩ := info_parts cell_info
  have Hr := Lib.hid hr
  have Hmx := Lib.hid hc
  have Hxl := Lib.hid (show xs.length = m from reads_len hr)
  clear hr hc
  go_enter Tryz.func38, Tryz.ntmps38
  go_wp2
  go_loopw [9, 19, 20] (fun v at_ i wr => ∃ (j : Nat) (lj : List Cl) (q : Nat) (A9 : Option Addr) (c9 : Nat), j ≤ N ∧ v = .slice A9 j c9 ∧ at_ = .int .i64 (q : Int) ∧ i = .int .i64 (j : Int) ∧ q ≤ m ∧ Hid (iterC (stepR xs) j = .ok (lj, q)) ∧ Hid (lj.length = j) ∧ Hid (wr.ownsRow w.heap.size 41 3 (.slice A9 j c9) j (cls lj)) ∧ Hid (Below w.heap.size w wr)) (fun _ _ i _ => N - (intOf i).toNat)
  case atStart => exact ⟨0, [], 0, none, 0, Nat.zero_le _, rfl, rfl, rfl, Nat.zero_le _, Lib.hid rfl, Lib.hid rfl, Lib.hid (World.ownsRow_nil _ _ _ _), Lib.hid (Below.refl _ _)⟩
  case round =>
    obtain ⟨j, lj, q, A9, c9, hj, rfl, rfl, rfl, hqm, Hit, Hlj, HO, HB⟩ := hrel
    by_cases hlt : j < N
    · have hgs := get_size (xs.drop q)
      rw [List.length_drop, Hxl.out] at hgs
      have Hgs := Lib.hid hgs
      have hcut := ((Hr.out.below HB.out).more HB.out.size).cut (k := q) hqm hm
      rw [Nat.mul_one, u8s_drop] at hcut
      have hcm : cb ≤ 9223372036854775807 := by have := Hmx.out; simp only [maxLen] at this; omega
      obtain ⟨A2, hA2⟩ : ∃ A2, (if cb = q then B else Option.map (fun x => x.add q) B) = A2 := ⟨_, rfl⟩
      rw [hA2] at hcut
      have Hcut := Lib.hid hcut
      clear hgs hcut
      go_wp2_with fail
      with_reducible refine (refGet_any A2 (m - q) (cb - q) (xs.drop q) _ Hcut.out (by omega) (by have := Hmx.out; omega)).mono ?_
      rintro e w3 ⟨rfl, rfl⟩
      generalize hget : get (xs.drop q) = r at Hgs ⊢
      obtain ⟨rn, rk, re⟩ := r
      have Hget := Lib.hid hget
      clear hget hA2
      simp only [gotten] at Hgs ⊢
      by_cases he : re = 0
      · subst he
        obtain ⟨q2, hq2⟩ : ∃ q2, q2 = q + rk := ⟨_, rfl⟩
        have hgs1 := Hgs.out.1
        have hq2m : q2 ≤ m := by omega
        have hsum : (q : Int) + (rk : Int) = (q2 : Int) := by omega
        have hmm : m ≤ 9223372036854775807 := by omega
        have Hq2 := Lib.hid hq2
        clear hq2 hgs1
        by_cases hbig : 1024 < rn
        · have d5 : decide ((1024 : Int) < (rn : Int)) = true := by simp; omega
          have Hst := Lib.hid (iterC_err (iterC_next Hit.out (show stepR xs (lj, q) = .error 5 by unfold stepR; simp only; rw [Hget.out]; simp only [if_true]; rw [if_pos hbig])) (show j + 1 ≤ N by omega))
          go_wp2
          go_ret3
          rw [Hst.out]
          exact ⟨HB.out, rfl, by decide⟩
        · have d5 : decide ((1024 : Int) < (rn : Int)) = false := by simp; omega
          have Hbig := Lib.hid hbig
          have hrn : rn ≤ 1024 := by omega
          by_cases hsh : m - q2 < rn
          · have d6 : decide ((m : Int) - (q2 : Int) < (rn : Int)) = true := by simp; omega
            have Hst := Lib.hid (iterC_err (iterC_next Hit.out (show stepR xs (lj, q) = .error 3 by
              unfold stepR; simp only; rw [Hget.out]; simp only [if_true]
              rw [if_neg Hbig.out, if_pos (by rw [Hxl.out]; have := Hq2.out; omega)])) (show j + 1 ≤ N by omega))
            go_wp2
            go_ret3
            rw [Hst.out]
            exact ⟨HB.out, rfl, by decide⟩
          · have d6 : decide ((m : Int) - (q2 : Int) < (rn : Int)) = false := by simp; omega
            obtain ⟨q3, hq3⟩ : ∃ q3, q3 = q2 + rn := ⟨_, rfl⟩
            have hq3m : q3 ≤ m := by omega
            have hsum3 : (q2 : Int) + (rn : Int) = (q3 : Int) := by omega
            have Hit2 := Lib.hid (iterC_next Hit.out (show stepR xs (lj, q) = .ok (lj ++ [txtC (txt ((xs.drop q2).take (q3 - q2)))], q3) by
              unfold stepR; simp only; rw [Hget.out]; simp only [if_true]
              rw [if_neg Hbig.out, if_neg (by rw [Hxl.out]; have := Hq2.out; omega), ← Hq2.out, ← hq3, show q3 - q2 = rn by omega]))
            have hcut2 := ((Hr.out.below HB.out).more HB.out.size).cut (k := q2) hq2m hm
            rw [Nat.mul_one, u8s_drop] at hcut2
            have hcut3 := hcut2.head (k := q3 - q2) (by omega)
            rw [Nat.mul_one, u8s_take] at hcut3
            obtain ⟨A4, hA4⟩ : ∃ A4, (if cb = q2 then B else Option.map (fun x => x.add q2) B) = A4 := ⟨_, rfl⟩
            rw [hA4] at hcut3
            have hCV := run_bytes_string (P := Tryz.prog) wr 22 9 5 Tryz.underlying22 Tryz.underlying5 Tryz.underlying9 _ A4 (q3 - q2) (cb - q2) _ hcut3
            have hs1 : j + 1 ≤ maxLen := by simp only [maxLen]; omega
            have hs2 : (j + 1) * 32 ≤ 70368744177664 := by omega
            have hq32 : q2 ≤ q3 := by omega
            have hq3c : q3 ≤ cb := by omega
            have hsl : (txt ((xs.drop q2).take (q3 - q2)) : ByteArray) = ⟨((xs.drop q2).take (q3 - q2)).toArray⟩ := rfl
            rw [← hsl] at hCV
            clear hcut2 hcut3 hq3 hbig hsh hsl
            generalize txt ((xs.drop q2).take (q3 - q2)) = s at Hit2 hCV
            go_wp2_with (at_builtin
                         refine wpList_append_any _ rfl (.tmp 142) (.tmp 152) 25 rfl w.heap.size 41 j0 (.agg #[.bool false, .int .i64 0, .string ⟨#[]⟩]) 3 32 Tryz.underlying25 hj0 hk0 hj1 hk2 rfl (by decide) A9 j c9 _ rfl (own_below HO.out ((Below.refl _ wr).alloc (Nat.le_refl _) (.cells #[.bool false, .int .i64 0, .string s] 41))) (some ⟨_, 0, none⟩) 1 1 (cls [(false, 0, s)]) rfl (by exact reads_cellb _ _ (by simp) _ _ _) (cls_one _) hs1 hs2 (Nat.le_trans HB.out.size (by simp)) ?_
                         intro A8 c8 w8 r1 r2 r3 r4 r5
                         rw [← cls_append] at r1
                         have R1 := Lib.hid r1
                         have R2 := Lib.hid r2
                         clear r1 r2 r3 r4 r5)
            have HB := Lib.hid ((HB.out.alloc HB.out.size (.cells #[.bool false, .int .i64 0, .string s] 41)).trans R2.out)
            go_roundw
            case rel => exact ⟨j + 1, lj ++ [txtC s], q3, A8, c8, by omega, rfl, by go_num, by go_num, hq3m, Hit2, Lib.hid (by simp [Hlj.out]), R1, HB⟩
            case measure => simp [intOf]; omega
      · have hne : ((re : Int) == 0) = false := by simp; omega
        have hne2 : ((re : Int) != 0) = true := by simp; omega
        have Hst := Lib.hid (iterC_err (iterC_next Hit.out (show stepR xs (lj, q) = .error re by unfold stepR; simp only; rw [Hget.out]; simp only; rw [if_neg he])) (show j + 1 ≤ N by omega))
        go_wp2
        go_ret3
        rw [Hst.out]
        exact ⟨HB.out, rfl, he⟩
    · obtain rfl : j = N := by omega
      go_wp2
      go_ret3
      rw [Hit.out]
      obtain ⟨q1, q2⟩ := own_caps HO.out
      have hl := Hlj.out
      refine ⟨HB.out, by rw [hl]; exact hN, A9, c9, by rw [hl]; rfl, by rw [hl]; exact q1, q2, by rw [hl]; exact HO.out⟩
theorem rsome_any (k : Int) (B : Option Addr) (m cb : Nat) (xs : List UInt8) (N : Nat) (w : World) (hr : Reads w w.heap.size 1 B m (u8s xs)) (hm : m ≤ cb) (hc : cb ≤ maxLen) (hN : N ≤ 1048576) (h1 : 1 ≤ k) (h5 : k ≤ 5) :
    Calls Tryz.prog 38 #[.slice B m cb, .int .i64 k, .int .i64 (N : Int)] w (GotC3 (getB k xs (N : Int)) w) := by
  rcases (show k = 1 ∨ k = 2 ∨ k = 3 ∨ k = 4 ∨ k = 5 by omega) with rfl | rfl | rfl | rfl | rfl
  · exact rsome1_any B m cb xs N w hr hm hc (by omega) (by omega)
  · have e : getB 2 xs (N : Int) = iterC (stepI 2 xs) N := by simp only [getB, show ¬ (2 : Int) = 1 by decide, show ¬ (2 : Int) = 4 by decide, show ¬ (2 : Int) = 5 by decide, if_false, Int.toNat_natCast]
    rw [e]
    exact rsomeI_any 2 (.inl rfl) B m cb xs N w hr hm hc hN
  · have e : getB 3 xs (N : Int) = iterC (stepI 3 xs) N := by simp only [getB, show ¬ (3 : Int) = 1 by decide, show ¬ (3 : Int) = 4 by decide, show ¬ (3 : Int) = 5 by decide, if_false, Int.toNat_natCast]
    rw [e]
    exact rsomeI_any 3 (.inr rfl) B m cb xs N w hr hm hc hN
  · exact rsome4_any B m cb xs N w hr hm hc (by omega) (by omega)
  · have e : getB 5 xs (N : Int) = iterC (stepR xs) N := by simp only [getB, show ¬ (5 : Int) = 1 by decide, show ¬ (5 : Int) = 4 by decide, if_true, if_false, Int.toNat_natCast]
    rw [e]
    exact rsome5_any B m cb xs N w hr hm hc hN
end Go.Proofs.YtfgpbnfobpfacaaGreatDoor
