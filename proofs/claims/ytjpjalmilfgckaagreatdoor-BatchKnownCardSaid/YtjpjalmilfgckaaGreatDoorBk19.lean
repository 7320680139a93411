/- Part 19 of the walks, merged: each text under its own heading. Conditions: none of its own; each lemma states what it asks. -/
import Derived.Test.YtjpjalmilfgckaaGreatDoorBk16
import Derived.Test.YtjpjalmilfgckaaGreatDoorBk17
import Derived.Test.YtjpjalmilfgckaaGreatDoorBk18
set_option linter.unusedVariables false
set_option linter.unusedSimpArgs false
namespace Go.Proofs.YtjpjalmilfgckaaGreatDoor
open Go.RowKit
theorem bareB_le (k : Int) (l : List Cl) (hsz : ∀ c ∈ l, c.2.2.size ≤ 1024) : (bareB k l).length ≤ 10 + 1044 * l.length := by
 unfold bareB
 split
 ·have := packL_le (l.map fun c => c.2.1 == 1)
  rw [List.length_map] at this
  omega
 ·split
  ·have := putD_le (l.map fun c => c.2.2) (by intro s hs; obtain ⟨c, hc, rfl⟩ := List.mem_map.1 hs; exact hsz c hc)
   rw [List.length_map] at this
   exact this
  ·split
   ·have : ∀ t : List Cl, (∀ c ∈ t, c.2.2.size ≤ 1024) → (rawsB t).length ≤ 1034 * t.length := by
     intro t
     induction t with
     | nil => intro _; simp [rawsB]
     | cons c t ih =>
      intro ht
      have h2 := ih (fun x hx => ht x (by simp [hx]))
      have h3 := ht c (by simp)
      have h4 := leb_le c.2.2.size
      have h5 : c.2.2.data.toList.length = c.2.2.size := Array.length_toList
      unfold rawsB at h2 ⊢
      rw [List.flatMap_cons, List.length_append, List.length_append, List.length_cons]
      omega
    have := this l hsz
    omega
   ·have : ∀ t : List Cl, (intsB t).length ≤ 10 * t.length := by
     intro t
     induction t with
     | nil => simp [intsB]
     | cons c t ih =>
      have h4 := leb_le (zig c.2.1)
      unfold intsB at ih ⊢
      rw [List.flatMap_cons, List.length_append, List.length_cons]
      omega
    have := this l
    omega
theorem rcheck_any3 (k : Int) (nl u : Bool) (x : Int) (s : ByteArray) (w : World) (hn : K9 x) : Calls Tryz.prog 147 #[.agg #[.int .i64 k, .bool nl], .agg #[.bool u, .int .i64 x, .string s]] w fun e w' => e = .returned (.int .i64 (checkE k nl (u, x, s))) ∧ Below w.heap.size w w' := rcheck_any k nl (u, x, s) w hn
set_option maxRecDepth 100000 in
set_option maxHeartbeats 2000000 in
theorem rput_any (A : Option Addr) (n c : Nat) (xs : List UInt8) (k : Int) (nl : Bool) (B : Option Addr) (m cB : Nat) (l : List Cl) (w : World) (hr : Reads w w.heap.size 1 A n (u8s xs)) (hn : n ≤ 274877906944)
  (hr2 : Reads w w.heap.size 3 B m (cls l)) (hm : m ≤ 1048576) (hok : ClOk l) :
  Calls Tryz.prog 87 #[.slice A n c, .agg #[.int .i64 k, .bool nl], .slice B m cB] w fun e w' => ∃ A' n' c', e = .returned (.tuple #[.slice A' n' c', .int .i64 (putE k nl l)]) ∧ n' ≤ c' ∧ c' ≤ maxLen ∧
   w'.ownsRow w.heap.size 5 1 (.slice A' n' c') n' (u8s (putO k nl l xs)) ∧ Below w.heap.size w w' := by
 obtain ⟨i0, hi0, hz0, hz1, hz2⟩ := info_parts u8_info
 obtain ⟨b0, hb0, hb1, hb2, hb3⟩ := info_parts bool_info
 obtain ⟨j0, hj0, hk0, hj1, hk2⟩ := info_parts cell_info
 have Hr := Lib.hid hr
 have Hr2 := Lib.hid hr2
 have Hok := Lib.hid hok
 have Hm := Lib.hid hm
 have Hn := Lib.hid hn
 have Hln := Lib.hid (cls_len hr2)
 have Hxl := Lib.hid (show xs.length = n from reads_len hr)
 have B4 := Lib.hid (Blk.new w 43 #[.int .i64 k, .bool nl])
 clear hr hr2 hok
 go_enter Tryz.func87, Tryz.ntmps87
 go_wp2_with fail
 with_reducible refine (rmay_any k nl _).mono ?_
 rintro e w1 ⟨rfl, hb1⟩
 have HB := Lib.hid (bon ((Below.refl _ w).alloc (Nat.le_refl _) (.cells #[.int .i64 k, .bool nl] 43)) hb1)
 replace B4 := Lib.hid (B4.out.on hb1)
 clear hb1
 cases hmk : mayK k with
 | false =>
  go_wp2
  go_ret2
  exact ⟨none, 0, 0, by simp [putE, hmk], Nat.le_refl _, by decide, by rw [show putO k nl l xs = [] by simp [putO, putE, hmk]]; exact World.ownsRow_nil _ _ _ _, HB.out⟩
 | true =>
  obtain ⟨hk1, hk5⟩ : 1 ≤ k ∧ k ≤ 5 := by simpa [mayK] using hmk
  go_wp2
  go_loopw [8, 9, 10] (fun v8 v9 i wr => ∃ (j : Nat) (A8 : Option Addr) (c8 : Nat) (A9 : Option Addr) (n9 c9 : Nat), j ≤ m ∧ v8 = .slice A8 j c8 ∧ v9 = .slice A9 n9 c9 ∧ i = .int .i64 (j : Int) ∧ n9 ≤ j ∧ Hid (allC k nl (l.take j) = true) ∧
   Hid (wr.ownsRow w.heap.size 4 1 (.slice A8 j c8) j (bls ((l.take j).map fun c => !c.1))) ∧ Hid (wr.ownsRow w.heap.size 23 3 (.slice A9 n9 c9) n9 (cls (someC (l.take j)))) ∧ Hid (Blk wr w.heap.size 43 #[.int .i64 k, .bool nl]) ∧ Hid (Below w.heap.size w wr)) (fun _ _ i _ => m - (intOf i).toNat)
  case atStart => exact ⟨0, none, 0, none, 0, 0, Nat.zero_le _, rfl, rfl, rfl, Nat.le_refl _, Lib.hid rfl, Lib.hid (World.ownsRow_nil _ _ _ _), Lib.hid (World.ownsRow_nil _ _ _ _), B4, HB⟩
  case round =>
   obtain ⟨j, A8, c8, A9, n9, c9, hj, rfl, rfl, rfl, hn9, hall, HO8, HO9, B4, HB⟩ := hrel
   by_cases hlt : j < m
   ·obtain ⟨ad, u, x, s, rfl, hbk, hx, h0, h1, h2⟩ := cls_at Hr2.out hlt
    have Hx := Lib.hid hx
    have hbk2 : (ad.add (j * 3)).block < w.heap.size := by rw [block_of_add]; exact hbk
    have HY0 := Lib.hid (show ∀ w', Below w.heap.size w w' → w'.cell? (ad.add (j * 3)) = some (.bool u) from fun w' h => (h.cell (p := ad.add (j * 3)) hbk2).trans h0)
    have HY1 := Lib.hid (show ∀ w', Below w.heap.size w w' → w'.cell? ⟨(ad.add (j * 3)).block, (ad.add (j * 3)).off + 1, none⟩ = some (.int .i64 x) from fun w' h => (h.cell (p := ⟨(ad.add (j * 3)).block, (ad.add (j * 3)).off + 1, none⟩) hbk2).trans h1)
    have HY2 := Lib.hid (show ∀ w', Below w.heap.size w w' → w'.cell? ⟨(ad.add (j * 3)).block, (ad.add (j * 3)).off + 2, none⟩ = some (.string s) from fun w' h => (h.cell (p := ⟨(ad.add (j * 3)).block, (ad.add (j * 3)).off + 2, none⟩) hbk2).trans h2)
    have Hok1 := Lib.hid (Hok.out _ (List.mem_of_getElem? hx))
    have Hmp := Lib.hid (show (l.take (j + 1)).map (fun c => !c.1) = (l.take j).map (fun c => !c.1) ++ [!u] by rw [List.take_add_one, hx]; simp)
    have Hstep := Lib.hid (someC_step hx)
    have hm2 := Hm.out
    have hs1 : j + 1 ≤ maxLen := by simp only [maxLen]; omega
    have hs2 : (j + 1) * 1 ≤ 70368744177664 := by omega
    have hs3 : n9 + 1 ≤ maxLen := by simp only [maxLen]; omega
    have hs4 : (n9 + 1) * 32 ≤ 70368744177664 := by omega
    clear hx hbk hbk2 h0 h1 h2
    go_wp2
    have HT0 := Lib.hid (show ∀ w', Below wr.heap.size wr w' → w'.cell? ⟨w.heap.size, 0, none⟩ = some (.int .i64 k) from fun w' h => (B4.out.on h).cell 0)
    have HT1 := Lib.hid (show ∀ w', Below wr.heap.size wr w' → w'.cell? ⟨w.heap.size, 1, none⟩ = some (.bool nl) from fun w' h => (B4.out.on h).cell 1)
    have HZ0 := Lib.hid (show ∀ w', Below wr.heap.size wr w' → w'.cell? (ad.add (j * 3)) = some (.bool u) from fun w' h => HY0.out w' (HB.out.trans (h.mono HB.out.size)))
    have HZ1 := Lib.hid (show ∀ w', Below wr.heap.size wr w' → w'.cell? ⟨(ad.add (j * 3)).block, (ad.add (j * 3)).off + 1, none⟩ = some (.int .i64 x) from fun w' h => HY1.out w' (HB.out.trans (h.mono HB.out.size)))
    have HZ2 := Lib.hid (show ∀ w', Below wr.heap.size wr w' → w'.cell? ⟨(ad.add (j * 3)).block, (ad.add (j * 3)).off + 2, none⟩ = some (.string s) from fun w' h => HY2.out w' (HB.out.trans (h.mono HB.out.size)))
    have hS : Below wr.heap.size wr wr.drew := (Below.refl _ _).drew
    have hjm : (j : Int) < (m : Int) := by omega
    refine wp_region_keep (fun w' => Below wr.heap.size wr w') [(0, false), (1, false), (2, false), (3, false), (4, false), (5, true), (6, false)] (by kernel_rfl) (by kernel_rfl) (by kernel_rfl) (fun d _ _ _ _ h => by cases d <;> exact h) ?_
    refine held_pure (v := ?_) rfl rfl (by simp [Region.wanted, yielded]) hS ?_ ?_
    rotate_left
    ·intro w hw; have c0 := HT0.out w hw; have c1 := HT1.out w hw; clear hw; go_simp; try with_reducible rfl
    try simp only [Act.put, zpA, zpB, zpC]
    iterate 3
     refine held_pure (v := ?_) rfl rfl (by simp [Region.wanted, yielded]) hS ?_ ?_
     rotate_left
     ·intro w hw; go_simp; try with_reducible rfl
     try simp only [Act.put, zpA, zpB, zpC]
    refine held_pure (v := ?_) rfl rfl (by simp [Region.wanted, yielded]) hS ?_ ?_
    rotate_left
    ·intro w hw; have c0 := HZ0.out w hw; have c1 := HZ1.out w hw; have c2 := HZ2.out w hw; clear hw; go_simp; try with_reducible rfl
    try simp only [Act.put, zpA, zpB, zpC]
    refine held_eff1 rfl (by simp [Region.wanted, yielded]) fun K hK => ?_
    go_simp
    with_reducible refine (rcheck_any3 k nl u x s _ ⟨Hok1.out.1, Hok1.out.2.1⟩).mono ?_
    rintro e w5 ⟨rfl, hb5⟩
    refine held_go hK (by exact bon hS hb5) fun hS => ?_
    clear hK K
    try simp only [Act.put, zpA, zpB, zpC]
    clear hb5
    refine held_pure (v := ?_) rfl rfl (by simp [Region.wanted, yielded]) hS ?_ ?_
    rotate_left
    ·intro w hw; go_simp; try with_reducible rfl
    try simp only [Act.put, zpA, zpB, zpC]
    refine held_end ?_
    have HO8 := Lib.hid (own_below HO8.out hS)
    have HO9 := Lib.hid (own_below HO9.out hS)
    have B4 := Lib.hid (B4.out.on hS)
    have HB := Lib.hid (HB.out.trans (hS.mono HB.out.size))
    clear hS HT0 HT1 HZ0 HZ1 HZ2 hjm
    rcases checkE_two k nl (u, x, s) hmk with h0 | h0
    ·have hall2 := Lib.hid (allC_step hall.out Hx.out h0)
     generalize checkE k nl (u, x, s) = E0 at h0
     subst h0
     have y0 := HY0.out _ HB.out
     cases u with
     | true =>
      have Hstep := Lib.hid (show someC (l.take (j + 1)) = someC (l.take j) by rw [Hstep.out]; rfl)
      go_wp2_with (at_builtin
                   (refine wpList_append_any _ rfl (.tmp 28) (.tmp 35) 145 rfl w.heap.size 4 b0 (.bool false) 1 1 Tryz.underlying145 hb0 hb1 hb2 hb3 rfl (by decide) A8 j c8 _ rfl (HO8.out.alloc _) (some ⟨_, 0, none⟩) 1 1 [.bool false] rfl (reads_new _ _ _) (one_bool _) hs1 hs2 (Nat.le_trans HB.out.size (by simp)) ?_
                    intro A1 c1 w8 r1 r2 r3 r4 r5
                    have hB8 := Lib.hid ((HB.out.alloc HB.out.size (.cells #[.bool false] 4)).trans r2)
                    have hO9 := Lib.hid (own_apart (HO9.out.alloc (.cells #[.bool false] 4)) (HO8.out.alloc (.cells #[.bool false] 4)) (by decide) r3)
                    have hO8 := Lib.hid r1
                    have h4 := Lib.hid ((B4.out.alloc (.cells #[.bool false] 4)).apart (HO8.out.alloc (.cells #[.bool false] 4)) (by decide) r3)
                    have y0 := HY0.out _ hB8.out
                    have y1 := HY1.out _ hB8.out
                    have y2 := HY2.out _ hB8.out
                    clear r1 r2 r3 r4 r5))
      have hO8 := Lib.hid (show w8.ownsRow w.heap.size 4 1 (.slice A1 (j + 1) c1) (j + 1) (bls ((l.take (j + 1)).map fun c => !c.1)) by rw [Hmp.out, bls_append]; exact hO8.out)
      go_roundw
      case rel => exact ⟨j + 1, A1, c1, A9, n9, c9, by omega, rfl, rfl, by go_num, by omega, hall2, hO8, by rw [Hstep.out]; exact hO9, h4, hB8⟩
      case measure => simp [intOf]; omega
     | false =>
      have Hstep := Lib.hid (show someC (l.take (j + 1)) = someC (l.take j) ++ [(false, x, s)] by rw [Hstep.out]; rfl)
      go_wp2_with (at_builtin
                   first
                   | (refine wpList_append_any _ rfl (.tmp 28) (.tmp 35) 145 rfl w.heap.size 4 b0 (.bool false) 1 1 Tryz.underlying145 hb0 hb1 hb2 hb3 rfl (by decide) A8 j c8 _ rfl (HO8.out.alloc _) (some ⟨_, 0, none⟩) 1 1 [.bool true] rfl (reads_new _ _ _) (one_bool _) hs1 hs2 (Nat.le_trans HB.out.size (by simp)) ?_
                      intro A1 c1 w8 r1 r2 r3 r4 r5
                      have hB8 := Lib.hid ((HB.out.alloc HB.out.size (.cells #[.bool true] 4)).trans r2)
                      have hO9 := Lib.hid (own_apart (HO9.out.alloc (.cells #[.bool true] 4)) (HO8.out.alloc (.cells #[.bool true] 4)) (by decide) r3)
                      have hO8 := Lib.hid r1
                      have h4 := Lib.hid ((B4.out.alloc (.cells #[.bool true] 4)).apart (HO8.out.alloc (.cells #[.bool true] 4)) (by decide) r3)
                      have y0 := HY0.out _ hB8.out
                      have y1 := HY1.out _ hB8.out
                      have y2 := HY2.out _ hB8.out
                      clear r1 r2 r3 r4 r5)
                   | (refine wpList_append_any _ rfl (.tmp 43) (.tmp 48) 24 rfl w.heap.size 23 j0 (.agg #[.bool false, .int .i64 0, .string ⟨#[]⟩]) 3 32 Tryz.underlying24 hj0 hk0 hj1 hk2 rfl (by decide) A9 n9 c9 _ rfl (hO9.out.alloc _) (some ⟨_, 0, none⟩) 1 1 (cls [(false, x, s)]) rfl (reads_cell _ _ _ _) (cls_one _) hs3 hs4 (Nat.le_trans hB8.out.size (by simp)) ?_
                      intro A2 c2 w9 r1 r2 r3 r4 r5
                      rw [← cls_append] at r1
                      have hB9 := Lib.hid ((hB8.out.alloc hB8.out.size (.cells #[.bool false, .int .i64 x, .string s] 23)).trans r2)
                      have hP8 := Lib.hid (own_apart (hO8.out.alloc (.cells #[.bool false, .int .i64 x, .string s] 23)) (hO9.out.alloc (.cells #[.bool false, .int .i64 x, .string s] 23)) (by decide) r3)
                      have h5 := Lib.hid ((h4.out.alloc (.cells #[.bool false, .int .i64 x, .string s] 23)).apart (hO9.out.alloc (.cells #[.bool false, .int .i64 x, .string s] 23)) (by decide) r3)
                      have hP9 := Lib.hid r1
                      clear r1 r2 r3 r4 r5))
      have hP8 := Lib.hid (show w9.ownsRow w.heap.size 4 1 (.slice A1 (j + 1) c1) (j + 1) (bls ((l.take (j + 1)).map fun c => !c.1)) by rw [Hmp.out, bls_append]; exact hP8.out)
      go_roundw
      case rel => exact ⟨j + 1, A1, c1, A2, n9 + 1, c2, by omega, rfl, rfl, by go_num, by omega, hall2, hP8, by rw [Hstep.out]; exact hP9, h5, hB9⟩
      case measure => simp [intOf]; omega
    ·have hall2 := Lib.hid (allC_bad Hx.out h0)
     generalize checkE k nl (u, x, s) = E0 at h0
     subst h0
     go_wp2
     go_ret2
     exact ⟨none, 0, 0, by simp [putE, hmk, hall2.out], Nat.le_refl _, by decide, by rw [show putO k nl l xs = [] by simp [putO, putE, hmk, hall2.out]]; exact World.ownsRow_nil _ _ _ _, HB.out⟩
   ·obtain rfl : j = m := by omega
    have hmap : l.take j = l := List.take_of_length_le (by rw [Hln.out]; exact Nat.le_refl _)
    rw [hmap] at hall HO8 HO9
    have HE := Lib.hid (show putE k nl l = 0 by simp [putE, hmk, hall.out])
    have HsZ := Lib.hid (some_sizes hmk hall.out)
    have HsO := Lib.hid (show ClOk (someC l) from fun c hc => Hok.out c (List.mem_filter.1 hc).1)
    have Hn9 := Lib.hid (show n9 ≤ 1048576 by have := Hm.out; omega)
    have Hbl := Lib.hid (show n + (packL (l.map fun c => !c.1)).length + (bareB k (someC l)).length ≤ 274877906944 + 2200000000 by
     have h1 := packL_le (l.map fun c => !c.1)
     have h2 := bareB_le k (someC l) HsZ.out
     have h3 := someC_le l
     rw [List.length_map, Hln.out] at h1
     rw [Hln.out] at h3
     have := Hm.out
     have := Hn.out
     omega)
    obtain ⟨q3, q4⟩ := own_caps HO8.out
    have Q8 := Lib.hid (And.intro q3 q4)
    clear hmap hlt q3 q4
    go_wp2_with fail
    with_reducible refine (copyBytes_any A n c xs _ ((Hr.out.below HB.out).more HB.out.size) (by have := Hn.out; omega)).mono ?_
    rintro e w5 ⟨AO, cO, rfl, q1, q2, q3, q4⟩
    have HO8 := Lib.hid (own_below HO8.out q4)
    have HO9 := Lib.hid (own_below HO9.out q4)
    have B4 := Lib.hid (B4.out.on q4)
    have HOut := Lib.hid (own_mono q3 HB.out.size)
    have HB := Lib.hid (HB.out.trans (q4.mono HB.out.size))
    clear q1 q2 q3 q4
    have c40 := B4.out.cell 0
    have c41 := B4.out.cell 1
    cases nl with
    | false =>
     have HF := Lib.hid (show putO k false l xs = xs ++ bareB k (someC l) by simp [putO, HE.out, putB])
     go_wp2_with fail
     with_reducible refine (rbare_any k A9 n9 c9 (someC l) _ (Reads.of_own HO9.out) (by have := Hn9.out; omega) HsO.out HsZ.out hk1 hk5).mono ?_
     rintro e w7 ⟨AB, cB2, rfl, q1, q2, q3, q4⟩
     have HB := Lib.hid (HB.out.trans (q4.mono HB.out.size))
     have HO := Lib.hid (own_below HOut.out q4)
     have Q := Lib.hid (Reads.of_own q3)
     have hs1 : n + (bareB k (someC l)).length ≤ maxLen := by simp only [maxLen]; have := Hbl.out; omega
     have hs2 : (n + (bareB k (someC l)).length) * 1 ≤ 70368744177664 := by have := Hbl.out; omega
     clear q1 q2 q3 q4
     go_wp2_with (at_builtin
                  refine wpList_append_any _ rfl (.tmp 58) (.tmp 62) 35 rfl w.heap.size 5 i0 (.int .u8 0) 1 1 Tryz.underlying35 hi0 hz0 hz1 hz2 rfl (by decide) AO n cO _ rfl HO.out AB _ cB2 _ rfl Q.out (u8s_one _) hs1 hs2 HB.out.size ?_
                  intro AF cF wF r1 r2 r3 r4 r5
                  have R := Lib.hid (And.intro r1 (And.intro r2 (And.intro r4 r5)))
                  clear r1 r2 r3 r4 r5)
     go_ret2
     have r1 := R.out.1
     rw [← u8s_append] at r1
     exact ⟨AF, _, cF, by rw [HE.out]; rfl, R.out.2.2.1, R.out.2.2.2, by rw [HF.out]; exact r1, HB.out.trans R.out.2.1⟩
    | true =>
     have HF := Lib.hid (show putO k true l xs = (xs ++ packL (l.map fun c => !c.1)) ++ bareB k (someC l) by simp [putO, HE.out, putB])
     go_wp2_with fail
     with_reducible refine (refmpack_any A8 j c8 _ _ (Reads.of_own HO8.out) Q8.out.1 Q8.out.2 (by have := Hm.out; omega)).mono ?_
     rintro e w6 ⟨AP, cP, rfl, q1, q2, q3, q4⟩
     have HO9 := Lib.hid (own_below HO9.out q4)
     have HOut := Lib.hid (own_below HOut.out q4)
     have B4 := Lib.hid (B4.out.on q4)
     have HB := Lib.hid (HB.out.trans (q4.mono HB.out.size))
     have Q := Lib.hid (Reads.of_own q3)
     have hs1 : n + (packL (l.map fun c => !c.1)).length ≤ maxLen := by simp only [maxLen]; have := Hbl.out; omega
     have hs2 : (n + (packL (l.map fun c => !c.1)).length) * 1 ≤ 70368744177664 := by have := Hbl.out; omega
     clear q1 q2 q3 q4 c40 c41
     go_wp2_with (at_builtin
                  refine wpList_append_any _ rfl (.tmp 54) (.tmp 56) 35 rfl w.heap.size 5 i0 (.int .u8 0) 1 1 Tryz.underlying35 hi0 hz0 hz1 hz2 rfl (by decide) AO n cO _ rfl HOut.out AP _ cP _ rfl Q.out (u8s_one _) hs1 hs2 HB.out.size ?_
                  intro AO2 cO2 w7 r1 r2 r3 r4 r5
                  have HO9 := Lib.hid (own_apart HO9.out HOut.out (by decide) r3)
                  have B4 := Lib.hid (B4.out.apart HOut.out (by decide) r3)
                  have HOut := Lib.hid r1
                  have HB := Lib.hid (HB.out.trans r2)
                  have c40 := B4.out.cell 0
                  clear r1 r2 r3 r4 r5)
     have HOut := Lib.hid (show w7.ownsRow w.heap.size 5 1 (.slice AO2 (n + (packL (l.map fun c => !c.1)).length) cO2) (n + (packL (l.map fun c => !c.1)).length) (u8s (xs ++ packL (l.map fun c => !c.1))) by rw [u8s_append]; exact HOut.out)
     clear hs1 hs2 Q
     with_reducible refine (rbare_any k A9 n9 c9 (someC l) _ (Reads.of_own HO9.out) (by have := Hn9.out; omega) HsO.out HsZ.out hk1 hk5).mono ?_
     rintro e w7 ⟨AB, cB2, rfl, q1, q2, q3, q4⟩
     have HB := Lib.hid (HB.out.trans (q4.mono HB.out.size))
     have HO := Lib.hid (own_below HOut.out q4)
     have Q := Lib.hid (Reads.of_own q3)
     have hs1 : (n + (packL (l.map fun c => !c.1)).length) + (bareB k (someC l)).length ≤ maxLen := by simp only [maxLen]; have := Hbl.out; omega
     have hs2 : ((n + (packL (l.map fun c => !c.1)).length) + (bareB k (someC l)).length) * 1 ≤ 70368744177664 := by have := Hbl.out; omega
     clear q1 q2 q3 q4
     go_wp2_with (at_builtin
                  refine wpList_append_any _ rfl (.tmp 58) (.tmp 62) 35 rfl w.heap.size 5 i0 (.int .u8 0) 1 1 Tryz.underlying35 hi0 hz0 hz1 hz2 rfl (by decide) AO2 (n + (packL (l.map fun c => !c.1)).length) cO2 _ rfl HO.out AB _ cB2 _ rfl Q.out (u8s_one _) hs1 hs2 HB.out.size ?_
                  intro AF cF wF r1 r2 r3 r4 r5
                  have R := Lib.hid (And.intro r1 (And.intro r2 (And.intro r4 r5)))
                  clear r1 r2 r3 r4 r5)
     go_ret2
     have r1 := R.out.1
     rw [← u8s_append] at r1
     exact ⟨AF, _, cF, by rw [HE.out]; rfl, R.out.2.2.1, R.out.2.2.2, by rw [HF.out]; exact r1, HB.out.trans R.out.2.1⟩
end Go.Proofs.YtjpjalmilfgckaaGreatDoor
namespace Go.Proofs.YtjpjalmilfgckaaGreatDoor
open Go.RowKit
set_option maxRecDepth 100000 in
theorem rsum_any (A : Option Addr) (n c : Nat) (xs : List UInt8) (w : World) (hr : Reads w w.heap.size 1 A n (u8s xs)) (hn : n ≤ maxLen) :
  Calls Tryz.prog 64 #[.slice A n c] w fun e w' => e = .returned (.int .u32 ((crcS xs : Nat) : Int)) ∧ w = w' := by
 have cU : Calls Tryz.prog 123 #[.int .u32 0, .slice A n c] w _ := rupdate_any 0 (by decide) A n c xs w hr hn
 have CU := Lib.hid cU
 clear hr cU
 go_enter Tryz.func64, Tryz.ntmps64
 go_wp2_with fail
 with_reducible refine CU.out.mono ?_
 rintro e w1 ⟨rfl, rfl⟩
 go_wp2
 go_ret
 exact ⟨rfl, rfl⟩
theorem col_info : (Tryz.prog.info? 45).map (fun i => (i.zero, i.size, i.bytes)) = some (some (.agg #[.int .i64 0, .string ⟨#[]⟩, .int .i64 0, .bool false, .bool false, .int .i64 0, .string ⟨#[]⟩]), 7, 72) := by kernel_rfl
set_option maxRecDepth 100000 in
set_option maxHeartbeats 400000 in
theorem copyCols_any (A : Option Addr) (n c : Nat) (l : List Co) (w : World) (hr : Reads w w.heap.size 7 A n (cos l)) (hn : n ≤ 1048576) :
  Calls Tryz.prog 85 #[.slice A n c] w fun e w' => ∃ A' c', e = .returned (.slice A' n c') ∧ n ≤ c' ∧ c' ≤ maxLen ∧ w'.ownsRow w.heap.size 45 7 (.slice A' n c') n (cos l) ∧ Below w.heap.size w w' := by
 obtain ⟨i0, hi0, hz0, hz1, hz2⟩ := info_parts col_info
 go_enter Tryz.func85, Tryz.ntmps85
 go_wp2_with (at_builtin
              refine wpList_append_any _ rfl (.tmp 4) (.tmp 5) 32 rfl w.heap.size 45 i0 (.agg #[.int .i64 0, .string ⟨#[]⟩, .int .i64 0, .bool false, .bool false, .int .i64 0, .string ⟨#[]⟩]) 7 72 Tryz.underlying32 hi0 hz0 hz1 hz2 rfl (by decide) none 0 0 [] rfl (World.ownsRow_nil _ _ _ _) A n c (cos l) rfl hr (cos_one l) (by simp only [maxLen]; omega) (by omega) (Nat.le_refl _) ?_
              intro A2 c2 w2 hown2 hb2 hg2 hc2 hm2
              simp only [Nat.zero_add, List.nil_append] at hown2 hc2)
 go_ret
 exact ⟨A2, c2, by simp, hc2, hm2, hown2, hb2⟩
set_option maxRecDepth 100000 in
set_option maxHeartbeats 1000000 in
theorem rmayC_any (A : Option Addr) (n c : Nat) (cs : List Co) (w : World) (hr : Reads w w.heap.size 7 A n (cos cs)) (hn : n ≤ maxLen) :
  Calls Tryz.prog 111 #[.slice A n c] w fun e w' => e = .returned (.bool (mayCs cs)) ∧ Below w.heap.size w w' := by
 have Hr := Lib.hid hr
 have Hl := Lib.hid (cos_len hr)
 have hn63 : n ≤ 9223372036854775807 := by simp only [maxLen] at hn; omega
 clear hr hn
 go_enter Tryz.func111, Tryz.ntmps111
 go_wp2
 go_loopw [3] (fun i wr => ∃ k : Nat, k ≤ n ∧ i = .int .i64 (k : Int) ∧ Hid (∀ j c, j < k → cs[j]? = some c → oddC c = false) ∧ Hid (Below w.heap.size w wr)) (fun i _ => n - (intOf i).toNat)
 case atStart => exact ⟨0, Nat.zero_le _, rfl, Lib.hid (fun j c h => by omega), Lib.hid (Below.refl _ _)⟩
 case round =>
  obtain ⟨k, hk, rfl, HN, HB⟩ := hrel
  by_cases hlt : k < n
  ·obtain ⟨ad, co, rfl, hbk, hco, hat⟩ := cos_at (Hr.out.below HB.out) hlt
   have h2 := hat.c2
   have h3 := hat.c3
   have Hco := Lib.hid hco
   have hki : (k : Int) < (n : Int) := by omega
   clear hco hat
   go_wp2_with fail
   with_reducible refine (rmay_any co.2.2.1 co.2.2.2.1 _).mono ?_
   rintro e w1 ⟨rfl, hb1⟩
   have HB2 := Lib.hid (bon HB.out hb1)
   clear hb1 h2 h3 hbk
   cases hm : mayK co.2.2.1 with
   | true =>
    have HN2 := Lib.hid (show ∀ j c, j < k + 1 → cs[j]? = some c → oddC c = false from fun j c hj hc => by
     rcases Nat.lt_or_ge j k with h | h
     ·exact HN.out j c h hc
     ·obtain rfl : j = k := by omega
      rw [Hco.out] at hc
      cases hc
      simp [oddC, hm])
    clear hm
    go_wp2
    go_roundw
    case rel => exact ⟨k + 1, by omega, by go_num, HN2, HB2⟩
    case measure => simp [intOf]; omega
   | false =>
    have HE := Lib.hid (show mayCs cs = false by
     have h1 : cs.any oddC = true := List.any_eq_true.2 ⟨co, List.mem_of_getElem? Hco.out, by simp [oddC, hm]⟩
     rw [mayCs_eq, h1]
     simp)
    clear hm
    go_wp2
    go_ret
    exact ⟨by rw [HE.out]; rfl, HB2.out⟩
  ·obtain rfl : n = k := by omega
   have HE := Lib.hid (show mayCs cs = decide (1 ≤ n ∧ n ≤ 32) by
    have h1 : cs.any oddC = false := by
     rw [List.any_eq_false]
     intro c hc
     obtain ⟨j, hj⟩ := List.getElem?_of_mem hc
     have := HN.out j c (by have := (List.getElem?_eq_some_iff.1 hj).1; rw [Hl.out] at this; exact this) hj
     simp [this]
    rw [mayCs_eq, h1, Hl.out]
    simp)
   by_cases h1 : 1 ≤ n
   ·by_cases h2 : n ≤ 32
    ·have d1 : decide ((1 : Int) ≤ (n : Int)) = true := by simp; omega
     have d2 : decide ((n : Int) ≤ 32) = true := by simp; omega
     have HE := Lib.hid (show mayCs cs = true by rw [HE.out]; simp [h1, h2])
     go_wp2
     go_ret
     exact ⟨by rw [HE.out]; rfl, HB.out⟩
    ·have d1 : decide ((1 : Int) ≤ (n : Int)) = true := by simp; omega
     have d2 : decide ((n : Int) ≤ 32) = false := by simp; omega
     have HE := Lib.hid (show mayCs cs = false by rw [HE.out]; simp [h2])
     go_wp2
     go_ret
     exact ⟨by rw [HE.out]; rfl, HB.out⟩
   ·have d1 : decide ((1 : Int) ≤ (n : Int)) = false := by simp; omega
    have HE := Lib.hid (show mayCs cs = false by rw [HE.out]; simp [h1])
    go_wp2
    go_ret
    exact ⟨by rw [HE.out]; rfl, HB.out⟩
set_option maxRecDepth 100000 in
set_option maxHeartbeats 1000000 in
theorem rrow_any (A : Option Addr) (n c : Nat) (cs : List Co) (B : Option Addr) (m d : Nat) (r : List Cl) (w : World) (hr : Reads w w.heap.size 7 A n (cos cs)) (hr2 : Reads w w.heap.size 3 B m (cls r)) (hm : m ≤ maxLen) (hok : ClOk r) :
  Calls Tryz.prog 120 #[.slice A n c, .slice B m d] w fun e w' => e = .returned (.int .i64 (rowE cs r)) ∧ Below w.heap.size w w' := by
 have Hr := Lib.hid hr
 have Hr2 := Lib.hid hr2
 have Hok := Lib.hid hok
 have Hlc := Lib.hid (cos_len hr)
 have Hlr := Lib.hid (cls_len hr2)
 have hm63 : m ≤ 9223372036854775807 := by simp only [maxLen] at hm; omega
 clear hr hr2 hok hm
 by_cases hmn : n = m
 ·have HEr := Lib.hid (show rowE cs r = cellsE cs r by unfold rowE; rw [if_pos (by rw [Hlr.out, Hlc.out, hmn])])
  subst hmn
  go_enter Tryz.func120, Tryz.ntmps120
  go_wp2
  go_loopw [5] (fun i wr => ∃ k : Nat, k ≤ n ∧ i = .int .i64 (k : Int) ∧ Hid (cellsE cs r = cellsE (cs.drop k) (r.drop k)) ∧ Hid (Below w.heap.size w wr)) (fun i _ => n - (intOf i).toNat)
  case atStart => exact ⟨0, Nat.zero_le _, rfl, Lib.hid rfl, Lib.hid (Below.refl _ _)⟩
  case round =>
   obtain ⟨k, hk, rfl, HE, HB⟩ := hrel
   by_cases hlt : k < n
   ·obtain ⟨ad, co, rfl, hbk, hco, hat⟩ := cos_at (Hr.out.below HB.out) hlt
    obtain ⟨ad2, u, x, s, rfl, hbk2, hx, g0, g1, g2⟩ := cls_at (Hr2.out.below HB.out) hlt
    have h2 := hat.c2
    have h3 := hat.c3
    have HD := Lib.hid (cellsE_drop cs r k co (u, x, s) hco hx)
    have Hx9 := Hok.out (u, x, s) (List.mem_of_getElem? hx)
    have Hx9 := Lib.hid (show K9 x from ⟨Hx9.1, Hx9.2.1⟩)
    have hki : (k : Int) < (n : Int) := by omega
    have HL2 := Lib.hid (show ∀ w', Below wr.heap.size wr w' → w'.cell? ⟨(ad.add (k * 7)).block, (ad.add (k * 7)).off + 2, none⟩ = some (.int .i64 co.2.2.1) from fun w' h => (h.cell (p := ⟨(ad.add (k * 7)).block, (ad.add (k * 7)).off + 2, none⟩) (World.block_lt_of_cell? _ _ h2)).trans h2)
    have HL3 := Lib.hid (show ∀ w', Below wr.heap.size wr w' → w'.cell? ⟨(ad.add (k * 7)).block, (ad.add (k * 7)).off + 2 + 1, none⟩ = some (.bool co.2.2.2.1) from fun w' h => (h.cell (p := ⟨(ad.add (k * 7)).block, (ad.add (k * 7)).off + 3, none⟩) (World.block_lt_of_cell? _ _ h3)).trans h3)
    have HV0 := Lib.hid (show ∀ w', Below wr.heap.size wr w' → w'.cell? (ad2.add (k * 3)) = some (.bool u) from fun w' h => (h.cell (World.block_lt_of_cell? _ _ g0)).trans g0)
    have HV1 := Lib.hid (show ∀ w', Below wr.heap.size wr w' → w'.cell? ⟨(ad2.add (k * 3)).block, (ad2.add (k * 3)).off + 1, none⟩ = some (.int .i64 x) from fun w' h => (h.cell (World.block_lt_of_cell? _ _ g1)).trans g1)
    have HV2 := Lib.hid (show ∀ w', Below wr.heap.size wr w' → w'.cell? ⟨(ad2.add (k * 3)).block, (ad2.add (k * 3)).off + 2, none⟩ = some (.string s) from fun w' h => (h.cell (World.block_lt_of_cell? _ _ g2)).trans g2)
    clear hco hat hx h2 h3 g0 g1 g2 hbk hbk2
    go_wp2
    have hS : Below wr.heap.size wr wr.drew := (Below.refl _ _).drew
    generalize hk7 : ad.add (k * 7) = ak at *
    refine wp_region_keep (fun w' => Below wr.heap.size wr w') [(0, false), (1, false), (2, false), (3, false), (4, false), (5, false), (6, false), (7, false), (8, false), (9, true), (10, false)] (by kernel_rfl) (by kernel_rfl) (by kernel_rfl) (fun d _ _ _ _ h => by cases d <;> exact h) ?_
    iterate 4
     refine held_pure (v := ?_) rfl rfl (by simp [Region.wanted, yielded]) hS ?_ ?_
     rotate_left
     ·intro w hw; go_simp; try with_reducible rfl
     try simp only [Act.put, zpA, zpB, zpC]
    refine held_pure (v := ?_) rfl rfl (by simp [Region.wanted, yielded]) hS ?_ ?_
    rotate_left
    ·intro w hw; have c0 := HL2.out w hw; have c1 := HL3.out w hw; clear hw; go_simp; try with_reducible rfl
    try simp only [Act.put, zpA, zpB, zpC]
    iterate 3
     refine held_pure (v := ?_) rfl rfl (by simp [Region.wanted, yielded]) hS ?_ ?_
     rotate_left
     ·intro w hw; go_simp; try with_reducible rfl
     try simp only [Act.put, zpA, zpB, zpC]
    refine held_pure (v := ?_) rfl rfl (by simp [Region.wanted, yielded]) hS ?_ ?_
    rotate_left
    ·intro w hw; have c0 := HV0.out w hw; have c1 := HV1.out w hw; have c2 := HV2.out w hw; clear hw; go_simp; try with_reducible rfl
    try simp only [Act.put, zpA, zpB, zpC]
    refine held_eff1 rfl (by simp [Region.wanted, yielded]) fun K hK => ?_
    go_simp
    with_reducible refine (rcheck_any3 co.2.2.1 co.2.2.2.1 u x s _ Hx9.out).mono ?_
    rintro e w5 ⟨rfl, hb5⟩
    have HB5 := Lib.hid (bon HB.out (bon hS hb5))
    refine held_go hK (by exact bon hS hb5) fun hS => ?_
    clear hK K
    try simp only [Act.put, zpA, zpB, zpC]
    clear hb5
    refine held_pure (v := ?_) rfl rfl (by simp [Region.wanted, yielded]) hS ?_ ?_
    rotate_left
    ·intro w hw; go_simp; try with_reducible rfl
    try simp only [Act.put, zpA, zpB, zpC]
    refine held_end ?_
    clear hS
    by_cases hz : checkE co.2.2.1 co.2.2.2.1 (u, x, s) = 0
    ·have HE2 := Lib.hid (show cellsE cs r = cellsE (cs.drop (k + 1)) (r.drop (k + 1)) by rw [HE.out, HD.out, if_pos hz])
     generalize checkE co.2.2.1 co.2.2.2.1 (u, x, s) = E0 at hz ⊢
     subst hz
     go_wp2
     go_roundw
     case rel => exact ⟨k + 1, by omega, by go_num, HE2, HB5⟩
     case measure => simp [intOf]; omega
    ·have HE2 := Lib.hid (show checkE co.2.2.1 co.2.2.2.1 (u, x, s) = rowE cs r by rw [HEr.out, HE.out, HD.out, if_neg hz])
     rw [HE2.out] at hz ⊢
     have hzb : (rowE cs r != 0) = true := by simpa using hz
     clear hz
     go_wp2
     go_ret
     exact ⟨rfl, HB5.out⟩
   ·obtain rfl : n = k := by omega
    have HE2 := Lib.hid (show rowE cs r = 0 by rw [HEr.out, HE.out]; have := cellsE_end cs r; rw [Hlr.out] at this; exact this)
    go_wp2
    go_ret
    exact ⟨by rw [HE2.out]; rfl, HB.out⟩
 ·have HE := Lib.hid (show rowE cs r = 100 by unfold rowE; rw [if_neg (by rw [Hlr.out, Hlc.out]; omega)])
  have db : ((m : Int) != (n : Int)) = true := by simp; omega
  have db2 : (m != n) = true := by simp; omega
  go_enter Tryz.func120, Tryz.ntmps120
  go_wp2
  go_ret
  exact ⟨by rw [HE.out]; rfl, Below.refl _ _⟩
end Go.Proofs.YtjpjalmilfgckaaGreatDoor
namespace Go.Proofs.YtjpjalmilfgckaaGreatDoor
open Go.RowKit
set_option maxRecDepth 100000 in
set_option maxHeartbeats 2000000 in
theorem rcheck17_any (A : Option Addr) (n c : Nat) (cs : List Co) (v s : Int) (I : Option Addr) (m d : Nat) (l : List It) (w : World) (hr : Reads w w.heap.size 7 A n (cos cs)) (hn : n ≤ maxLen) (hi : ItemsAt w w.heap.size I m l) (hm : m ≤ maxLen) (hok : ItOk l) :
  Calls Tryz.prog 86 #[.slice A n c, .agg #[.int .i64 v, .int .i64 s, .slice I m d]] w fun e w' => e = .returned (.int .i64 (batE cs (v, s, l))) ∧ Below w.heap.size w w' := by
 have Hr := Lib.hid hr
 have Hi := Lib.hid hi
 have Hok := Lib.hid hok
 have Hl := Lib.hid hi.len
 have Hn := Lib.hid hn
 have Hm := Lib.hid hm
 have hm63 : m ≤ 9223372036854775807 := by simp only [maxLen] at hm; omega
 have B1 := Lib.hid (Blk.new w 30 #[.int .i64 v, .int .i64 s, .slice I m d])
 have HB := Lib.hid ((Below.refl _ w).alloc (Nat.le_refl _) (.cells #[.int .i64 v, .int .i64 s, .slice I m d] 30))
 clear hr hi hok hn hm
 go_enter Tryz.func86, Tryz.ntmps86
 go_wp2_with fail
 with_reducible refine (rmayC_any A n c cs _ (Hr.out.on HB.out) Hn.out).mono ?_
 rintro e w1 ⟨rfl, hb1⟩
 have B1 := Lib.hid (B1.out.on hb1)
 have HB := Lib.hid (bon HB.out hb1)
 clear hb1
 have c0 := B1.out.cell 0
 have c1 := B1.out.cell 1
 have c2 := B1.out.cell 2
 by_cases hb : baB cs (v, s, l) = true
 ·have hbb := hb
  unfold baB at hbb
  simp only [Bool.and_eq_true, decide_eq_true_eq] at hbb
  obtain ⟨hmay, hv0, hv1, hs0⟩ := hbb
  have HE0 := Lib.hid (show batE cs (v, s, l) = if 1048576 < l.length then 5 else itemsE cs l by unfold batE; rw [if_pos hb])
  rw [hmay]
  have d1 : decide (v < 0) = false := by simpa using hv0
  have d2 : decide (2147483647 < v) = false := by simpa using hv1
  have d3 : decide (s < 0) = false := by simpa using hs0
  clear hmay hb
  by_cases hM : m ≤ 1048576
  ·have d4 : decide ((1048576 : Int) < (m : Int)) = false := by simp; omega
   have d5 : decide (1048576 < m) = false := by simp; omega
   have HE0 := Lib.hid (show batE cs (v, s, l) = itemsE cs l by rw [HE0.out, if_neg (by rw [Hl.out]; omega)])
   go_wp2
   clear c0 c1 c2 d1 d2 d3 hv0 hv1 hs0
   go_loopw [5] (fun i wr => ∃ k : Nat, k ≤ m ∧ i = .int .i64 (k : Int) ∧ Hid (itemsE cs l = itemsE cs (l.drop k)) ∧ Hid (Blk wr w.heap.size 30 #[.int .i64 v, .int .i64 s, .slice I m d]) ∧ Hid (Below w.heap.size w wr)) (fun i _ => m - (intOf i).toNat)
   case atStart => exact ⟨0, Nat.zero_le _, rfl, Lib.hid rfl, B1, HB⟩
   case round =>
    obtain ⟨k, hk, rfl, HE, BL, HL⟩ := hrel
    have c2 := BL.out.cell 2
    by_cases hlt : k < m
    ·obtain ⟨ad, A', c', it, rfl, hbk, hit, h0, h1, hrow, hc1, hc2⟩ := (Hi.out.below HL.out).at_ hlt
     have HD := Lib.hid (itemsE_drop cs l k it hit)
     have Hrow := Lib.hid (hrow.more HL.out.size)
     have Hc := Lib.hid (Nat.le_trans hc1 hc2)
     have HitK := Lib.hid (Hok.out it (List.mem_of_getElem? hit)).1
     have hki : (k : Int) < (m : Int) := by omega
     have hlt1 := World.block_lt_of_cell? _ _ h1
     clear hit hrow hc1 hc2
     generalize hrl : it.1.length = rl at *
     clear hrl
     go_wp2_with fail
     with_reducible refine (rrow_any A n c cs A' rl c' it.1 _ (Hr.out.on HL.out) Hrow.out Hc.out HitK.out).mono ?_
     rintro e w3 ⟨rfl, hb3⟩
     have HB3 := Lib.hid (bon HL.out hb3)
     have B3 := Lib.hid (BL.out.on hb3)
     have h1' := (hb3.cell (p := ⟨(ad.add (k * 2)).block, (ad.add (k * 2)).off + 1, none⟩) hlt1).trans h1
     clear hb3 h0 h1 hbk c2
     by_cases hz : rowE cs it.1 = 0
     ·have HD := Lib.hid (show itemsE cs (l.drop k) = if it.2 = 0 then 172 else itemsE cs (l.drop (k + 1)) by rw [HD.out, if_pos hz])
      generalize rowE cs it.1 = E0 at hz ⊢
      subst hz
      have c2 := B3.out.cell 2
      by_cases hw0 : it.2 = 0
      ·have HX := Lib.hid (show batE cs (v, s, l) = 172 by rw [HE0.out, HE.out, HD.out, if_pos hw0])
       generalize it.2 = W0 at *
       subst hw0
       go_wp2
       go_ret
       exact ⟨by rw [HX.out]; rfl, HB3.out⟩
      ·have HX := Lib.hid (show itemsE cs l = itemsE cs (l.drop (k + 1)) by rw [HE.out, HD.out, if_neg hw0])
       have dw : (it.2 == 0) = false := by simpa using hw0
       generalize it.2 = W0 at *
       clear hw0
       go_wp2
       go_roundw
       case rel => exact ⟨k + 1, by omega, by go_num, HX, B3, HB3⟩
       case measure => simp [intOf]; omega
     ·have HX := Lib.hid (show rowE cs it.1 = batE cs (v, s, l) by rw [HE0.out, HE.out, HD.out, if_neg hz])
      rw [HX.out] at hz ⊢
      have hzb : (batE cs (v, s, l) != 0) = true := by simpa using hz
      clear hz
      go_wp2
      go_ret
      exact ⟨rfl, HB3.out⟩
    ·obtain rfl : m = k := by omega
     have HE1 := Lib.hid (show batE cs (v, s, l) = 0 by rw [HE0.out, HE.out, List.drop_of_length_le (by rw [Hl.out]; exact Nat.le_refl _)]; rfl)
     go_wp2
     go_ret
     exact ⟨by rw [HE1.out]; rfl, HL.out⟩
  ·have d4 : decide ((1048576 : Int) < (m : Int)) = true := by simp; omega
   have d5 : decide (1048576 < m) = true := by simp; omega
   have HE1 := Lib.hid (show batE cs (v, s, l) = 5 by rw [HE0.out, if_pos (by rw [Hl.out]; omega)])
   go_wp2
   go_ret
   exact ⟨by rw [HE1.out]; rfl, HB.out⟩
 ·have HE1 := Lib.hid (show batE cs (v, s, l) = 2 by unfold batE; rw [if_neg hb])
  unfold baB at hb
  simp only [Bool.and_eq_true, decide_eq_true_eq] at hb
  cases hmay : mayCs cs with
  | false =>
   clear hb hmay
   go_wp2
   go_ret
   exact ⟨by rw [HE1.out]; rfl, HB.out⟩
  | true =>
   by_cases hv0 : 0 ≤ v
   ·have d1 : decide (v < 0) = false := by simpa using hv0
    by_cases hv1 : v ≤ 2147483647
    ·have d2 : decide (2147483647 < v) = false := by simpa using hv1
     have hs0 : ¬ 0 ≤ s := fun h => hb ⟨hmay, hv0, hv1, h⟩
     have d3 : decide (s < 0) = true := by simpa using hs0
     clear hb hmay hv0 hv1 hs0
     go_wp2
     go_ret
     exact ⟨by rw [HE1.out]; rfl, HB.out⟩
    ·have d2 : decide (2147483647 < v) = true := by simpa using hv1
     clear hb hmay hv0 hv1
     go_wp2
     go_ret
     exact ⟨by rw [HE1.out]; rfl, HB.out⟩
   ·have d1 : decide (v < 0) = true := by simpa using hv0
    clear hb hmay hv0
    go_wp2
    go_ret
    exact ⟨by rw [HE1.out]; rfl, HB.out⟩
set_option maxRecDepth 100000 in
set_option maxHeartbeats 1000000 in
theorem eqItems_any (A B : Option Addr) (n c m d : Nat) (l1 l2 : List It) (w : World) (h1 : ItemsAt w w.heap.size A n l1) (h2 : ItemsAt w w.heap.size B m l2) (hn : n ≤ maxLen) :
  Calls Tryz.prog 70 #[.slice A n c, .slice B m d] w fun e w' => e = .returned (.bool (decide (l1 = l2))) ∧ Below w.heap.size w w' := by
 have H1 := Lib.hid h1
 have H2 := Lib.hid h2
 have Hl1 := Lib.hid h1.len
 have Hl2 := Lib.hid h2.len
 have hn63 : n ≤ 9223372036854775807 := by simp only [maxLen] at hn; omega
 clear h1 h2 hn
 by_cases hnm : m = n
 ·subst hnm
  go_enter Tryz.func70, Tryz.ntmps70
  go_wp2
  go_loopw [5] (fun i wr => ∃ j : Nat, j ≤ m ∧ i = .int .i64 (j : Int) ∧ Hid (l1.take j = l2.take j) ∧ Hid (Below w.heap.size w wr)) (fun i _ => m - (intOf i).toNat)
  case atStart => exact ⟨0, Nat.zero_le _, rfl, Lib.hid rfl, Lib.hid (Below.refl _ _)⟩
  case round =>
   obtain ⟨j, hj, rfl, Htk, HB⟩ := hrel
   by_cases hlt : j < m
   ·obtain ⟨ad, A', c', it, rfl, hbk, hx, a0, a1, r1, rc1, rc2⟩ := (H1.out.below HB.out).at_ hlt
    obtain ⟨ad', A'', c'', it', rfl, hbk', hx', b0, b1, r2, -, -⟩ := (H2.out.below HB.out).at_ hlt
    have HA0 := Lib.hid (show ∀ w', Below wr.heap.size wr w' → w'.cell? (ad.add (j * 2)) = some (.slice A' it.1.length c') from fun w' h => (h.cell (World.block_lt_of_cell? _ _ a0)).trans a0)
    have HA1 := Lib.hid (show ∀ w', Below wr.heap.size wr w' → w'.cell? ⟨(ad.add (j * 2)).block, (ad.add (j * 2)).off + 1, none⟩ = some (.int .i64 it.2) from fun w' h => (h.cell (World.block_lt_of_cell? _ _ a1)).trans a1)
    have HB0 := Lib.hid (show ∀ w', Below wr.heap.size wr w' → w'.cell? (ad'.add (j * 2)) = some (.slice A'' it'.1.length c'') from fun w' h => (h.cell (World.block_lt_of_cell? _ _ b0)).trans b0)
    have HB1 := Lib.hid (show ∀ w', Below wr.heap.size wr w' → w'.cell? ⟨(ad'.add (j * 2)).block, (ad'.add (j * 2)).off + 1, none⟩ = some (.int .i64 it'.2) from fun w' h => (h.cell (World.block_lt_of_cell? _ _ b1)).trans b1)
    have R1 := Lib.hid (r1.more HB.out.size)
    have R2 := Lib.hid (r2.more HB.out.size)
    have Hrc := Lib.hid (Nat.le_trans rc1 rc2)
    have Hx := Lib.hid hx
    have Hx' := Lib.hid hx'
    have hji : (j : Int) < (m : Int) := by omega
    have hS : Below wr.heap.size wr wr.drew := (Below.refl _ _).drew
    clear hx hx' hbk hbk' r1 r2 rc1 rc2 a0 a1 b0 b1
    obtain ⟨r, v⟩ := it
    obtain ⟨r', v'⟩ := it'
    simp only at HA0 HA1 HB0 HB1 R1 R2 Hrc
    generalize r.length = rl at *
    generalize r'.length = rl' at *
    go_wp2
    by_cases hv : v = v'
    ·subst hv
     have dv : (v != v) = false := by simp
     refine wp_region_keep (fun w' => Below wr.heap.size wr w') [(0, false), (1, false), (2, false), (3, false), (4, false), (5, false), (6, false), (7, false), (8, false), (9, false), (10, false), (11, false), (12, false), (13, false), (14, false), (15, false), (16, false), (17, false), (18, false), (19, false), (20, false), (21, false), (22, true), (23, false), (24, false)] (by kernel_rfl) (by kernel_rfl) (by kernel_rfl) (fun d _ _ _ _ h => by cases d <;> exact h) ?_
     iterate 4
      refine held_pure (v := ?_) rfl rfl (by simp [Region.wanted, yielded]) hS ?_ ?_
      rotate_left
      ·intro w hw; go_simp; try with_reducible rfl
      try simp only [Act.put, zpA, zpB, zpC]
     refine held_pure (v := ?_) rfl rfl (by simp [Region.wanted, yielded]) hS ?_ ?_
     rotate_left
     ·intro w hw; have c0 := HA1.out w hw; clear hw; go_simp; try with_reducible rfl
     try simp only [Act.put, zpA, zpB, zpC]
     iterate 4
      refine held_pure (v := ?_) rfl rfl (by simp [Region.wanted, yielded]) hS ?_ ?_
      rotate_left
      ·intro w hw; go_simp; try with_reducible rfl
      try simp only [Act.put, zpA, zpB, zpC]
     refine held_pure (v := ?_) rfl rfl (by simp [Region.wanted, yielded]) hS ?_ ?_
     rotate_left
     ·intro w hw; have c0 := HB1.out w hw; clear hw; go_simp; try with_reducible rfl
     try simp only [Act.put, zpA, zpB, zpC]
     iterate 6
      refine held_pure (v := ?_) rfl rfl (by simp [Region.wanted, yielded]) hS ?_ ?_
      rotate_left
      ·intro w hw; go_simp; try with_reducible rfl
      try simp only [Act.put, zpA, zpB, zpC]
     refine held_pure (v := ?_) rfl rfl (by simp [Region.wanted, yielded]) hS ?_ ?_
     rotate_left
     ·intro w hw; have c0 := HA0.out w hw; clear hw; go_simp; try with_reducible rfl
     try simp only [Act.put, zpA, zpB, zpC]
     iterate 4
      refine held_pure (v := ?_) rfl rfl (by simp [Region.wanted, yielded]) hS ?_ ?_
      rotate_left
      ·intro w hw; go_simp; try with_reducible rfl
      try simp only [Act.put, zpA, zpB, zpC]
     refine held_pure (v := ?_) rfl rfl (by simp [Region.wanted, yielded]) hS ?_ ?_
     rotate_left
     ·intro w hw; have c0 := HB0.out w hw; clear hw; go_simp; try with_reducible rfl
     try simp only [Act.put, zpA, zpB, zpC]
     refine held_eff1 rfl (by simp [Region.wanted, yielded]) fun K hK => ?_
     go_simp
     with_reducible refine (eqRow_any A' A'' rl c' rl' c'' r r' _ (R1.out.on hS) (R2.out.on hS) Hrc.out).mono ?_
     rintro e w5 ⟨rfl, hb5⟩
     have HB5 := Lib.hid (bon HB.out (bon hS hb5))
     refine held_go hK (by exact bon hS hb5) fun hS => ?_
     clear hK K
     try simp only [Act.put, zpA, zpB, zpC]
     clear hb5
     iterate 2
      refine held_pure (v := ?_) rfl rfl (by simp [Region.wanted, yielded]) hS ?_ ?_
      rotate_left
      ·intro w hw; go_simp; try with_reducible rfl
      try simp only [Act.put, zpA, zpB, zpC]
     refine held_end ?_
     clear hS
     by_cases hc : r = r'
     ·have Htk2 := Lib.hid (show l1.take (j + 1) = l2.take (j + 1) by rw [List.take_add_one, List.take_add_one, Hx.out, Hx'.out, Htk.out, hc])
      rw [decide_eq_true hc]
      clear hc
      go_wp2
      go_roundw
      case rel => exact ⟨j + 1, by omega, by go_num, Htk2, HB5⟩
      case measure => simp [intOf]; omega
     ·have Hne := Lib.hid (show decide (l1 = l2) = false from decide_eq_false (fun h => hc (by subst h; have := Option.some.inj (Hx.out.symm.trans Hx'.out); cases this; rfl)))
      rw [decide_eq_false hc]
      clear hc
      go_wp2
      go_ret
      exact ⟨by rw [Hne.out]; rfl, HB5.out⟩
    ·have dv : (v != v') = true := by simpa using hv
     have Hne := Lib.hid (show decide (l1 = l2) = false from decide_eq_false (fun h => hv (by subst h; have := Option.some.inj (Hx.out.symm.trans Hx'.out); cases this; rfl)))
     clear hv
     refine wp_region_keep (fun w' => Below wr.heap.size wr w') [(0, false), (1, false), (2, false), (3, false), (4, false), (5, false), (6, false), (7, false), (8, false), (9, false), (10, false), (11, false), (12, false), (13, false), (14, false), (15, false), (16, false), (17, false), (18, false), (19, false), (20, false), (21, false), (22, false), (23, false), (24, false)] (by kernel_rfl) (by kernel_rfl) (by kernel_rfl) (fun d _ _ _ _ h => by cases d <;> exact h) ?_
     iterate 4
      refine held_pure (v := ?_) rfl rfl (by simp [Region.wanted, yielded]) hS ?_ ?_
      rotate_left
      ·intro w hw; go_simp; try with_reducible rfl
      try simp only [Act.put, zpA, zpB, zpC]
     refine held_pure (v := ?_) rfl rfl (by simp [Region.wanted, yielded]) hS ?_ ?_
     rotate_left
     ·intro w hw; have c0 := HA1.out w hw; clear hw; go_simp; try with_reducible rfl
     try simp only [Act.put, zpA, zpB, zpC]
     iterate 4
      refine held_pure (v := ?_) rfl rfl (by simp [Region.wanted, yielded]) hS ?_ ?_
      rotate_left
      ·intro w hw; go_simp; try with_reducible rfl
      try simp only [Act.put, zpA, zpB, zpC]
     refine held_pure (v := ?_) rfl rfl (by simp [Region.wanted, yielded]) hS ?_ ?_
     rotate_left
     ·intro w hw; have c0 := HB1.out w hw; clear hw; go_simp; try with_reducible rfl
     try simp only [Act.put, zpA, zpB, zpC]
     iterate 2
      refine held_pure (v := ?_) rfl rfl (by simp [Region.wanted, yielded]) hS ?_ ?_
      rotate_left
      ·intro w hw; go_simp; try with_reducible rfl
      try simp only [Act.put, zpA, zpB, zpC]
     refine held_off rfl rfl (by simp [Region.wanted, yielded, undef]) hS ?_
     simp only [Act.put, zpA, zpB, zpC]
     refine held_off rfl rfl (by simp [Region.wanted, yielded, undef]) hS ?_
     simp only [Act.put, zpA, zpB, zpC]
     refine held_off rfl rfl (by simp [Region.wanted, yielded, undef]) hS ?_
     simp only [Act.put, zpA, zpB, zpC]
     refine held_off rfl rfl (by simp [Region.wanted, yielded, undef]) hS ?_
     simp only [Act.put, zpA, zpB, zpC]
     refine held_off rfl rfl (by simp [Region.wanted, yielded, undef]) hS ?_
     simp only [Act.put, zpA, zpB, zpC]
     refine held_off rfl rfl (by simp [Region.wanted, yielded, undef]) hS ?_
     simp only [Act.put, zpA, zpB, zpC]
     refine held_off rfl rfl (by simp [Region.wanted, yielded, undef]) hS ?_
     simp only [Act.put, zpA, zpB, zpC]
     refine held_off rfl rfl (by simp [Region.wanted, yielded, undef]) hS ?_
     simp only [Act.put, zpA, zpB, zpC]
     refine held_off rfl rfl (by simp [Region.wanted, yielded, undef]) hS ?_
     simp only [Act.put, zpA, zpB, zpC]
     refine held_off rfl rfl (by simp [Region.wanted, yielded, undef]) hS ?_
     simp only [Act.put, zpA, zpB, zpC]
     refine held_off rfl rfl (by simp [Region.wanted, yielded, undef]) hS ?_
     simp only [Act.put, zpA, zpB, zpC]
     refine held_off rfl rfl (by simp [Region.wanted, yielded, undef]) hS ?_
     simp only [Act.put, zpA, zpB, zpC]
     refine held_pure (v := ?_) rfl rfl (by simp [Region.wanted, yielded]) hS ?_ ?_
     rotate_left
     ·intro w hw; go_simp; try with_reducible rfl
     try simp only [Act.put, zpA, zpB, zpC]
     refine held_end ?_
     have HB5 := Lib.hid (bon HB.out hS)
     clear hS
     go_wp2
     go_ret
     exact ⟨by rw [Hne.out]; rfl, HB5.out⟩
   ·obtain rfl : m = j := by omega
    have He := Lib.hid (show decide (l1 = l2) = true by
     have := Htk.out
     rw [List.take_of_length_le (by rw [Hl1.out]; exact Nat.le_refl _), List.take_of_length_le (by rw [Hl2.out]; exact Nat.le_refl _)] at this
     exact decide_eq_true this)
    go_wp2
    go_ret
    exact ⟨by rw [He.out]; rfl, HB.out⟩
 ·have hne2 : ((n : Int) != (m : Int)) = true := by simp; omega
  have hne3 : (n != m) = true := by simp; omega
  have Hne := Lib.hid (show decide (l1 = l2) = false from decide_eq_false (fun h => hnm (by rw [← Hl1.out, ← Hl2.out, h])))
  go_enter Tryz.func70, Tryz.ntmps70
  go_wp2
  go_ret
  exact ⟨by rw [Hne.out]; rfl, Below.refl _ _⟩
end Go.Proofs.YtjpjalmilfgckaaGreatDoor
