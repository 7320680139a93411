/- Part 18 of the walks, merged: each text under its own heading. Conditions: none of its own; each lemma states what it asks. -/
import Derived.Test.YtjpjalmilfgckaaGreatDoorBk7
import Derived.Test.YtjpjalmilfgckaaGreatDoorBk9
import Derived.Test.YtjpjalmilfgckaaGreatDoorBk12
import Derived.Test.YtjpjalmilfgckaaGreatDoorBk13
import Derived.Test.YtjpjalmilfgckaaGreatDoorBk17
set_option linter.unusedVariables false
set_option linter.unusedSimpArgs false
namespace Go.Proofs.YtjpjalmilfgckaaGreatDoor
open Go.RowKit
set_option maxRecDepth 100000 in
set_option maxHeartbeats 2000000 in
theorem refdput_any (A : Option Addr) (n c : Nat) (xs : List UInt8) (B : Option Addr) (m c2 : Nat) (l : List ByteArray) (w : World) (hr : Reads w w.heap.size 1 A n (u8s xs))
  (hr2 : Reads w w.heap.size 1 B m (txs l)) (hm : m ≤ 1099511627776) (htot : (xs ++ putD l).length ≤ 1099511627776) :
  Calls Tryz.prog 192 #[.slice A n c, .slice B m c2] w (Wrote (xs ++ putD l) w) := by
 obtain ⟨i0, hi0, hz0, hz1, hz2⟩ := info_parts u8_info
 have hst := put1_start l xs
 have Hlen2 := Lib.hid (tlen hr2)
 have hsl := splitL_len l
 have hsm := split_small l
 generalize hT : xs ++ putD l = tot at hst htot ⊢
 have Hst := Lib.hid hst
 have Hsm := Lib.hid hsm
 clear hT hst hsm
 go_enter Tryz.func192, Tryz.ntmps192
 go_wp2_with fail
 with_reducible refine (refsplit_any B m c2 l _ hr2 hm).mono ?_
 rintro e w1 ⟨A1, c3, A2, c4, rfl, g1, g2, g3, g4, o1, o2, hb1⟩
 have r1 := own_reads o1
 have r2 := own_reads o2
 have hr1 := hr.on hb1
 have hlx := reads_len hr
 have hnl : l.length = m := Hlen2.out
 rw [hnl] at g3 r2 hsl
 simp only [hnl]
 obtain ⟨hsl1, hsl2⟩ := hsl
 have HNS := Lib.hid hsl2
 generalize (splitL l).2 = ns at r2 Hst Hsm HNS
 have hd0 : (splitL l).1.length < 18446744073709551616 := by omega
 generalize (splitL l).1 = d at r1 Hst hsl1 g1 Hsm hd0 ⊢
 clear o1 o2 hnl hsl2 hr hr2
 have hnt : n ≤ 1099511627776 := by have h := congrArg List.length Hst.out; simp only [List.length_append] at h; omega
 clear hlx
 have hdm : d.length ≤ 1099511627776 := by omega
 go_wp2_with fail
 with_reducible refine (refPut_any A n c d.length xs _ hr1 hnt hd0).mono ?_
 rintro e w2 ⟨A3, c5, rfl, hc5, hd5, o3, hb2⟩
 have Hl3 := Lib.hid (reads_len (own_reads o3))
 go_wp2
 go_loopw [7, 8] (fun v i wr => ∃ (k q : Nat) (Aq : Option Addr) (cq : Nat) (cur : List UInt8), k ≤ d.length ∧ q ≤ cq ∧ cq ≤ maxLen ∧ i = .int .i64 (k : Int) ∧ v = .slice Aq q cq ∧ Hid (Put1 d ns tot k cur) ∧
  wr.ownsRow w1.heap.size 5 1 (.slice Aq q cq) q (u8s cur) ∧ Below w1.heap.size w1 wr) (fun _ i _ => d.length - (intOf i).toNat)
 case atStart => exact ⟨0, _, A3, c5, _, Nat.zero_le _, hc5, hd5, rfl, rfl, Hst, o3, hb2⟩
 case round =>
  clear o3 hb2 Hl3 hc5
  obtain ⟨k, q, Aq, cq, cur, hk, hq1, hq2, rfl, rfl, hp, hown, hB⟩ := hrel
  have Hq := Lib.hid (reads_len (own_reads hown))
  by_cases hlt : k < d.length
  ·obtain ⟨ad, v, rfl, hbk, hx, hcell⟩ := r1.at_ hlt
   rw [← hB.cell (p := ad.add k) (by rw [block_of_add]; exact hbk)] at hcell
   obtain ⟨s, hs', rfl⟩ := txs_get _ _ _ hx
   obtain ⟨hp2, hle⟩ := put1_step hp.out hs'
   have hql : cur.length = q := Hq.out
   rw [hql] at hle
   have hss : s.size < 18446744073709551616 := by rw [← bts_len]; omega
   have hq0 : q ≤ 1099511627776 := by omega
   have hbl := bts_len s
   have Hp2 := Lib.hid hp2
   have hbs := hB.size
   have Hbl := Lib.hid hbl
   rw [hbl] at hle
   clear hx hs' hp2 hp hql hbl
   have hss2 : s.size ≤ 9223372036854775807 := by omega
   go_wp2
   have hS := hB.drew
   have hL : ∀ w', Below w1.heap.size w1 w' → w'.cell? (ad.add k) = some (.string s) := fun w' h => by
    rw [h.cell (p := ad.add k) (by rw [block_of_add]; exact hbk)]
    rwa [hB.cell (p := ad.add k) (by rw [block_of_add]; exact hbk)] at hcell
   have HL := Lib.hid hL
   clear hL hcell
   refine wp_region_keep (Below w1.heap.size w1) [(0, false), (1, false), (2, false), (3, false), (4, false), (5, false), (6, false), (8, false), (9, false), (10, false), (11, false), (7, true), (12, true), (13, false)] (by kernel_rfl) (by kernel_rfl) (by kernel_rfl) (fun d _ _ _ _ h => by cases d <;> exact h) ?_
   iterate 4
    refine held_pure (v := ?_) rfl rfl (by simp [Region.wanted, yielded]) hS ?_ ?_
    rotate_left
    ·intro w hw; go_simp; try with_reducible rfl
    try simp only [Act.put, zpA, zpB, zpC]
   refine held_pure (v := ?_) rfl rfl (by simp [Region.wanted, yielded]) hS ?_ ?_
   rotate_left
   ·intro w hw; have c0 := HL.out w hw; clear hw; go_simp; try with_reducible rfl
   try simp only [Act.put, zpA, zpB, zpC]
   iterate 5
    refine held_pure (v := ?_) rfl rfl (by simp [Region.wanted, yielded]) hS ?_ ?_
    rotate_left
    ·intro w hw; go_simp; try with_reducible rfl
    try simp only [Act.put, zpA, zpB, zpC]
   refine held_pure (v := ?_) rfl rfl (by simp [Region.wanted, yielded]) hS ?_ ?_
   rotate_left
   ·intro w hw; have c0 := HL.out w hw; clear hw; go_simp; try with_reducible rfl
   try simp only [Act.put, zpA, zpB, zpC]
   refine held_eff1 rfl (by simp [Region.wanted, yielded]) fun K hK => ?_
   go_simp
   rw [u64_wrap _ hss]
   with_reducible refine (refPut_any Aq q cq s.size cur _ (own_reads hown).drew hq0 hss).mono ?_
   rintro e w3 ⟨A6, c6, rfl, hc6, hd6, o6, hb3⟩
   replace o6 := own_mono o6 hbs
   have hB3 := hB.drew.trans (hb3.mono hbs)
   have hbase3 := hB3.size
   have hs63 : q + (leb s.size).length + s.data.toList.length ≤ 70368744177664 := by
    have := Hbl.out
    unfold bts at this
    omega
   refine held_go hK (by exact hB3) fun hS => ?_
   clear hK K
   try simp only [Act.put, zpA, zpB, zpC]
   refine held_eff1 rfl (by simp [Region.wanted, yielded]) fun K hK => ?_
   refine wp_append_str (.tmp 33) (.tmp 37) 35 9 rfl w1.heap.size 5 i0 Tryz.underlying35 Tryz.underlying9 hi0 hz0 hz1 hz2 A6 _ c6 _ rfl o6 s rfl hs63 hbase3 ?_
   intro A7 c7 w7 o7 hb7 hg7 hc7 hd7
   refine held_go hK (by exact hB3.trans hb7) fun hS => ?_
   clear hK K
   try simp only [Act.put, zpA, zpB, zpC]
   refine held_pure (v := ?_) rfl rfl (by simp [Region.wanted, yielded]) hS ?_ ?_
   rotate_left
   ·intro w hw; go_simp; try with_reducible rfl
   try simp only [Act.put, zpA, zpB, zpC]
   refine held_end ?_
   go_wp2
   have hB7 := hB3.trans hb7
   have Hp3 : Hid (Put1 d ns tot (k + 1) (cur ++ leb s.size ++ s.data.toList)) := by
    have := Hp2.out
    rw [Hbl.out] at this
    exact this
   go_roundw
   case rel => exact ⟨k + 1, _, A7, c7, _, by omega, hc7, hd7, by go_num, rfl, Hp3, o7, hB7⟩
   case measure => simp [intOf]; omega
  ·have hkd : k = d.length := by omega
   subst hkd
   have Hp0 := Lib.hid (put1_end hp.out)
   clear hp
   go_wp2
   go_loopw [7, 9] (fun v i wr => ∃ (k q : Nat) (Aq : Option Addr) (cq : Nat) (cur : List UInt8), k ≤ m ∧ q ≤ cq ∧ cq ≤ maxLen ∧ i = .int .i64 (k : Int) ∧ v = .slice Aq q cq ∧ Hid (Put2 ns tot k cur) ∧
    wr.ownsRow w1.heap.size 5 1 (.slice Aq q cq) q (u8s cur) ∧ Below w1.heap.size w1 wr) (fun _ i _ => m - (intOf i).toNat)
   case atStart => exact ⟨0, _, Aq, cq, _, Nat.zero_le _, hq1, hq2, rfl, rfl, Hp0, hown, hB⟩
   case round =>
    clear hown hB Hq hq1
    obtain ⟨k, q, Aq, cq, cur, hk, hq1, hq2, rfl, rfl, hp, hown, hB⟩ := hrel
    have Hq := Lib.hid (reads_len (own_reads hown))
    by_cases hlt : k < m
    ·obtain ⟨ad, v, rfl, hbk, hx, hcell⟩ := r2.at_ hlt
     rw [← hB.cell (p := ad.add k) (by rw [block_of_add]; exact hbk)] at hcell
     obtain ⟨y, hs', rfl⟩ := nns_get _ _ _ hx
     obtain ⟨hp2, hle⟩ := put2_step hp.out hs'
     have hql : cur.length = q := Hq.out
     rw [hql] at hle
     have hy := Hsm.out y (List.mem_of_getElem? hs')
     have hy0 : y < 18446744073709551616 := by omega
     have hy1 : y ≤ 9223372036854775807 := by omega
     have hq0 : q ≤ 1099511627776 := by omega
     have Hp2 := Lib.hid hp2
     have hbs := hB.size
     clear hx hs' hp2 hp hql
     go_wp2_with fail
     with_reducible refine (refPut_any Aq q cq y cur _ (own_reads hown) hq0 hy0).mono ?_
     rintro e w3 ⟨A6, c6, rfl, hc6, hd6, o6, hb3⟩
     replace o6 := own_mono o6 hbs
     have hB3 := hB.trans (hb3.mono hbs)
     go_wp2
     go_roundw
     case rel => exact ⟨k + 1, _, A6, c6, _, by omega, hc6, hd6, by go_num, rfl, Hp2, o6, hB3⟩
     case measure => simp [intOf]; omega
    ·have hkm : k = ns.length := by have := HNS.out; omega
     have hp0 := hp.out
     rw [hkm] at hp0
     have Hp0 := Lib.hid (put2_end hp0)
     clear hp0 hp hkm
     go_wp2
     go_ret
     have hcur := Hp0.out
     have hql := Hq.out
     subst hcur hql
     exact ⟨Aq, cq, rfl, hq1, hq2, own_mono hown hb1.size, hb1.trans (hB.mono hb1.size)⟩
end Go.Proofs.YtjpjalmilfgckaaGreatDoor
namespace Go.Proofs.YtjpjalmilfgckaaGreatDoor
open Go.RowKit
def outB (k : Int) (l : List Cl) : List UInt8 := if k = 2 ∨ k = 3 then intsB l else if k = 5 then rawsB l else []
theorem outB_one (k : Int) (l : List Cl) (j : Nat) (c : Cl) (h : l[j]? = some c) (t : List UInt8) (ht : outB k [c] = t) : outB k (l.take (j + 1)) = outB k (l.take j) ++ t := by
 subst ht
 unfold outB
 rw [List.take_add_one, h]
 split
 ·simp [intsB]
 ·split
  ·simp [rawsB]
  ·rfl
set_option maxRecDepth 100000 in
set_option maxHeartbeats 2000000 in
theorem rbare_any (k : Int) (A : Option Addr) (n c : Nat) (l : List Cl) (w : World) (hr : Reads w w.heap.size 3 A n (cls l)) (hn : n ≤ 1048576) (hok : ClOk l) (hsz : ∀ c ∈ l, c.2.2.size ≤ 1024) (h1 : 1 ≤ k) (h5 : k ≤ 5) :
  Calls Tryz.prog 149 #[.int .i64 k, .slice A n c] w (Wrote (bareB k l) w) := by
 obtain ⟨b0, hb0, hb1, hb2, hb3⟩ := info_parts bool_info
 obtain ⟨t0, ht0, ht1, ht2, ht3⟩ := info_parts text_info
 have Hr := Lib.hid hr
 have Hok := Lib.hid hok
 have Hsz := Lib.hid hsz
 have Hln := Lib.hid (cls_len hr)
 clear hr hok hsz
 obtain ⟨i0, hi0, hz0, hz1, hz2⟩ := info_parts u8_info
 rcases (show k = 1 ∨ k = 2 ∨ k = 3 ∨ k = 4 ∨ k = 5 by omega) with rfl | rfl | rfl | rfl | rfl
 all_goals clear h1 h5
 ·go_enter Tryz.func149, Tryz.ntmps149
  go_wp2
  go_loopw [5, 6, 7, 8] (fun v5 v6 v7 i wr => ∃ (j : Nat) (A5 : Option Addr) (m5 c5 : Nat) (A6 : Option Addr) (c6 : Nat) (A7 : Option Addr) (c7 : Nat), j ≤ n ∧ v5 = .slice A5 m5 c5 ∧ v6 = .slice A6 j c6 ∧ v7 = .slice A7 j c7 ∧ i = .int .i64 (j : Int) ∧ m5 ≤ 2048 * j ∧
   Hid (wr.ownsRow w.heap.size 5 1 (.slice A5 m5 c5) m5 (u8s (outB 1 (l.take j)))) ∧ Hid (wr.ownsRow w.heap.size 4 1 (.slice A6 j c6) j (bls ((l.take j).map fun c => c.2.1 == 1))) ∧ Hid (wr.ownsRow w.heap.size 9 1 (.slice A7 j c7) j (txs ((l.take j).map fun c => c.2.2))) ∧ Hid (Below w.heap.size w wr)) (fun _ _ _ i _ => n - (intOf i).toNat)
  case atStart => exact ⟨0, none, 0, 0, none, 0, none, 0, Nat.zero_le _, rfl, rfl, rfl, rfl, Nat.le_refl _, Lib.hid (by rw [show outB 1 (l.take 0) = [] by simp [outB, intsB, rawsB]]; exact World.ownsRow_nil _ _ _ _), Lib.hid (World.ownsRow_nil _ _ _ _), Lib.hid (World.ownsRow_nil _ _ _ _), Lib.hid (Below.refl _ _)⟩
  case round =>
   obtain ⟨j, A5, m5, c5, A6, c6, A7, c7, hj, rfl, rfl, rfl, rfl, hm5, HO5, HO6, HO7, HB⟩ := hrel
   by_cases hlt : j < n
   ·obtain ⟨ad, u, m, s, rfl, hbk, hx, h0, h1, h2⟩ := cls_at Hr.out hlt
    have Hx := Lib.hid hx
    have hbk2 : (ad.add (j * 3)).block < w.heap.size := by rw [block_of_add]; exact hbk
    have HY1 := Lib.hid (show ∀ w', Below w.heap.size w w' → w'.cell? ⟨(ad.add (j * 3)).block, (ad.add (j * 3)).off + 1, none⟩ = some (.int .i64 m) from fun w' h => (h.cell (p := ⟨(ad.add (j * 3)).block, (ad.add (j * 3)).off + 1, none⟩) hbk2).trans h1)
    have HY2 := Lib.hid (show ∀ w', Below w.heap.size w w' → w'.cell? ⟨(ad.add (j * 3)).block, (ad.add (j * 3)).off + 2, none⟩ = some (.string s) from fun w' h => (h.cell (p := ⟨(ad.add (j * 3)).block, (ad.add (j * 3)).off + 2, none⟩) hbk2).trans h2)
    have Hok1 := Lib.hid (Hok.out _ (List.mem_of_getElem? hx))
    have Hsz1 := Lib.hid (Hsz.out _ (List.mem_of_getElem? hx))
    have Hmp := Lib.hid (show (l.take (j + 1)).map (fun c => c.2.1 == 1) = (l.take j).map (fun c => c.2.1 == 1) ++ [m == 1] ∧ (l.take (j + 1)).map (fun c => c.2.2) = (l.take j).map (fun c => c.2.2) ++ [s] by rw [List.take_add_one, hx]; simp)
    have hs1 : j + 1 ≤ maxLen := by simp only [maxLen]; omega
    have hs2 : (j + 1) * 1 ≤ 70368744177664 := by omega
    have hs3 : (j + 1) * 16 ≤ 70368744177664 := by omega
    have Hm5 := Lib.hid hm5
    have Hst1 := outB_one 1 l j _ hx
    clear hx hbk hbk2 h0 h1 h2 hm5
    have y1 := HY1.out _ HB.out
    have y2 := HY2.out _ HB.out
    have Hst := Lib.hid (show outB 1 (l.take (j + 1)) = outB 1 (l.take j) by rw [Hst1 [] (by simp [outB]), List.append_nil])
    clear Hst1
    go_wp2_with (at_builtin
                 first
                 | (refine wpList_append_any _ rfl (.tmp 43) (.tmp 50) 145 rfl w.heap.size 4 b0 (.bool false) 1 1 Tryz.underlying145 hb0 hb1 hb2 hb3 rfl (by decide) A6 j c6 _ rfl (HO6.out.alloc _) (some ⟨_, 0, none⟩) 1 1 [.bool (m == 1)] rfl (reads_new _ _ _) (one_bool _) hs1 hs2 (Nat.le_trans HB.out.size (by simp)) ?_
                    intro A8 c8 w8 r1 r2 r3 r4 r5
                    have hB8 := Lib.hid ((HB.out.alloc HB.out.size (.cells #[.bool (m == 1)] 4)).trans r2)
                    have hO5 := Lib.hid (own_apart (HO5.out.alloc (.cells #[.bool (m == 1)] 4)) (HO6.out.alloc (.cells #[.bool (m == 1)] 4)) (by decide) r3)
                    have hO7 := Lib.hid (own_apart (HO7.out.alloc (.cells #[.bool (m == 1)] 4)) (HO6.out.alloc (.cells #[.bool (m == 1)] 4)) (by decide) r3)
                    have hO6 := Lib.hid r1
                    have y2 := HY2.out _ hB8.out
                    have q6 := Lib.hid (And.intro r4 r5)
                    clear r1 r2 r3 r4 r5)
                 | (refine wpList_append_any _ rfl (.tmp 52) (.tmp 58) 240 rfl w.heap.size 9 t0 (.string ⟨#[]⟩) 1 16 Tryz.underlying240 ht0 ht1 ht2 ht3 rfl (by decide) A7 j c7 _ rfl (hO7.out.alloc _) (some ⟨_, 0, none⟩) 1 1 [.string s] rfl (reads_new _ _ _) (one_text _) hs1 hs3 (Nat.le_trans hB8.out.size (by simp)) ?_
                    intro A9 c9 w9 r1 r2 r3 r4 r5
                    have hB9 := Lib.hid ((hB8.out.alloc hB8.out.size (.cells #[.string s] 9)).trans r2)
                    have hP5 := Lib.hid (own_apart (hO5.out.alloc (.cells #[.string s] 9)) (hO7.out.alloc (.cells #[.string s] 9)) (by decide) r3)
                    have hP6 := Lib.hid (own_apart (hO6.out.alloc (.cells #[.string s] 9)) (hO7.out.alloc (.cells #[.string s] 9)) (by decide) r3)
                    have hP7 := Lib.hid r1
                    clear r1 r2 r3 r4 r5))
    have hP5 := Lib.hid (show w9.ownsRow w.heap.size 5 1 (.slice A5 m5 c5) m5 (u8s (outB 1 (l.take (j + 1)))) by rw [Hst.out]; exact hP5.out)
    have hP6 := Lib.hid (show w9.ownsRow w.heap.size 4 1 (.slice A8 (j + 1) c8) (j + 1) (bls ((l.take (j + 1)).map fun c => c.2.1 == 1)) by rw [Hmp.out.1, bls_append]; exact hP6.out)
    have hP7 := Lib.hid (show w9.ownsRow w.heap.size 9 1 (.slice A9 (j + 1) c9) (j + 1) (txs ((l.take (j + 1)).map fun c => c.2.2)) by rw [Hmp.out.2, txs_append]; exact hP7.out)
    go_roundw
    case rel => exact ⟨j + 1, A5, m5, c5, A8, c8, A9, c9, by omega, rfl, rfl, rfl, by go_num, by have := Hm5.out; omega, hP5, hP6, hP7, hB9⟩
    case measure => simp [intOf]; omega
   ·obtain rfl : j = n := by omega
    have hmap : l.take j = l := List.take_of_length_le (by rw [Hln.out]; exact Nat.le_refl _)
    rw [hmap] at HO5 HO6 HO7
    have Hpd := Lib.hid (putD_le (l.map fun c => c.2.2) (by intro s hs; obtain ⟨c, hc, rfl⟩ := List.mem_map.1 hs; exact Hsz.out c hc))
    obtain ⟨q1, q2⟩ := own_caps HO5.out
    obtain ⟨q3, q4⟩ := own_caps HO6.out
    obtain ⟨q5, q6⟩ := own_caps HO7.out
    have Q5 := Lib.hid (And.intro q1 q2)
    have Q6 := Lib.hid (And.intro q3 q4)
    have Q7 := Lib.hid (And.intro q5 q6)
    clear hmap hlt q1 q2 q3 q4 q5 q6
    have HE := Lib.hid (show bareB 1 l = packL (l.map fun c => c.2.1 == 1) by simp [bareB])
    go_wp2_with fail
    with_reducible refine (refmpack_any A6 j c6 _ _ (Reads.of_own HO6.out) Q6.out.1 Q6.out.2 (by omega)).mono ?_
    rintro e w5 ⟨AP, cP, rfl, q1, q2, q3, q4⟩
    have HW := Lib.hid (And.intro q1 (And.intro q2 (And.intro (own_mono q3 HB.out.size) (HB.out.trans (q4.mono HB.out.size)))))
    clear q1 q2 q3 q4
    go_wp2
    go_ret
    rw [HE.out]
    exact ⟨AP, cP, rfl, HW.out⟩
 ·go_enter Tryz.func149, Tryz.ntmps149
  go_wp2
  go_loopw [5, 6, 7, 8] (fun v5 v6 v7 i wr => ∃ (j : Nat) (A5 : Option Addr) (m5 c5 : Nat) (A6 : Option Addr) (c6 : Nat) (A7 : Option Addr) (c7 : Nat), j ≤ n ∧ v5 = .slice A5 m5 c5 ∧ v6 = .slice A6 j c6 ∧ v7 = .slice A7 j c7 ∧ i = .int .i64 (j : Int) ∧ m5 ≤ 2048 * j ∧
   Hid (wr.ownsRow w.heap.size 5 1 (.slice A5 m5 c5) m5 (u8s (outB 2 (l.take j)))) ∧ Hid (wr.ownsRow w.heap.size 4 1 (.slice A6 j c6) j (bls ((l.take j).map fun c => c.2.1 == 1))) ∧ Hid (wr.ownsRow w.heap.size 9 1 (.slice A7 j c7) j (txs ((l.take j).map fun c => c.2.2))) ∧ Hid (Below w.heap.size w wr)) (fun _ _ _ i _ => n - (intOf i).toNat)
  case atStart => exact ⟨0, none, 0, 0, none, 0, none, 0, Nat.zero_le _, rfl, rfl, rfl, rfl, Nat.le_refl _, Lib.hid (by rw [show outB 2 (l.take 0) = [] by simp [outB, intsB, rawsB]]; exact World.ownsRow_nil _ _ _ _), Lib.hid (World.ownsRow_nil _ _ _ _), Lib.hid (World.ownsRow_nil _ _ _ _), Lib.hid (Below.refl _ _)⟩
  case round =>
   obtain ⟨j, A5, m5, c5, A6, c6, A7, c7, hj, rfl, rfl, rfl, rfl, hm5, HO5, HO6, HO7, HB⟩ := hrel
   by_cases hlt : j < n
   ·obtain ⟨ad, u, m, s, rfl, hbk, hx, h0, h1, h2⟩ := cls_at Hr.out hlt
    have Hx := Lib.hid hx
    have hbk2 : (ad.add (j * 3)).block < w.heap.size := by rw [block_of_add]; exact hbk
    have HY1 := Lib.hid (show ∀ w', Below w.heap.size w w' → w'.cell? ⟨(ad.add (j * 3)).block, (ad.add (j * 3)).off + 1, none⟩ = some (.int .i64 m) from fun w' h => (h.cell (p := ⟨(ad.add (j * 3)).block, (ad.add (j * 3)).off + 1, none⟩) hbk2).trans h1)
    have HY2 := Lib.hid (show ∀ w', Below w.heap.size w w' → w'.cell? ⟨(ad.add (j * 3)).block, (ad.add (j * 3)).off + 2, none⟩ = some (.string s) from fun w' h => (h.cell (p := ⟨(ad.add (j * 3)).block, (ad.add (j * 3)).off + 2, none⟩) hbk2).trans h2)
    have Hok1 := Lib.hid (Hok.out _ (List.mem_of_getElem? hx))
    have Hsz1 := Lib.hid (Hsz.out _ (List.mem_of_getElem? hx))
    have Hmp := Lib.hid (show (l.take (j + 1)).map (fun c => c.2.1 == 1) = (l.take j).map (fun c => c.2.1 == 1) ++ [m == 1] ∧ (l.take (j + 1)).map (fun c => c.2.2) = (l.take j).map (fun c => c.2.2) ++ [s] by rw [List.take_add_one, hx]; simp)
    have hs1 : j + 1 ≤ maxLen := by simp only [maxLen]; omega
    have hs2 : (j + 1) * 1 ≤ 70368744177664 := by omega
    have hs3 : (j + 1) * 16 ≤ 70368744177664 := by omega
    have Hm5 := Lib.hid hm5
    have Hst1 := outB_one 2 l j _ hx
    clear hx hbk hbk2 h0 h1 h2 hm5
    have y1 := HY1.out _ HB.out
    have y2 := HY2.out _ HB.out
    have Hst := Lib.hid (Hst1 (leb (zig m)) (by simp [outB, intsB]))
    clear Hst1 y2
    go_wp2_with fail
    with_reducible refine (refPutInt_any A5 m5 c5 m _ _ (Reads.of_own HO5.out) (by have := Hm5.out; omega) Hok1.out.1 Hok1.out.2.1).mono ?_
    rintro e w5 ⟨A5', c5', rfl, q1, q2, q3, q4⟩
    have HO5 := Lib.hid (own_mono (own_mono q3 (Nat.le_refl _)) HB.out.size)
    have HO6 := Lib.hid (own_below HO6.out q4)
    have HO7 := Lib.hid (own_below HO7.out q4)
    have HB := Lib.hid (HB.out.trans (q4.mono HB.out.size))
    have hl := leb_le (zig m)
    have Hm5 := Lib.hid (show m5 + (leb (zig m)).length ≤ 2048 * j + 2048 by have := Hm5.out; omega)
    clear q1 q2 q3 q4 hl
    generalize m5 + (leb (zig m)).length = m5 at *
    generalize A5' = A5 at *
    generalize c5' = c5 at *
    have y1 := HY1.out _ HB.out
    have y2 := HY2.out _ HB.out
    go_wp2_with (at_builtin
                 first
                 | (refine wpList_append_any _ rfl (.tmp 43) (.tmp 50) 145 rfl w.heap.size 4 b0 (.bool false) 1 1 Tryz.underlying145 hb0 hb1 hb2 hb3 rfl (by decide) A6 j c6 _ rfl (HO6.out.alloc _) (some ⟨_, 0, none⟩) 1 1 [.bool (m == 1)] rfl (reads_new _ _ _) (one_bool _) hs1 hs2 (Nat.le_trans HB.out.size (by simp)) ?_
                    intro A8 c8 w8 r1 r2 r3 r4 r5
                    have hB8 := Lib.hid ((HB.out.alloc HB.out.size (.cells #[.bool (m == 1)] 4)).trans r2)
                    have hO5 := Lib.hid (own_apart (HO5.out.alloc (.cells #[.bool (m == 1)] 4)) (HO6.out.alloc (.cells #[.bool (m == 1)] 4)) (by decide) r3)
                    have hO7 := Lib.hid (own_apart (HO7.out.alloc (.cells #[.bool (m == 1)] 4)) (HO6.out.alloc (.cells #[.bool (m == 1)] 4)) (by decide) r3)
                    have hO6 := Lib.hid r1
                    have y2 := HY2.out _ hB8.out
                    have q6 := Lib.hid (And.intro r4 r5)
                    clear r1 r2 r3 r4 r5)
                 | (refine wpList_append_any _ rfl (.tmp 52) (.tmp 58) 240 rfl w.heap.size 9 t0 (.string ⟨#[]⟩) 1 16 Tryz.underlying240 ht0 ht1 ht2 ht3 rfl (by decide) A7 j c7 _ rfl (hO7.out.alloc _) (some ⟨_, 0, none⟩) 1 1 [.string s] rfl (reads_new _ _ _) (one_text _) hs1 hs3 (Nat.le_trans hB8.out.size (by simp)) ?_
                    intro A9 c9 w9 r1 r2 r3 r4 r5
                    have hB9 := Lib.hid ((hB8.out.alloc hB8.out.size (.cells #[.string s] 9)).trans r2)
                    have hP5 := Lib.hid (own_apart (hO5.out.alloc (.cells #[.string s] 9)) (hO7.out.alloc (.cells #[.string s] 9)) (by decide) r3)
                    have hP6 := Lib.hid (own_apart (hO6.out.alloc (.cells #[.string s] 9)) (hO7.out.alloc (.cells #[.string s] 9)) (by decide) r3)
                    have hP7 := Lib.hid r1
                    clear r1 r2 r3 r4 r5))
    have hP5 := Lib.hid (show w9.ownsRow w.heap.size 5 1 (.slice A5 m5 c5) m5 (u8s (outB 2 (l.take (j + 1)))) by rw [Hst.out]; exact hP5.out)
    have hP6 := Lib.hid (show w9.ownsRow w.heap.size 4 1 (.slice A8 (j + 1) c8) (j + 1) (bls ((l.take (j + 1)).map fun c => c.2.1 == 1)) by rw [Hmp.out.1, bls_append]; exact hP6.out)
    have hP7 := Lib.hid (show w9.ownsRow w.heap.size 9 1 (.slice A9 (j + 1) c9) (j + 1) (txs ((l.take (j + 1)).map fun c => c.2.2)) by rw [Hmp.out.2, txs_append]; exact hP7.out)
    go_roundw
    case rel => exact ⟨j + 1, A5, m5, c5, A8, c8, A9, c9, by omega, rfl, rfl, rfl, by go_num, by have := Hm5.out; omega, hP5, hP6, hP7, hB9⟩
    case measure => simp [intOf]; omega
   ·obtain rfl : j = n := by omega
    have hmap : l.take j = l := List.take_of_length_le (by rw [Hln.out]; exact Nat.le_refl _)
    rw [hmap] at HO5 HO6 HO7
    have Hpd := Lib.hid (putD_le (l.map fun c => c.2.2) (by intro s hs; obtain ⟨c, hc, rfl⟩ := List.mem_map.1 hs; exact Hsz.out c hc))
    obtain ⟨q1, q2⟩ := own_caps HO5.out
    obtain ⟨q3, q4⟩ := own_caps HO6.out
    obtain ⟨q5, q6⟩ := own_caps HO7.out
    have Q5 := Lib.hid (And.intro q1 q2)
    have Q6 := Lib.hid (And.intro q3 q4)
    have Q7 := Lib.hid (And.intro q5 q6)
    clear hmap hlt q1 q2 q3 q4 q5 q6
    have HE := Lib.hid (show bareB 2 l = outB 2 l by simp [bareB, outB])
    have Hlen := Lib.hid (show (outB 2 l).length = m5 by have := HO5.out.1; simpa using this)
    go_wp2
    go_ret
    rw [HE.out]
    refine ⟨A5, c5, ?_, by rw [Hlen.out]; exact Q5.out.1, Q5.out.2, by rw [Hlen.out]; exact HO5.out, HB.out⟩
    rw [Hlen.out]
    rfl
 ·go_enter Tryz.func149, Tryz.ntmps149
  go_wp2
  go_loopw [5, 6, 7, 8] (fun v5 v6 v7 i wr => ∃ (j : Nat) (A5 : Option Addr) (m5 c5 : Nat) (A6 : Option Addr) (c6 : Nat) (A7 : Option Addr) (c7 : Nat), j ≤ n ∧ v5 = .slice A5 m5 c5 ∧ v6 = .slice A6 j c6 ∧ v7 = .slice A7 j c7 ∧ i = .int .i64 (j : Int) ∧ m5 ≤ 2048 * j ∧
   Hid (wr.ownsRow w.heap.size 5 1 (.slice A5 m5 c5) m5 (u8s (outB 3 (l.take j)))) ∧ Hid (wr.ownsRow w.heap.size 4 1 (.slice A6 j c6) j (bls ((l.take j).map fun c => c.2.1 == 1))) ∧ Hid (wr.ownsRow w.heap.size 9 1 (.slice A7 j c7) j (txs ((l.take j).map fun c => c.2.2))) ∧ Hid (Below w.heap.size w wr)) (fun _ _ _ i _ => n - (intOf i).toNat)
  case atStart => exact ⟨0, none, 0, 0, none, 0, none, 0, Nat.zero_le _, rfl, rfl, rfl, rfl, Nat.le_refl _, Lib.hid (by rw [show outB 3 (l.take 0) = [] by simp [outB, intsB, rawsB]]; exact World.ownsRow_nil _ _ _ _), Lib.hid (World.ownsRow_nil _ _ _ _), Lib.hid (World.ownsRow_nil _ _ _ _), Lib.hid (Below.refl _ _)⟩
  case round =>
   obtain ⟨j, A5, m5, c5, A6, c6, A7, c7, hj, rfl, rfl, rfl, rfl, hm5, HO5, HO6, HO7, HB⟩ := hrel
   by_cases hlt : j < n
   ·obtain ⟨ad, u, m, s, rfl, hbk, hx, h0, h1, h2⟩ := cls_at Hr.out hlt
    have Hx := Lib.hid hx
    have hbk2 : (ad.add (j * 3)).block < w.heap.size := by rw [block_of_add]; exact hbk
    have HY1 := Lib.hid (show ∀ w', Below w.heap.size w w' → w'.cell? ⟨(ad.add (j * 3)).block, (ad.add (j * 3)).off + 1, none⟩ = some (.int .i64 m) from fun w' h => (h.cell (p := ⟨(ad.add (j * 3)).block, (ad.add (j * 3)).off + 1, none⟩) hbk2).trans h1)
    have HY2 := Lib.hid (show ∀ w', Below w.heap.size w w' → w'.cell? ⟨(ad.add (j * 3)).block, (ad.add (j * 3)).off + 2, none⟩ = some (.string s) from fun w' h => (h.cell (p := ⟨(ad.add (j * 3)).block, (ad.add (j * 3)).off + 2, none⟩) hbk2).trans h2)
    have Hok1 := Lib.hid (Hok.out _ (List.mem_of_getElem? hx))
    have Hsz1 := Lib.hid (Hsz.out _ (List.mem_of_getElem? hx))
    have Hmp := Lib.hid (show (l.take (j + 1)).map (fun c => c.2.1 == 1) = (l.take j).map (fun c => c.2.1 == 1) ++ [m == 1] ∧ (l.take (j + 1)).map (fun c => c.2.2) = (l.take j).map (fun c => c.2.2) ++ [s] by rw [List.take_add_one, hx]; simp)
    have hs1 : j + 1 ≤ maxLen := by simp only [maxLen]; omega
    have hs2 : (j + 1) * 1 ≤ 70368744177664 := by omega
    have hs3 : (j + 1) * 16 ≤ 70368744177664 := by omega
    have Hm5 := Lib.hid hm5
    have Hst1 := outB_one 3 l j _ hx
    clear hx hbk hbk2 h0 h1 h2 hm5
    have y1 := HY1.out _ HB.out
    have y2 := HY2.out _ HB.out
    have Hst := Lib.hid (Hst1 (leb (zig m)) (by simp [outB, intsB]))
    clear Hst1 y2
    go_wp2_with fail
    with_reducible refine (refPutInt_any A5 m5 c5 m _ _ (Reads.of_own HO5.out) (by have := Hm5.out; omega) Hok1.out.1 Hok1.out.2.1).mono ?_
    rintro e w5 ⟨A5', c5', rfl, q1, q2, q3, q4⟩
    have HO5 := Lib.hid (own_mono (own_mono q3 (Nat.le_refl _)) HB.out.size)
    have HO6 := Lib.hid (own_below HO6.out q4)
    have HO7 := Lib.hid (own_below HO7.out q4)
    have HB := Lib.hid (HB.out.trans (q4.mono HB.out.size))
    have hl := leb_le (zig m)
    have Hm5 := Lib.hid (show m5 + (leb (zig m)).length ≤ 2048 * j + 2048 by have := Hm5.out; omega)
    clear q1 q2 q3 q4 hl
    generalize m5 + (leb (zig m)).length = m5 at *
    generalize A5' = A5 at *
    generalize c5' = c5 at *
    have y1 := HY1.out _ HB.out
    have y2 := HY2.out _ HB.out
    go_wp2_with (at_builtin
                 first
                 | (refine wpList_append_any _ rfl (.tmp 43) (.tmp 50) 145 rfl w.heap.size 4 b0 (.bool false) 1 1 Tryz.underlying145 hb0 hb1 hb2 hb3 rfl (by decide) A6 j c6 _ rfl (HO6.out.alloc _) (some ⟨_, 0, none⟩) 1 1 [.bool (m == 1)] rfl (reads_new _ _ _) (one_bool _) hs1 hs2 (Nat.le_trans HB.out.size (by simp)) ?_
                    intro A8 c8 w8 r1 r2 r3 r4 r5
                    have hB8 := Lib.hid ((HB.out.alloc HB.out.size (.cells #[.bool (m == 1)] 4)).trans r2)
                    have hO5 := Lib.hid (own_apart (HO5.out.alloc (.cells #[.bool (m == 1)] 4)) (HO6.out.alloc (.cells #[.bool (m == 1)] 4)) (by decide) r3)
                    have hO7 := Lib.hid (own_apart (HO7.out.alloc (.cells #[.bool (m == 1)] 4)) (HO6.out.alloc (.cells #[.bool (m == 1)] 4)) (by decide) r3)
                    have hO6 := Lib.hid r1
                    have y2 := HY2.out _ hB8.out
                    have q6 := Lib.hid (And.intro r4 r5)
                    clear r1 r2 r3 r4 r5)
                 | (refine wpList_append_any _ rfl (.tmp 52) (.tmp 58) 240 rfl w.heap.size 9 t0 (.string ⟨#[]⟩) 1 16 Tryz.underlying240 ht0 ht1 ht2 ht3 rfl (by decide) A7 j c7 _ rfl (hO7.out.alloc _) (some ⟨_, 0, none⟩) 1 1 [.string s] rfl (reads_new _ _ _) (one_text _) hs1 hs3 (Nat.le_trans hB8.out.size (by simp)) ?_
                    intro A9 c9 w9 r1 r2 r3 r4 r5
                    have hB9 := Lib.hid ((hB8.out.alloc hB8.out.size (.cells #[.string s] 9)).trans r2)
                    have hP5 := Lib.hid (own_apart (hO5.out.alloc (.cells #[.string s] 9)) (hO7.out.alloc (.cells #[.string s] 9)) (by decide) r3)
                    have hP6 := Lib.hid (own_apart (hO6.out.alloc (.cells #[.string s] 9)) (hO7.out.alloc (.cells #[.string s] 9)) (by decide) r3)
                    have hP7 := Lib.hid r1
                    clear r1 r2 r3 r4 r5))
    have hP5 := Lib.hid (show w9.ownsRow w.heap.size 5 1 (.slice A5 m5 c5) m5 (u8s (outB 3 (l.take (j + 1)))) by rw [Hst.out]; exact hP5.out)
    have hP6 := Lib.hid (show w9.ownsRow w.heap.size 4 1 (.slice A8 (j + 1) c8) (j + 1) (bls ((l.take (j + 1)).map fun c => c.2.1 == 1)) by rw [Hmp.out.1, bls_append]; exact hP6.out)
    have hP7 := Lib.hid (show w9.ownsRow w.heap.size 9 1 (.slice A9 (j + 1) c9) (j + 1) (txs ((l.take (j + 1)).map fun c => c.2.2)) by rw [Hmp.out.2, txs_append]; exact hP7.out)
    go_roundw
    case rel => exact ⟨j + 1, A5, m5, c5, A8, c8, A9, c9, by omega, rfl, rfl, rfl, by go_num, by have := Hm5.out; omega, hP5, hP6, hP7, hB9⟩
    case measure => simp [intOf]; omega
   ·obtain rfl : j = n := by omega
    have hmap : l.take j = l := List.take_of_length_le (by rw [Hln.out]; exact Nat.le_refl _)
    rw [hmap] at HO5 HO6 HO7
    have Hpd := Lib.hid (putD_le (l.map fun c => c.2.2) (by intro s hs; obtain ⟨c, hc, rfl⟩ := List.mem_map.1 hs; exact Hsz.out c hc))
    obtain ⟨q1, q2⟩ := own_caps HO5.out
    obtain ⟨q3, q4⟩ := own_caps HO6.out
    obtain ⟨q5, q6⟩ := own_caps HO7.out
    have Q5 := Lib.hid (And.intro q1 q2)
    have Q6 := Lib.hid (And.intro q3 q4)
    have Q7 := Lib.hid (And.intro q5 q6)
    clear hmap hlt q1 q2 q3 q4 q5 q6
    have HE := Lib.hid (show bareB 3 l = outB 3 l by simp [bareB, outB])
    have Hlen := Lib.hid (show (outB 3 l).length = m5 by have := HO5.out.1; simpa using this)
    go_wp2
    go_ret
    rw [HE.out]
    refine ⟨A5, c5, ?_, by rw [Hlen.out]; exact Q5.out.1, Q5.out.2, by rw [Hlen.out]; exact HO5.out, HB.out⟩
    rw [Hlen.out]
    rfl
 ·go_enter Tryz.func149, Tryz.ntmps149
  go_wp2
  go_loopw [5, 6, 7, 8] (fun v5 v6 v7 i wr => ∃ (j : Nat) (A5 : Option Addr) (m5 c5 : Nat) (A6 : Option Addr) (c6 : Nat) (A7 : Option Addr) (c7 : Nat), j ≤ n ∧ v5 = .slice A5 m5 c5 ∧ v6 = .slice A6 j c6 ∧ v7 = .slice A7 j c7 ∧ i = .int .i64 (j : Int) ∧ m5 ≤ 2048 * j ∧
   Hid (wr.ownsRow w.heap.size 5 1 (.slice A5 m5 c5) m5 (u8s (outB 4 (l.take j)))) ∧ Hid (wr.ownsRow w.heap.size 4 1 (.slice A6 j c6) j (bls ((l.take j).map fun c => c.2.1 == 1))) ∧ Hid (wr.ownsRow w.heap.size 9 1 (.slice A7 j c7) j (txs ((l.take j).map fun c => c.2.2))) ∧ Hid (Below w.heap.size w wr)) (fun _ _ _ i _ => n - (intOf i).toNat)
  case atStart => exact ⟨0, none, 0, 0, none, 0, none, 0, Nat.zero_le _, rfl, rfl, rfl, rfl, Nat.le_refl _, Lib.hid (by rw [show outB 4 (l.take 0) = [] by simp [outB, intsB, rawsB]]; exact World.ownsRow_nil _ _ _ _), Lib.hid (World.ownsRow_nil _ _ _ _), Lib.hid (World.ownsRow_nil _ _ _ _), Lib.hid (Below.refl _ _)⟩
  case round =>
   obtain ⟨j, A5, m5, c5, A6, c6, A7, c7, hj, rfl, rfl, rfl, rfl, hm5, HO5, HO6, HO7, HB⟩ := hrel
   by_cases hlt : j < n
   ·obtain ⟨ad, u, m, s, rfl, hbk, hx, h0, h1, h2⟩ := cls_at Hr.out hlt
    have Hx := Lib.hid hx
    have hbk2 : (ad.add (j * 3)).block < w.heap.size := by rw [block_of_add]; exact hbk
    have HY1 := Lib.hid (show ∀ w', Below w.heap.size w w' → w'.cell? ⟨(ad.add (j * 3)).block, (ad.add (j * 3)).off + 1, none⟩ = some (.int .i64 m) from fun w' h => (h.cell (p := ⟨(ad.add (j * 3)).block, (ad.add (j * 3)).off + 1, none⟩) hbk2).trans h1)
    have HY2 := Lib.hid (show ∀ w', Below w.heap.size w w' → w'.cell? ⟨(ad.add (j * 3)).block, (ad.add (j * 3)).off + 2, none⟩ = some (.string s) from fun w' h => (h.cell (p := ⟨(ad.add (j * 3)).block, (ad.add (j * 3)).off + 2, none⟩) hbk2).trans h2)
    have Hok1 := Lib.hid (Hok.out _ (List.mem_of_getElem? hx))
    have Hsz1 := Lib.hid (Hsz.out _ (List.mem_of_getElem? hx))
    have Hmp := Lib.hid (show (l.take (j + 1)).map (fun c => c.2.1 == 1) = (l.take j).map (fun c => c.2.1 == 1) ++ [m == 1] ∧ (l.take (j + 1)).map (fun c => c.2.2) = (l.take j).map (fun c => c.2.2) ++ [s] by rw [List.take_add_one, hx]; simp)
    have hs1 : j + 1 ≤ maxLen := by simp only [maxLen]; omega
    have hs2 : (j + 1) * 1 ≤ 70368744177664 := by omega
    have hs3 : (j + 1) * 16 ≤ 70368744177664 := by omega
    have Hm5 := Lib.hid hm5
    have Hst1 := outB_one 4 l j _ hx
    clear hx hbk hbk2 h0 h1 h2 hm5
    have y1 := HY1.out _ HB.out
    have y2 := HY2.out _ HB.out
    have Hst := Lib.hid (show outB 4 (l.take (j + 1)) = outB 4 (l.take j) by rw [Hst1 [] (by simp [outB]), List.append_nil])
    clear Hst1
    go_wp2_with (at_builtin
                 first
                 | (refine wpList_append_any _ rfl (.tmp 43) (.tmp 50) 145 rfl w.heap.size 4 b0 (.bool false) 1 1 Tryz.underlying145 hb0 hb1 hb2 hb3 rfl (by decide) A6 j c6 _ rfl (HO6.out.alloc _) (some ⟨_, 0, none⟩) 1 1 [.bool (m == 1)] rfl (reads_new _ _ _) (one_bool _) hs1 hs2 (Nat.le_trans HB.out.size (by simp)) ?_
                    intro A8 c8 w8 r1 r2 r3 r4 r5
                    have hB8 := Lib.hid ((HB.out.alloc HB.out.size (.cells #[.bool (m == 1)] 4)).trans r2)
                    have hO5 := Lib.hid (own_apart (HO5.out.alloc (.cells #[.bool (m == 1)] 4)) (HO6.out.alloc (.cells #[.bool (m == 1)] 4)) (by decide) r3)
                    have hO7 := Lib.hid (own_apart (HO7.out.alloc (.cells #[.bool (m == 1)] 4)) (HO6.out.alloc (.cells #[.bool (m == 1)] 4)) (by decide) r3)
                    have hO6 := Lib.hid r1
                    have y2 := HY2.out _ hB8.out
                    have q6 := Lib.hid (And.intro r4 r5)
                    clear r1 r2 r3 r4 r5)
                 | (refine wpList_append_any _ rfl (.tmp 52) (.tmp 58) 240 rfl w.heap.size 9 t0 (.string ⟨#[]⟩) 1 16 Tryz.underlying240 ht0 ht1 ht2 ht3 rfl (by decide) A7 j c7 _ rfl (hO7.out.alloc _) (some ⟨_, 0, none⟩) 1 1 [.string s] rfl (reads_new _ _ _) (one_text _) hs1 hs3 (Nat.le_trans hB8.out.size (by simp)) ?_
                    intro A9 c9 w9 r1 r2 r3 r4 r5
                    have hB9 := Lib.hid ((hB8.out.alloc hB8.out.size (.cells #[.string s] 9)).trans r2)
                    have hP5 := Lib.hid (own_apart (hO5.out.alloc (.cells #[.string s] 9)) (hO7.out.alloc (.cells #[.string s] 9)) (by decide) r3)
                    have hP6 := Lib.hid (own_apart (hO6.out.alloc (.cells #[.string s] 9)) (hO7.out.alloc (.cells #[.string s] 9)) (by decide) r3)
                    have hP7 := Lib.hid r1
                    clear r1 r2 r3 r4 r5))
    have hP5 := Lib.hid (show w9.ownsRow w.heap.size 5 1 (.slice A5 m5 c5) m5 (u8s (outB 4 (l.take (j + 1)))) by rw [Hst.out]; exact hP5.out)
    have hP6 := Lib.hid (show w9.ownsRow w.heap.size 4 1 (.slice A8 (j + 1) c8) (j + 1) (bls ((l.take (j + 1)).map fun c => c.2.1 == 1)) by rw [Hmp.out.1, bls_append]; exact hP6.out)
    have hP7 := Lib.hid (show w9.ownsRow w.heap.size 9 1 (.slice A9 (j + 1) c9) (j + 1) (txs ((l.take (j + 1)).map fun c => c.2.2)) by rw [Hmp.out.2, txs_append]; exact hP7.out)
    go_roundw
    case rel => exact ⟨j + 1, A5, m5, c5, A8, c8, A9, c9, by omega, rfl, rfl, rfl, by go_num, by have := Hm5.out; omega, hP5, hP6, hP7, hB9⟩
    case measure => simp [intOf]; omega
   ·obtain rfl : j = n := by omega
    have hmap : l.take j = l := List.take_of_length_le (by rw [Hln.out]; exact Nat.le_refl _)
    rw [hmap] at HO5 HO6 HO7
    have Hpd := Lib.hid (putD_le (l.map fun c => c.2.2) (by intro s hs; obtain ⟨c, hc, rfl⟩ := List.mem_map.1 hs; exact Hsz.out c hc))
    obtain ⟨q1, q2⟩ := own_caps HO5.out
    obtain ⟨q3, q4⟩ := own_caps HO6.out
    obtain ⟨q5, q6⟩ := own_caps HO7.out
    have Q5 := Lib.hid (And.intro q1 q2)
    have Q6 := Lib.hid (And.intro q3 q4)
    have Q7 := Lib.hid (And.intro q5 q6)
    clear hmap hlt q1 q2 q3 q4 q5 q6
    have HE := Lib.hid (show bareB 4 l = putD (l.map fun c => c.2.2) by simp [bareB])
    go_wp2_with fail
    with_reducible refine (refdput_any none 0 0 [] A7 j c7 _ _ Reads.none_ (Reads.of_own HO7.out) (by omega) (by have := Hpd.out; rw [List.length_map, Hln.out] at this; simp only [List.nil_append]; omega)).mono ?_
    rw [List.nil_append]
    rintro e w5 ⟨AP, cP, rfl, q1, q2, q3, q4⟩
    have HW := Lib.hid (And.intro q1 (And.intro q2 (And.intro (own_mono q3 HB.out.size) (HB.out.trans (q4.mono HB.out.size)))))
    clear q1 q2 q3 q4
    go_wp2
    go_ret
    rw [HE.out]
    exact ⟨AP, cP, rfl, HW.out⟩
 ·go_enter Tryz.func149, Tryz.ntmps149
  go_wp2
  go_loopw [5, 6, 7, 8] (fun v5 v6 v7 i wr => ∃ (j : Nat) (A5 : Option Addr) (m5 c5 : Nat) (A6 : Option Addr) (c6 : Nat) (A7 : Option Addr) (c7 : Nat), j ≤ n ∧ v5 = .slice A5 m5 c5 ∧ v6 = .slice A6 j c6 ∧ v7 = .slice A7 j c7 ∧ i = .int .i64 (j : Int) ∧ m5 ≤ 2048 * j ∧
   Hid (wr.ownsRow w.heap.size 5 1 (.slice A5 m5 c5) m5 (u8s (outB 5 (l.take j)))) ∧ Hid (wr.ownsRow w.heap.size 4 1 (.slice A6 j c6) j (bls ((l.take j).map fun c => c.2.1 == 1))) ∧ Hid (wr.ownsRow w.heap.size 9 1 (.slice A7 j c7) j (txs ((l.take j).map fun c => c.2.2))) ∧ Hid (Below w.heap.size w wr)) (fun _ _ _ i _ => n - (intOf i).toNat)
  case atStart => exact ⟨0, none, 0, 0, none, 0, none, 0, Nat.zero_le _, rfl, rfl, rfl, rfl, Nat.le_refl _, Lib.hid (by rw [show outB 5 (l.take 0) = [] by simp [outB, intsB, rawsB]]; exact World.ownsRow_nil _ _ _ _), Lib.hid (World.ownsRow_nil _ _ _ _), Lib.hid (World.ownsRow_nil _ _ _ _), Lib.hid (Below.refl _ _)⟩
  case round =>
   obtain ⟨j, A5, m5, c5, A6, c6, A7, c7, hj, rfl, rfl, rfl, rfl, hm5, HO5, HO6, HO7, HB⟩ := hrel
   by_cases hlt : j < n
   ·obtain ⟨ad, u, m, s, rfl, hbk, hx, h0, h1, h2⟩ := cls_at Hr.out hlt
    have Hx := Lib.hid hx
    have hbk2 : (ad.add (j * 3)).block < w.heap.size := by rw [block_of_add]; exact hbk
    have HY1 := Lib.hid (show ∀ w', Below w.heap.size w w' → w'.cell? ⟨(ad.add (j * 3)).block, (ad.add (j * 3)).off + 1, none⟩ = some (.int .i64 m) from fun w' h => (h.cell (p := ⟨(ad.add (j * 3)).block, (ad.add (j * 3)).off + 1, none⟩) hbk2).trans h1)
    have HY2 := Lib.hid (show ∀ w', Below w.heap.size w w' → w'.cell? ⟨(ad.add (j * 3)).block, (ad.add (j * 3)).off + 2, none⟩ = some (.string s) from fun w' h => (h.cell (p := ⟨(ad.add (j * 3)).block, (ad.add (j * 3)).off + 2, none⟩) hbk2).trans h2)
    have Hok1 := Lib.hid (Hok.out _ (List.mem_of_getElem? hx))
    have Hsz1 := Lib.hid (Hsz.out _ (List.mem_of_getElem? hx))
    have Hmp := Lib.hid (show (l.take (j + 1)).map (fun c => c.2.1 == 1) = (l.take j).map (fun c => c.2.1 == 1) ++ [m == 1] ∧ (l.take (j + 1)).map (fun c => c.2.2) = (l.take j).map (fun c => c.2.2) ++ [s] by rw [List.take_add_one, hx]; simp)
    have hs1 : j + 1 ≤ maxLen := by simp only [maxLen]; omega
    have hs2 : (j + 1) * 1 ≤ 70368744177664 := by omega
    have hs3 : (j + 1) * 16 ≤ 70368744177664 := by omega
    have Hm5 := Lib.hid hm5
    have Hst1 := outB_one 5 l j _ hx
    clear hx hbk hbk2 h0 h1 h2 hm5
    have y1 := HY1.out _ HB.out
    have y2 := HY2.out _ HB.out
    have Hst := Lib.hid (Hst1 (leb s.size ++ s.data.toList) (by simp [outB, rawsB]))
    have Hwr := Lib.hid (show IntKind.u64.wrap (s.size : Int) = (s.size : Int) by have := Hsz1.out; simp [IntKind.wrap, IntKind.signed, IntKind.bits] at *; omega)
    clear Hst1 y1 y2
    go_wp2
    have hS : Below w.heap.size w wr.drew := HB.out.drew
    refine wp_region_keep (fun w' => Below w.heap.size w w') [(0, false), (1, false), (2, false), (3, false), (4, false), (5, false), (6, false), (7, false), (9, false), (10, false), (11, false), (12, false), (13, false), (8, true), (14, true), (15, false)] (by kernel_rfl) (by kernel_rfl) (by kernel_rfl) (fun d _ _ _ _ h => by cases d <;> exact h) ?_
    iterate 5
     refine held_pure (v := ?_) rfl rfl (by simp [Region.wanted, yielded]) hS ?_ ?_
     rotate_left
     ·intro w hw; go_simp; try with_reducible rfl
     try simp only [Act.put, zpA, zpB, zpC]
    refine held_pure (v := ?_) rfl rfl (by simp [Region.wanted, yielded]) hS ?_ ?_
    rotate_left
    ·intro w hw; have c0 := HY2.out w hw; clear hw; go_simp; try with_reducible rfl
    try simp only [Act.put, zpA, zpB, zpC]
    iterate 2
     refine held_pure (v := ?_) rfl rfl (by simp [Region.wanted, yielded]) hS ?_ ?_
     rotate_left
     ·intro w hw; go_simp; try with_reducible rfl
     try simp only [Act.put, zpA, zpB, zpC]
    rw [Hwr.out]
    iterate 4
     refine held_pure (v := ?_) rfl rfl (by simp [Region.wanted, yielded]) hS ?_ ?_
     rotate_left
     ·intro w hw; go_simp; try with_reducible rfl
     try simp only [Act.put, zpA, zpB, zpC]
    refine held_pure (v := ?_) rfl rfl (by simp [Region.wanted, yielded]) hS ?_ ?_
    rotate_left
    ·intro w hw; have c0 := HY2.out w hw; clear hw; go_simp; try with_reducible rfl
    try simp only [Act.put, zpA, zpB, zpC]
    refine held_eff1 rfl (by simp [Region.wanted, yielded]) fun K hK => ?_
    go_simp
    with_reducible refine (refPut_any A5 m5 c5 s.size _ _ (Reads.of_own (own_below HO5.out ((Below.refl _ _).drew))) (by have := Hm5.out; omega) (by have h2 : s.size ≤ 1024 := Hsz1.out; omega)).mono ?_
    rintro e w5 ⟨A8, c8, rfl, q1, q2, q3, q4⟩
    have P3 := Lib.hid (own_mono q3 hS.size)
    have HO6 := Lib.hid (own_below (own_below HO6.out ((Below.refl _ _).drew)) q4)
    have HO7 := Lib.hid (own_below (own_below HO7.out ((Below.refl _ _).drew)) q4)
    have hT := Lib.hid (hS.trans (q4.mono hS.size))
    clear q1 q2 q3 q4
    refine held_go hK (by exact hT.out) fun hS => ?_
    clear hK K
    try simp only [Act.put, zpA, zpB, zpC]
    have hln := Array.length_toList (xs := s.data)
    refine held_eff1 rfl (by simp [Region.wanted, yielded]) fun K hK => ?_
    refine wp_append_str (.tmp 36) (.tmp 41) 35 9 rfl w.heap.size 5 i0 Tryz.underlying35 Tryz.underlying9 hi0 hz0 hz1 hz2 A8 _ c8 _ rfl P3.out s rfl (by have := leb_le s.size; have h2 : s.size ≤ 1024 := Hsz1.out; have h3 : s.data.toList.length = s.size := hln; have := Hm5.out; omega) hS.size ?_
    intro A9 c9 w6 q3 q4 qg q1 q2
    have HO5 := Lib.hid q3
    have hsd : s.data.toList.length = s.size := hln
    rw [hsd] at HO5
    have HO6 := Lib.hid (own_apart HO6.out P3.out (by decide) qg)
    have HO7 := Lib.hid (own_apart HO7.out P3.out (by decide) qg)
    have hT := Lib.hid (hS.trans q4)
    clear q1 q2 q3 q4 qg
    refine held_go hK (by exact hT.out) fun hS => ?_
    clear hK K
    try simp only [Act.put, zpA, zpB, zpC]
    refine held_pure (v := ?_) rfl rfl (by simp [Region.wanted, yielded]) hS ?_ ?_
    rotate_left
    ·intro w hw; go_simp; try with_reducible rfl
    try simp only [Act.put, zpA, zpB, zpC]
    refine held_end ?_
    have HB := Lib.hid hS
    have Hst := Lib.hid (show outB 5 (l.take (j + 1)) = (outB 5 (l.take j) ++ leb s.size) ++ s.data.toList by rw [Hst.out, List.append_assoc])
    have hl := leb_le s.size
    have Hm5 := Lib.hid (show m5 + (leb s.size).length + s.size ≤ 2048 * j + 2048 by have := Hm5.out; have h2 : s.size ≤ 1024 := Hsz1.out; omega)
    clear hl hln hS hT P3 hsd
    generalize m5 + (leb s.size).length + s.size = m6 at *
    have y1 := HY1.out _ HB.out
    have y2 := HY2.out _ HB.out
    obtain ⟨A5, hA5⟩ : ∃ A5, A5 = A9 := ⟨_, rfl⟩
    obtain ⟨c5, hc5⟩ : ∃ c5, c5 = c9 := ⟨_, rfl⟩
    obtain ⟨m5, hm5'⟩ : ∃ m5, m5 = m6 := ⟨_, rfl⟩
    subst hA5 hc5 hm5'
    go_wp2_with (at_builtin
                 first
                 | (refine wpList_append_any _ rfl (.tmp 43) (.tmp 50) 145 rfl w.heap.size 4 b0 (.bool false) 1 1 Tryz.underlying145 hb0 hb1 hb2 hb3 rfl (by decide) A6 j c6 _ rfl (HO6.out.alloc _) (some ⟨_, 0, none⟩) 1 1 [.bool (m == 1)] rfl (reads_new _ _ _) (one_bool _) hs1 hs2 (Nat.le_trans HB.out.size (by simp)) ?_
                    intro A8 c8 w8 r1 r2 r3 r4 r5
                    have hB8 := Lib.hid ((HB.out.alloc HB.out.size (.cells #[.bool (m == 1)] 4)).trans r2)
                    have hO5 := Lib.hid (own_apart (HO5.out.alloc (.cells #[.bool (m == 1)] 4)) (HO6.out.alloc (.cells #[.bool (m == 1)] 4)) (by decide) r3)
                    have hO7 := Lib.hid (own_apart (HO7.out.alloc (.cells #[.bool (m == 1)] 4)) (HO6.out.alloc (.cells #[.bool (m == 1)] 4)) (by decide) r3)
                    have hO6 := Lib.hid r1
                    have y2 := HY2.out _ hB8.out
                    have q6 := Lib.hid (And.intro r4 r5)
                    clear r1 r2 r3 r4 r5)
                 | (refine wpList_append_any _ rfl (.tmp 52) (.tmp 58) 240 rfl w.heap.size 9 t0 (.string ⟨#[]⟩) 1 16 Tryz.underlying240 ht0 ht1 ht2 ht3 rfl (by decide) A7 j c7 _ rfl (hO7.out.alloc _) (some ⟨_, 0, none⟩) 1 1 [.string s] rfl (reads_new _ _ _) (one_text _) hs1 hs3 (Nat.le_trans hB8.out.size (by simp)) ?_
                    intro A9 c9 w9 r1 r2 r3 r4 r5
                    have hB9 := Lib.hid ((hB8.out.alloc hB8.out.size (.cells #[.string s] 9)).trans r2)
                    have hP5 := Lib.hid (own_apart (hO5.out.alloc (.cells #[.string s] 9)) (hO7.out.alloc (.cells #[.string s] 9)) (by decide) r3)
                    have hP6 := Lib.hid (own_apart (hO6.out.alloc (.cells #[.string s] 9)) (hO7.out.alloc (.cells #[.string s] 9)) (by decide) r3)
                    have hP7 := Lib.hid r1
                    clear r1 r2 r3 r4 r5))
    have hP5 := Lib.hid (show w9.ownsRow w.heap.size 5 1 (.slice A5 m5 c5) m5 (u8s (outB 5 (l.take (j + 1)))) by rw [Hst.out]; exact hP5.out)
    have hP6 := Lib.hid (show w9.ownsRow w.heap.size 4 1 (.slice A8 (j + 1) c8) (j + 1) (bls ((l.take (j + 1)).map fun c => c.2.1 == 1)) by rw [Hmp.out.1, bls_append]; exact hP6.out)
    have hP7 := Lib.hid (show w9.ownsRow w.heap.size 9 1 (.slice A9 (j + 1) c9) (j + 1) (txs ((l.take (j + 1)).map fun c => c.2.2)) by rw [Hmp.out.2, txs_append]; exact hP7.out)
    go_roundw
    case rel => exact ⟨j + 1, A5, m5, c5, A8, c8, A9, c9, by omega, rfl, rfl, rfl, by go_num, by have := Hm5.out; omega, hP5, hP6, hP7, hB9⟩
    case measure => simp [intOf]; omega
   ·obtain rfl : j = n := by omega
    have hmap : l.take j = l := List.take_of_length_le (by rw [Hln.out]; exact Nat.le_refl _)
    rw [hmap] at HO5 HO6 HO7
    have Hpd := Lib.hid (putD_le (l.map fun c => c.2.2) (by intro s hs; obtain ⟨c, hc, rfl⟩ := List.mem_map.1 hs; exact Hsz.out c hc))
    obtain ⟨q1, q2⟩ := own_caps HO5.out
    obtain ⟨q3, q4⟩ := own_caps HO6.out
    obtain ⟨q5, q6⟩ := own_caps HO7.out
    have Q5 := Lib.hid (And.intro q1 q2)
    have Q6 := Lib.hid (And.intro q3 q4)
    have Q7 := Lib.hid (And.intro q5 q6)
    clear hmap hlt q1 q2 q3 q4 q5 q6
    have HE := Lib.hid (show bareB 5 l = outB 5 l by simp [bareB, outB])
    have Hlen := Lib.hid (show (outB 5 l).length = m5 by have := HO5.out.1; simpa using this)
    go_wp2
    go_ret
    rw [HE.out]
    refine ⟨A5, c5, ?_, by rw [Hlen.out]; exact Q5.out.1, Q5.out.2, by rw [Hlen.out]; exact HO5.out, HB.out⟩
    rw [Hlen.out]
    rfl
end Go.Proofs.YtjpjalmilfgckaaGreatDoor
