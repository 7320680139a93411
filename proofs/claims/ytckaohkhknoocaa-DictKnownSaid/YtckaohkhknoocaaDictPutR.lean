/- Layer 15, walked: Put of the reference. -/
import Derived.Test.YtckaohkhknoocaaDictPut
set_option linter.unusedVariables false
set_option linter.unusedSimpArgs false
namespace Go.Proofs.Ytckaohkhknoocaa
open Go.RowKit
set_option maxRecDepth 100000 in
set_option maxHeartbeats 2000000 in
theorem refdput_any (A : Option Addr) (n c : Nat) (xs : List UInt8) (B : Option Addr) (m c2 : Nat) (l : List ByteArray) (w : World) (hr : Reads w w.heap.size 1 A n (u8s xs))
    (hr2 : Reads w w.heap.size 1 B m (txs l)) (hm : m ≤ 1099511627776) (htot : (xs ++ putD l).length ≤ 1099511627776) :
    Calls Try.prog 19 #[.slice A n c, .slice B m c2] w (Wrote (xs ++ putD l) w) := by
  obtain ⟨i0, hi0, hz0, hz1, hz2⟩ := info_parts u8_info
  have hst := put1_start l xs
  have Hlen2 := Lib.hid (tlen hr2)
  have hsl := splitL_len l
  have hsm := split_small l
  generalize hT : xs ++ putD l = tot at hst htot ⊢
  have Hst := Lib.hid hst
  have Hsm := Lib.hid hsm
  clear hT hst hsm
  go_enter Try.func19, Try.ntmps19
  go_wp2_with fail
  with_reducible refine (refsplit_any B m c2 l _ hr2 hm).mono ?_
  rintro e w1 ⟨A1, c3, A2, c4, rfl, g1, g2, g3, g4, o1, o2, hb1⟩
  have r1 := own_reads o1
  have r2 := own_reads o2
  have hr1 := hr.on hb1
  have hlx := reads_len hr
  have hnl : l.length = m := Hlen2.out
  rw [hnl] at g3 r2 hsl
  simp only [hnl]
  obtain ⟨hsl1, hsl2⟩ := hsl
  have HNS := Lib.hid hsl2
  generalize (splitL l).2 = ns at r2 Hst Hsm HNS
  have hd0 : (splitL l).1.length < 18446744073709551616 := by omega
  generalize (splitL l).1 = d at r1 Hst hsl1 g1 Hsm hd0 ⊢
  clear o1 o2 hnl hsl2 hr hr2
  have hnt : n ≤ 1099511627776 := by have h := congrArg List.length Hst.out; simp only [List.length_append] at h; omega
  clear hlx
  have hdm : d.length ≤ 1099511627776 := by omega
  go_wp2_with fail
  with_reducible refine (refPut_any A n c d.length xs _ hr1 hnt hd0).mono ?_
  rintro e w2 ⟨A3, c5, rfl, hc5, hd5, o3, hb2⟩
  have Hl3 := Lib.hid (reads_len (own_reads o3))
  go_wp2
  go_loopw [7, 8] (fun v i wr => ∃ (k q : Nat) (Aq : Option Addr) (cq : Nat) (cur : List UInt8), k ≤ d.length ∧ q ≤ cq ∧ cq ≤ maxLen ∧ i = .int .i64 (k : Int) ∧ v = .slice Aq q cq ∧ Hid (Put1 d ns tot k cur) ∧
    wr.ownsRow w1.heap.size 5 1 (.slice Aq q cq) q (u8s cur) ∧ Below w1.heap.size w1 wr) (fun _ i _ => d.length - (intOf i).toNat)
  case atStart => exact ⟨0, _, A3, c5, _, Nat.zero_le _, hc5, hd5, rfl, rfl, Hst, o3, hb2⟩
  case round =>
    clear o3 hb2 Hl3 hc5
    obtain ⟨k, q, Aq, cq, cur, hk, hq1, hq2, rfl, rfl, hp, hown, hB⟩ := hrel
    have Hq := Lib.hid (reads_len (own_reads hown))
    by_cases hlt : k < d.length
    · obtain ⟨ad, v, rfl, hbk, hx, hcell⟩ := r1.at_ hlt
      rw [← hB.cell (p := ad.add k) (by rw [block_of_add]; exact hbk)] at hcell
      obtain ⟨s, hs', rfl⟩ := txs_get _ _ _ hx
      obtain ⟨hp2, hle⟩ := put1_step hp.out hs'
      have hql : cur.length = q := Hq.out
      rw [hql] at hle
      have hss : s.size < 18446744073709551616 := by rw [← bts_len]; omega
      have hq0 : q ≤ 1099511627776 := by omega
      have hbl := bts_len s
      have Hp2 := Lib.hid hp2
      have hbs := hB.size
      have Hbl := Lib.hid hbl
      rw [hbl] at hle
      clear hx hs' hp2 hp hql hbl
      have hss2 : s.size ≤ 9223372036854775807 := by omega
      go_wp2
      have hS := hB.drew
      have hL : ∀ w', Below w1.heap.size w1 w' → w'.cell? (ad.add k) = some (.string s) := fun w' h => by
        rw [h.cell (p := ad.add k) (by rw [block_of_add]; exact hbk)]
        rwa [hB.cell (p := ad.add k) (by rw [block_of_add]; exact hbk)] at hcell
      have HL := Lib.hid hL
      clear hL hcell
      refine wp_region_keep (Below w1.heap.size w1) [(0, false), (1, false), (2, false), (3, false), (4, false), (5, false), (6, false), (8, false), (9, false), (10, false), (11, false), (7, true), (12, true), (13, false)] (by kernel_rfl) (by kernel_rfl) (by kernel_rfl) (fun d _ _ _ _ h => by cases d <;> exact h) ?_
      refine held_pure (v := ?_) rfl rfl (by simp [Region.wanted, yielded]) hS ?_ ?_
      rotate_left
      · intro w hw; go_simp; try with_reducible rfl
      try simp only [Act.put, List.setIfInBounds_toArray, List.set_cons_succ, List.set_cons_zero]
      refine held_pure (v := ?_) rfl rfl (by simp [Region.wanted, yielded]) hS ?_ ?_
      rotate_left
      · intro w hw; go_simp; try with_reducible rfl
      try simp only [Act.put, List.setIfInBounds_toArray, List.set_cons_succ, List.set_cons_zero]
      refine held_pure (v := ?_) rfl rfl (by simp [Region.wanted, yielded]) hS ?_ ?_
      rotate_left
      · intro w hw; go_simp; try with_reducible rfl
      try simp only [Act.put, List.setIfInBounds_toArray, List.set_cons_succ, List.set_cons_zero]
      refine held_pure (v := ?_) rfl rfl (by simp [Region.wanted, yielded]) hS ?_ ?_
      rotate_left
      · intro w hw; go_simp; try with_reducible rfl
      try simp only [Act.put, List.setIfInBounds_toArray, List.set_cons_succ, List.set_cons_zero]
      refine held_pure (v := ?_) rfl rfl (by simp [Region.wanted, yielded]) hS ?_ ?_
      rotate_left
      · intro w hw; have c0 := HL.out w hw; go_simp; try with_reducible rfl
      try simp only [Act.put, List.setIfInBounds_toArray, List.set_cons_succ, List.set_cons_zero]
      refine held_pure (v := ?_) rfl rfl (by simp [Region.wanted, yielded]) hS ?_ ?_
      rotate_left
      · intro w hw; go_simp; try with_reducible rfl
      try simp only [Act.put, List.setIfInBounds_toArray, List.set_cons_succ, List.set_cons_zero]
      refine held_pure (v := ?_) rfl rfl (by simp [Region.wanted, yielded]) hS ?_ ?_
      rotate_left
      · intro w hw; go_simp; try with_reducible rfl
      try simp only [Act.put, List.setIfInBounds_toArray, List.set_cons_succ, List.set_cons_zero]
      refine held_pure (v := ?_) rfl rfl (by simp [Region.wanted, yielded]) hS ?_ ?_
      rotate_left
      · intro w hw; go_simp; try with_reducible rfl
      try simp only [Act.put, List.setIfInBounds_toArray, List.set_cons_succ, List.set_cons_zero]
      refine held_pure (v := ?_) rfl rfl (by simp [Region.wanted, yielded]) hS ?_ ?_
      rotate_left
      · intro w hw; go_simp; try with_reducible rfl
      try simp only [Act.put, List.setIfInBounds_toArray, List.set_cons_succ, List.set_cons_zero]
      refine held_pure (v := ?_) rfl rfl (by simp [Region.wanted, yielded]) hS ?_ ?_
      rotate_left
      · intro w hw; go_simp; try with_reducible rfl
      try simp only [Act.put, List.setIfInBounds_toArray, List.set_cons_succ, List.set_cons_zero]
      refine held_pure (v := ?_) rfl rfl (by simp [Region.wanted, yielded]) hS ?_ ?_
      rotate_left
      · intro w hw; have c0 := HL.out w hw; go_simp; try with_reducible rfl
      try simp only [Act.put, List.setIfInBounds_toArray, List.set_cons_succ, List.set_cons_zero]
      refine held_eff1 rfl (by simp [Region.wanted, yielded]) fun K hK => ?_
      go_simp
      rw [u64_wrap _ hss]
      with_reducible refine (refPut_any Aq q cq s.size cur _ (own_reads hown).drew hq0 hss).mono ?_
      rintro e w3 ⟨A6, c6, rfl, hc6, hd6, o6, hb3⟩
      replace o6 := own_mono o6 hbs
      have hB3 := hB.drew.trans (hb3.mono hbs)
      have hbase3 := hB3.size
      have hs63 : q + (leb s.size).length + s.data.toList.length ≤ 70368744177664 := by
        have := Hbl.out
        unfold bts at this
        omega
      refine held_go hK (by exact hB3) fun hS => ?_
      clear hK K
      try simp only [Act.put, List.setIfInBounds_toArray, List.set_cons_succ, List.set_cons_zero]
      refine held_eff1 rfl (by simp [Region.wanted, yielded]) fun K hK => ?_
      refine wp_append_str (.tmp 33) (.tmp 37) 23 9 rfl w1.heap.size 5 i0 Try.underlying23 Try.underlying9 hi0 hz0 hz1 hz2 A6 _ c6 _ rfl o6 s rfl hs63 hbase3 ?_
      intro A7 c7 w7 o7 hb7 hg7 hc7 hd7
      refine held_go hK (by exact hB3.trans hb7) fun hS => ?_
      clear hK K
      try simp only [Act.put, List.setIfInBounds_toArray, List.set_cons_succ, List.set_cons_zero]
      refine held_pure (v := ?_) rfl rfl (by simp [Region.wanted, yielded]) hS ?_ ?_
      rotate_left
      · intro w hw; go_simp; try with_reducible rfl
      try simp only [Act.put, List.setIfInBounds_toArray, List.set_cons_succ, List.set_cons_zero]
      refine held_end ?_
      go_wp2
      have hB7 := hB3.trans hb7
      have Hp3 : Hid (Put1 d ns tot (k + 1) (cur ++ leb s.size ++ s.data.toList)) := by
        have := Hp2.out
        rw [Hbl.out] at this
        exact this
      go_roundw
      case rel => exact ⟨k + 1, _, A7, c7, _, by omega, hc7, hd7, by go_num, rfl, Hp3, o7, hB7⟩
      case measure => simp [intOf]; omega
    · have hkd : k = d.length := by omega
      subst hkd
      have Hp0 := Lib.hid (put1_end hp.out)
      clear hp
      go_wp2
      go_loopw [7, 9] (fun v i wr => ∃ (k q : Nat) (Aq : Option Addr) (cq : Nat) (cur : List UInt8), k ≤ m ∧ q ≤ cq ∧ cq ≤ maxLen ∧ i = .int .i64 (k : Int) ∧ v = .slice Aq q cq ∧ Hid (Put2 ns tot k cur) ∧
        wr.ownsRow w1.heap.size 5 1 (.slice Aq q cq) q (u8s cur) ∧ Below w1.heap.size w1 wr) (fun _ i _ => m - (intOf i).toNat)
      case atStart => exact ⟨0, _, Aq, cq, _, Nat.zero_le _, hq1, hq2, rfl, rfl, Hp0, hown, hB⟩
      case round =>
        clear hown hB Hq hq1
        obtain ⟨k, q, Aq, cq, cur, hk, hq1, hq2, rfl, rfl, hp, hown, hB⟩ := hrel
        have Hq := Lib.hid (reads_len (own_reads hown))
        by_cases hlt : k < m
        · obtain ⟨ad, v, rfl, hbk, hx, hcell⟩ := r2.at_ hlt
          rw [← hB.cell (p := ad.add k) (by rw [block_of_add]; exact hbk)] at hcell
          obtain ⟨y, hs', rfl⟩ := nns_get _ _ _ hx
          obtain ⟨hp2, hle⟩ := put2_step hp.out hs'
          have hql : cur.length = q := Hq.out
          rw [hql] at hle
          have hy := Hsm.out y (List.mem_of_getElem? hs')
          have hy0 : y < 18446744073709551616 := by omega
          have hy1 : y ≤ 9223372036854775807 := by omega
          have hq0 : q ≤ 1099511627776 := by omega
          have Hp2 := Lib.hid hp2
          have hbs := hB.size
          clear hx hs' hp2 hp hql
          go_wp2_with fail
          with_reducible refine (refPut_any Aq q cq y cur _ (own_reads hown) hq0 hy0).mono ?_
          rintro e w3 ⟨A6, c6, rfl, hc6, hd6, o6, hb3⟩
          replace o6 := own_mono o6 hbs
          have hB3 := hB.trans (hb3.mono hbs)
          go_wp2
          go_roundw
          case rel => exact ⟨k + 1, _, A6, c6, _, by omega, hc6, hd6, by go_num, rfl, Hp2, o6, hB3⟩
          case measure => simp [intOf]; omega
        · have hkm : k = ns.length := by have := HNS.out; omega
          have hp0 := hp.out
          rw [hkm] at hp0
          have Hp0 := Lib.hid (put2_end hp0)
          clear hp0 hp hkm
          go_wp2
          go_ret
          have hcur := Hp0.out
          have hql := Hq.out
          subst hcur hql
          exact ⟨Aq, cq, rfl, hq1, hq2, own_mono hown hb1.size, hb1.trans (hB.mono hb1.size)⟩
end Go.Proofs.Ytckaohkhknoocaa
