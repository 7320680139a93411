/- The law GramOne, walked. Conditions: none of its own; each lemma states what it asks. -/
import Derived.Test.YtegcbjkikhheiaaGreatDoorGm23
set_option linter.unusedVariables false
set_option linter.unusedSimpArgs false
namespace Go.Proofs.YtegcbjkikhheiaaGreatDoor
open Go.RowKit
set_option maxRecDepth 100000 in
set_option maxHeartbeats 8000000 in
theorem gramOne_walk (A : Option Addr) (n c : Nat) (l : List Co) (v s : Int) (I : Option Addr) (m d : Nat) (li : List It) (v2 s2 : Int) (I2 : Option Addr) (m2 d2 : Nat) (lj : List It) (w : World) (hr : Reads w w.heap.size 7 A n (cos l)) (hn : n ≤ c) (hc : c ≤ maxLen) (hok : CoOk l)
    (hv : -9223372036854775808 ≤ v ∧ v ≤ 9223372036854775807) (hs : -9223372036854775808 ≤ s ∧ s ≤ 9223372036854775807) (hi : ItemsAt w w.heap.size I m li) (hm : m ≤ d) (hd : d ≤ maxLen) (hit : ItOk li)
    (hv2 : -9223372036854775808 ≤ v2 ∧ v2 ≤ 9223372036854775807) (hs2 : -9223372036854775808 ≤ s2 ∧ s2 ≤ 9223372036854775807) (hi2 : ItemsAt w w.heap.size I2 m2 lj) (hm2 : m2 ≤ d2) (hd2 : d2 ≤ maxLen) (hit2 : ItOk lj) (hT : Tab2 w.heap.size w) :
    Calls Tryz.prog 8 #[.slice A n c, .agg #[.int .i64 v, .int .i64 s, .slice I m d], .agg #[.int .i64 v2, .int .i64 s2, .slice I2 m2 d2]] w fun e w' => e = .returned (.bool true) ∧ Below w.heap.size w w' := by
  have Hr := Lib.hid hr
  have HT := Lib.hid hT
  have Hi := Lib.hid hi
  have Hi2 := Lib.hid hi2
  have Hit := Lib.hid hit
  have Hit2 := Lib.hid hit2
  have Hs := Lib.hid hs.2
  have Hs2 := Lib.hid hs2.2
  have hmm : m ≤ maxLen := Nat.le_trans hm hd
  have hmm2 : m2 ≤ maxLen := Nat.le_trans hm2 hd2
  have HP := Lib.hid ((Blk.new w 25 #[.int .i64 v, .int .i64 s, .slice I m d]).alloc (.cells #[.int .i64 v2, .int .i64 s2, .slice I2 m2 d2] 25))
  have HQ := Lib.hid (Blk.new (w.alloc (.cells #[.int .i64 v, .int .i64 s, .slice I m d] 25)) 25 #[.int .i64 v2, .int .i64 s2, .slice I2 m2 d2])
  rw [show (w.alloc (.cells #[.int .i64 v, .int .i64 s, .slice I m d] 25)).heap.size = w.heap.size + 1 by simp] at HQ
  have HB := Lib.hid (bal (bal (Below.refl w.heap.size w) (.cells #[.int .i64 v, .int .i64 s, .slice I m d] 25)) (.cells #[.int .i64 v2, .int .i64 s2, .slice I2 m2 d2] 25))
  clear hr hT hi hit hs hv hm hd hok hv2 hs2 hi2 hm2 hd2 hit2
  go_enter Tryz.func8, Tryz.ntmps8
  go_wp2
  generalize hW : (w.alloc (.cells #[.int .i64 v, .int .i64 s, .slice I m d] 25)).alloc (.cells #[.int .i64 v2, .int .i64 s2, .slice I2 m2 d2] 25) = W1 at *
  clear hW
  have HL0 := Lib.hid (show ∀ w', Below W1.heap.size W1 w' → w'.cell? ⟨w.heap.size, 0, none⟩ = some (.int .i64 v) from fun w' h => (HP.out.on h).cell 0)
  have HL1 := Lib.hid (show ∀ w', Below W1.heap.size W1 w' → w'.cell? ⟨w.heap.size, 1, none⟩ = some (.int .i64 s) from fun w' h => (HP.out.on h).cell 1)
  have HL2 := Lib.hid (show ∀ w', Below W1.heap.size W1 w' → w'.cell? ⟨w.heap.size, 2, none⟩ = some (.slice I m d) from fun w' h => (HP.out.on h).cell 2)
  have HM0 := Lib.hid (show ∀ w', Below W1.heap.size W1 w' → w'.cell? ⟨w.heap.size + 1, 0, none⟩ = some (.int .i64 v2) from fun w' h => (HQ.out.on h).cell 0)
  have HM1 := Lib.hid (show ∀ w', Below W1.heap.size W1 w' → w'.cell? ⟨w.heap.size + 1, 1, none⟩ = some (.int .i64 s2) from fun w' h => (HQ.out.on h).cell 1)
  have HM2 := Lib.hid (show ∀ w', Below W1.heap.size W1 w' → w'.cell? ⟨w.heap.size + 1, 2, none⟩ = some (.slice I2 m2 d2) from fun w' h => (HQ.out.on h).cell 2)
  have hS : Below W1.heap.size W1 W1.drew := (Below.refl _ _).drew
  refine wp_region_phase (fun w' => Below W1.heap.size W1 w') [0, 2, 4] [(0, false), (2, false), (4, false), (1, true), (3, true), (5, true)] (fun _ => True) [(6, false), (7, true), (8, true)] (by kernel_rfl) (by kernel_rfl) (by kernel_rfl) (fun d _ _ _ _ h => by cases d <;> exact h) ?_
  refine phase_pure (v := ?_) rfl rfl (by simp [Region.wanted, yielded]) hS ?_ ?_
  rotate_left
  · intro w hw; go_simp; try with_reducible rfl
  try simp only [Act.put, List.setIfInBounds_toArray, List.set_cons_succ, List.set_cons_zero]
  refine phase_pure (v := ?_) rfl rfl (by simp [Region.wanted, yielded]) hS ?_ ?_
  rotate_left
  · intro w hw; have c0 := HL0.out w hw; have c1 := HL1.out w hw; have c2 := HL2.out w hw; clear hw; go_simp; try with_reducible rfl
  try simp only [Act.put, List.setIfInBounds_toArray, List.set_cons_succ, List.set_cons_zero]
  refine phase_pure (v := ?_) rfl rfl (by simp [Region.wanted, yielded]) hS ?_ ?_
  rotate_left
  · intro w hw; have c0 := HM0.out w hw; have c1 := HM1.out w hw; have c2 := HM2.out w hw; clear hw; go_simp; try with_reducible rfl
  try simp only [Act.put, List.setIfInBounds_toArray, List.set_cons_succ, List.set_cons_zero]
  refine phase_eff1 rfl (by simp [Region.wanted, yielded]) fun K hK => ?_
  go_simp
  with_reducible refine (columns18_any A n c l _ (Hr.out.on (bon HB.out hS)) hn hc).mono ?_
  rintro e w2 ⟨A1, k1, c1, rfl, hk1, o1, hb2⟩
  have HS2 := Lib.hid (bon hS hb2)
  have HO := Lib.hid o1
  clear o1 hb2
  refine held_go hK (by exact HS2.out) fun hS => ?_
  clear hK K
  try simp only [Act.put, List.setIfInBounds_toArray, List.set_cons_succ, List.set_cons_zero]
  refine phase_eff1 rfl (by simp [Region.wanted, yielded]) fun K hK => ?_
  go_simp
  with_reducible refine (cut18_any v s I m d li _ (Hi.out.on (bon HB.out HS2.out)) hmm Hit.out).mono ?_
  rintro e w3 ⟨A3, k3, c3, rfl, o3, hb3⟩
  have HS3 := Lib.hid (bon HS2.out hb3)
  have HO := Lib.hid (own_below HO.out hb3)
  have HIo := Lib.hid o3
  clear o3 hb3
  refine held_go hK (by exact HS3.out) fun hS => ?_
  clear hK K
  try simp only [Act.put, List.setIfInBounds_toArray, List.set_cons_succ, List.set_cons_zero]
  refine phase_eff1 rfl (by simp [Region.wanted, yielded]) fun K hK => ?_
  go_simp
  with_reducible refine (cut18_any v2 s2 I2 m2 d2 lj _ (Hi2.out.on (bon HB.out HS3.out)) hmm2 Hit2.out).mono ?_
  rintro e w3b ⟨A4, k4, c4, rfl, o4, hb4⟩
  have HS4 := Lib.hid (bon HS3.out hb4)
  have HO := Lib.hid (own_below HO.out hb4)
  have HIo := Lib.hid (HIo.out.below hb4)
  have HIp := Lib.hid o4
  clear o4 hb4
  refine held_go hK (by exact HS4.out) fun hS => ?_
  clear hK K
  try simp only [Act.put, List.setIfInBounds_toArray, List.set_cons_succ, List.set_cons_zero]
  refine phase_end ?_
  have HP3 := Lib.hid (HP.out.on HS4.out)
  have HQ3 := Lib.hid (HQ.out.on HS4.out)
  have HBc := Lib.hid (bon HB.out HS4.out)
  clear hS HL0 HL1 HL2 HM0 HM1 HM2 HS2 HS3 HP HQ
  have hS : True := trivial
  refine held_pure (v := ?_) rfl rfl (by simp [Region.wanted, yielded]) hS ?_ ?_
  rotate_left
  · intro w hw; go_simp; try with_reducible rfl
  try simp only [Act.put, List.setIfInBounds_toArray, List.set_cons_succ, List.set_cons_zero]
  have a0 := HP3.out.cell 0
  have a1 := HP3.out.cell 1
  have a2 := HP3.out.cell 2
  have f0 := HP3.out.frozen 0
  have f1 := HP3.out.frozen 1
  have f2 := HP3.out.frozen 2
  refine held_eff1 rfl (by simp [Region.wanted, yielded]) fun K hK => ?_
  go_simp
  clear a0 a1 a2 f0 f1 f2
  obtain ⟨w4, hw4⟩ : ∃ w4, w4 = ((w3b.setCell ⟨w.heap.size, 0, none⟩ (.int .i64 v)).setCell ⟨w.heap.size, 1, none⟩ (.int .i64 s)).setCell ⟨w.heap.size, 2, none⟩ (.slice A3 k3 c3) := ⟨_, rfl⟩
  obtain ⟨g1, g2, g3, g4, g5, g6⟩ := box_put HP3.out HIo.out hw4
  rw [← hw4]
  have HQ4 := Lib.hid (g6 HQ3.out (by omega))
  have HBc := Lib.hid (HBc.out.trans (g3 _ (Nat.le_refl _)))
  have HO := Lib.hid (g4 HO.out (by decide))
  have HIo := Lib.hid g2
  have HIp := Lib.hid (g5 HIp.out)
  have HP4 := Lib.hid g1
  clear g1 g2 g3 g4 g5 g6 HP3 HQ3 HS4 hw4
  refine held_go hK (by exact trivial) fun hS => ?_
  clear hK K
  try simp only [Act.put, List.setIfInBounds_toArray, List.set_cons_succ, List.set_cons_zero]
  have a0 := HQ4.out.cell 0
  have a1 := HQ4.out.cell 1
  have a2 := HQ4.out.cell 2
  have f0 := HQ4.out.frozen 0
  have f1 := HQ4.out.frozen 1
  have f2 := HQ4.out.frozen 2
  refine held_eff1 rfl (by simp [Region.wanted, yielded]) fun K hK => ?_
  go_simp
  clear a0 a1 a2 f0 f1 f2
  obtain ⟨w5, hw5⟩ : ∃ w5, w5 = ((w4.setCell ⟨w.heap.size + 1, 0, none⟩ (.int .i64 v2)).setCell ⟨w.heap.size + 1, 1, none⟩ (.int .i64 s2)).setCell ⟨w.heap.size + 1, 2, none⟩ (.slice A4 k4 c4) := ⟨_, rfl⟩
  obtain ⟨g1, g2, g3, g4, g5, g6⟩ := box_put HQ4.out HIp.out hw5
  rw [← hw5]
  have hk3 : k3 ≤ 30 := by
    have := HIo.out.len
    have := cutl_len li
    omega
  have hk4 : k4 ≤ 30 := by
    have := HIp.out.len
    have := cutl_len lj
    omega
  have hbw := g3 w.heap.size (by omega)
  have H := Lib.hid (show LawB w A1 k1 (l.take 40) v s A3 k3 c3 (cutl li) w5 from ⟨HBc.out.trans hbw, g6 HP4.out (by omega), own_reads (g4 HO.out (by decide)), (g5 HIo.out).at_, HT.out.on (HBc.out.trans hbw), hk1, hk3, cutl_ok Hit.out, Hs.out⟩)
  have HQ := Lib.hid g1
  have HJ := Lib.hid g2.at_
  have HC3 := Lib.hid HIo.out.caps
  generalize l.take 40 = lc at H
  clear hw5 g1 g2 g3 g4 g5 g6 HP4 HQ4 HO HIo HIp HBc hbw
  refine held_go hK (by exact trivial) fun hS => ?_
  clear hK K
  try simp only [Act.put, List.setIfInBounds_toArray, List.set_cons_succ, List.set_cons_zero]
  refine held_end ?_
  have Hit2 := Lib.hid (cutl_ok Hit2.out)
  clear HB Hr Hi Hi2 Hit Hs hS
  generalize cutl li = la at *
  generalize cutl lj = lb at *
  have hk4m : k4 ≤ maxLen := Nat.le_trans hk4 (by decide)
  have Hbo2 := Lib.hid (show BaOk (v2, s2, lb) from baOk_of Hs2.out Hit2.out)
  have a0 := H.out.box.cell 0
  have a1 := H.out.box.cell 1
  have a2 := H.out.box.cell 2
  go_wp2_with fail
  with_reducible refine (benc_any A1 k1 c1 lc v s A3 k3 c3 la _ H.out.cols H.out.max1 H.out.items H.out.max2 H.out.baok H.out.ok H.out.tab).mono ?_
  rintro e w6 ⟨hb6, ⟨hE, A6, c6, rfl, ho⟩ | ⟨hE, rfl⟩⟩
  · have hcc := own_caps ho
    have hsame := fun hb => match_same (cs := lc) (a := (v, s, la)) (b := (v2, s2, lb)) hE hb H.out.baok Hbo2.out
    have Hsame := Lib.hid hsame
    generalize encA lc (v, s, la) = xs at *
    obtain ⟨xl, hxl⟩ : ∃ xl, xs.length = xl := ⟨_, rfl⟩
    rw [hxl] at ho hcc ⊢
    have HX := Lib.hid (own_reads ho)
    have hxm : xl ≤ maxLen := Nat.le_trans hcc.1 hcc.2
    replace H := Lib.hid (H.out.on hb6)
    replace HQ := Lib.hid (HQ.out.on hb6)
    replace HJ := Lib.hid (HJ.out.on hb6)
    clear a0 a1 a2 ho hb6 hE hcc hxl hsame
    have q0 := HQ.out.cell 0
    have q1 := HQ.out.cell 1
    have q2 := HQ.out.cell 2
    go_wp2_with fail
    with_reducible refine (bCheck_any A1 k1 c1 lc v2 s2 A4 k4 c4 lb _ H.out.cols H.out.max1 HJ.out hk4m H.out.tab.tabs).mono ?_
    rintro e w7 ⟨rfl, hb7⟩
    replace H := Lib.hid (H.out.on hb7)
    replace HQ := Lib.hid (HQ.out.on hb7)
    replace HJ := Lib.hid (HJ.out.on hb7)
    replace HX := Lib.hid (HX.out.on hb7)
    clear hb7 q0 q1 q2
    by_cases hE2 : batE lc (v2, s2, lb) = 0
    · have HS := Lib.hid (Hsame.out hE2)
      rw [hE2]
      clear hE2 Hsame
      have q0 := HQ.out.cell 0
      have q1 := HQ.out.cell 1
      have q2 := HQ.out.cell 2
      go_wp2
      have HL0 := Lib.hid (show ∀ w', Below w7.heap.size w7 w' → w'.cell? ⟨w.heap.size, 0, none⟩ = some (.int .i64 v) from fun w' h => (H.out.box.on h).cell 0)
      have HL1 := Lib.hid (show ∀ w', Below w7.heap.size w7 w' → w'.cell? ⟨w.heap.size, 1, none⟩ = some (.int .i64 s) from fun w' h => (H.out.box.on h).cell 1)
      have HL2 := Lib.hid (show ∀ w', Below w7.heap.size w7 w' → w'.cell? ⟨w.heap.size, 2, none⟩ = some (.slice A3 k3 c3) from fun w' h => (H.out.box.on h).cell 2)
      have HM0 := Lib.hid (show ∀ w', Below w7.heap.size w7 w' → w'.cell? ⟨w.heap.size + 1, 0, none⟩ = some (.int .i64 v2) from fun w' h => (HQ.out.on h).cell 0)
      have HM1 := Lib.hid (show ∀ w', Below w7.heap.size w7 w' → w'.cell? ⟨w.heap.size + 1, 1, none⟩ = some (.int .i64 s2) from fun w' h => (HQ.out.on h).cell 1)
      have HM2 := Lib.hid (show ∀ w', Below w7.heap.size w7 w' → w'.cell? ⟨w.heap.size + 1, 2, none⟩ = some (.slice A4 k4 c4) from fun w' h => (HQ.out.on h).cell 2)
      clear q0 q1 q2 HQ
      have hS : Below w7.heap.size w7 w7.drew := (Below.refl _ _).drew
      obtain ⟨mv, hmv⟩ : ∃ mv, matchV lc (v2, s2, lb) xs = mv := ⟨_, rfl⟩
      have Hmv := Lib.hid hmv
      replace HS := Lib.hid (show (mv == 0) = sameBa (v, s, la) (v2, s2, lb) by rw [← hmv]; exact HS.out)
      have dq : ((mv == 0) == (mv == 0)) = true := by simp
      clear hmv
      refine wp_region_keep (fun w' => Below w7.heap.size w7 w') [(0, false), (1, false), (2, false), (5, false), (6, false), (3, true), (4, false), (7, true), (8, false), (9, false), (10, true), (11, false), (12, false)] (by kernel_rfl) (by kernel_rfl) (by kernel_rfl) (fun d _ _ _ _ h => by cases d <;> exact h) ?_
      refine held_pure (v := ?_) rfl rfl (by simp [Region.wanted, yielded]) hS ?_ ?_
      rotate_left
      · intro w hw; go_simp; try with_reducible rfl
      try simp only [Act.put, List.setIfInBounds_toArray, List.set_cons_succ, List.set_cons_zero]
      refine held_pure (v := ?_) rfl rfl (by simp [Region.wanted, yielded]) hS ?_ ?_
      rotate_left
      · intro w hw; have c0 := HM0.out w hw; have c1 := HM1.out w hw; have c2 := HM2.out w hw; clear hw; go_simp; try with_reducible rfl
      try simp only [Act.put, List.setIfInBounds_toArray, List.set_cons_succ, List.set_cons_zero]
      refine held_pure (v := ?_) rfl rfl (by simp [Region.wanted, yielded]) hS ?_ ?_
      rotate_left
      · intro w hw; go_simp; try with_reducible rfl
      try simp only [Act.put, List.setIfInBounds_toArray, List.set_cons_succ, List.set_cons_zero]
      refine held_pure (v := ?_) rfl rfl (by simp [Region.wanted, yielded]) hS ?_ ?_
      rotate_left
      · intro w hw; have c0 := HL0.out w hw; have c1 := HL1.out w hw; have c2 := HL2.out w hw; clear hw; go_simp; try with_reducible rfl
      try simp only [Act.put, List.setIfInBounds_toArray, List.set_cons_succ, List.set_cons_zero]
      refine held_pure (v := ?_) rfl rfl (by simp [Region.wanted, yielded]) hS ?_ ?_
      rotate_left
      · intro w hw; have c0 := HM0.out w hw; have c1 := HM1.out w hw; have c2 := HM2.out w hw; clear hw; go_simp; try with_reducible rfl
      try simp only [Act.put, List.setIfInBounds_toArray, List.set_cons_succ, List.set_cons_zero]
      refine held_eff1 rfl (by simp [Region.wanted, yielded]) fun K hK => ?_
      go_simp
      with_reducible refine (gmatch_any A1 k1 c1 lc v2 s2 A4 k4 c4 lb A6 xl c6 xs _ (H.out.on hS).cols H.out.max1 (HJ.out.on hS) hk4m Hs2.out Hit2.out (HX.out.on hS) hxm (H.out.on hS).tab).mono ?_
      rw [Hmv.out]
      rintro e w8 ⟨rfl, hb8⟩
      have HS8 := Lib.hid (bon hS hb8)
      clear hb8
      refine held_go hK (by exact HS8.out) fun hS => ?_
      clear hK K
      try simp only [Act.put, List.setIfInBounds_toArray, List.set_cons_succ, List.set_cons_zero]
      refine held_pure (v := ?_) rfl rfl (by simp [Region.wanted, yielded]) hS ?_ ?_
      rotate_left
      · intro w hw; go_simp; try with_reducible rfl
      try simp only [Act.put, List.setIfInBounds_toArray, List.set_cons_succ, List.set_cons_zero]
      refine held_eff1 rfl (by simp [Region.wanted, yielded]) fun K hK => ?_
      go_simp
      with_reducible refine (bsame_any v s A3 k3 c3 la v2 s2 A4 k4 c4 lb _ (H.out.on hS).items (HJ.out.on hS) H.out.max2).mono ?_
      rw [← HS.out]
      rintro e w9 ⟨rfl, hb9⟩
      have HS9 := Lib.hid (bon hS hb9)
      clear hb9
      refine held_go hK (by exact HS9.out) fun hS => ?_
      clear hK K
      try simp only [Act.put, List.setIfInBounds_toArray, List.set_cons_succ, List.set_cons_zero]
      refine held_pure (v := ?_) rfl rfl (by simp [Region.wanted, yielded]) hS ?_ ?_
      rotate_left
      · intro w hw; go_simp; try with_reducible rfl
      try simp only [Act.put, List.setIfInBounds_toArray, List.set_cons_succ, List.set_cons_zero]
      refine held_pure (v := ?_) rfl rfl (by simp [Region.wanted, yielded]) hS ?_ ?_
      rotate_left
      · intro w hw; go_simp; try with_reducible rfl
      try simp only [Act.put, List.setIfInBounds_toArray, List.set_cons_succ, List.set_cons_zero]
      refine held_eff1 rfl (by simp [Region.wanted, yielded]) fun K hK => ?_
      go_simp
      with_reducible refine (gworks_yes _ (H.out.on hS).tab).mono ?_
      rintro e w10 ⟨rfl, hb10⟩
      have HS10 := Lib.hid (bon hS hb10)
      clear hb10
      refine held_go hK (by exact HS10.out) fun hS => ?_
      clear hK K
      try simp only [Act.put, List.setIfInBounds_toArray, List.set_cons_succ, List.set_cons_zero]
      refine held_pure (v := ?_) rfl rfl (by simp [Region.wanted, yielded]) hS ?_ ?_
      rotate_left
      · intro w hw; go_simp; try with_reducible rfl
      try simp only [Act.put, List.setIfInBounds_toArray, List.set_cons_succ, List.set_cons_zero]
      refine held_pure (v := ?_) rfl rfl (by simp [Region.wanted, yielded]) hS ?_ ?_
      rotate_left
      · intro w hw; go_simp; try with_reducible rfl
      try simp only [Act.put, List.setIfInBounds_toArray, List.set_cons_succ, List.set_cons_zero]
      refine held_end ?_
      go_wp2
      go_ret
      exact ⟨rfl, bon H.out.below HS10.out⟩
    · obtain ⟨E, hEE⟩ : ∃ E, batE lc (v2, s2, lb) = E := ⟨_, rfl⟩
      rw [hEE] at hE2 ⊢
      have d1 : (E != 0) = true := by simpa using hE2
      clear hE2 hEE Hsame HX HQ HJ
      go_wp2_with fail
      with_reducible refine (gworks_yes _ H.out.tab).mono ?_
      rintro e w10 ⟨rfl, hb10⟩
      replace H := Lib.hid (H.out.on hb10)
      clear hb10
      go_wp2
      go_ret
      exact ⟨rfl, H.out.below⟩
  · replace H := Lib.hid (H.out.on hb6)
    generalize batE lc (v, s, la) = E at *
    have d1 : (E != 0) = true := by simpa using hE
    clear hb6 hE a0 a1 a2 HQ HJ Hbo2
    go_wp2_with fail
    with_reducible refine (gworks_yes _ H.out.tab).mono ?_
    rintro e w9 ⟨rfl, hb9⟩
    replace H := Lib.hid (H.out.on hb9)
    clear hb9
    go_wp2
    go_ret
    exact ⟨rfl, H.out.below⟩
end Go.Proofs.YtegcbjkikhheiaaGreatDoor
