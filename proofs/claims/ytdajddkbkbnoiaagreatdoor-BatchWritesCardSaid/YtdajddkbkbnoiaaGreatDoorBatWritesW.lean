/- The law BatchWrites, walked. -/
import Derived.Test.YtdajddkbkbnoiaaGreatDoorBw24
set_option linter.unusedVariables false
set_option linter.unusedSimpArgs false
namespace Go.Proofs.YtdajddkbkbnoiaaGreatDoor
open Go.RowKit
def encO (E : Int) (bs : List UInt8) : List UInt8 := if E = 0 then bs else []
theorem EncP.vals {E : Int} {bs : List UInt8} {w w' : World} {e : Ending} (h : EncP E bs w e w') : Below w.heap.size w w' ∧ ∃ A n c, e = .returned (.tuple #[.slice A n c, .int .i64 E]) ∧ Reads w' w'.heap.size 1 A n (u8s (encO E bs)) := by
  obtain ⟨hb, ⟨rfl, A, c, rfl, ho⟩ | ⟨h0, rfl⟩⟩ := h
  · exact ⟨hb, _, _, _, rfl, own_reads ho⟩
  · refine ⟨hb, _, _, _, rfl, ?_⟩
    unfold encO
    rw [if_neg h0]
    exact Reads.none_
theorem cutb_idem (v s : Int) (l : List It) : ((v, s, cutl (cutl l)) : Ba) = (v, s, cutl l) := by rw [cutl_idem]
set_option maxRecDepth 100000 in
set_option maxHeartbeats 8000000 in
theorem batchWrites_walk (A : Option Addr) (n c : Nat) (l : List Co) (v s : Int) (I : Option Addr) (m d : Nat) (li : List It) (v2 s2 : Int) (I2 : Option Addr) (m2 d2 : Nat) (lj : List It) (w : World) (hr : Reads w w.heap.size 7 A n (cos l)) (hn : n ≤ c) (hc : c ≤ maxLen) (hok : CoOk l)
    (hv : -9223372036854775808 ≤ v ∧ v ≤ 9223372036854775807) (hs : -9223372036854775808 ≤ s ∧ s ≤ 9223372036854775807) (hi : ItemsAt w w.heap.size I m li) (hm : m ≤ d) (hd : d ≤ maxLen) (hit : ItOk li)
    (hv2 : -9223372036854775808 ≤ v2 ∧ v2 ≤ 9223372036854775807) (hs2 : -9223372036854775808 ≤ s2 ∧ s2 ≤ 9223372036854775807) (hi2 : ItemsAt w w.heap.size I2 m2 lj) (hm2 : m2 ≤ d2) (hd2 : d2 ≤ maxLen) (hit2 : ItOk lj) (hT : Tab2 w.heap.size w) :
    Calls Tryz.prog 13 #[.slice A n c, .agg #[.int .i64 v, .int .i64 s, .slice I m d], .agg #[.int .i64 v2, .int .i64 s2, .slice I2 m2 d2]] w fun e w' => e = .returned (.bool true) ∧ Below w.heap.size w w' := by
  have Hr := Lib.hid hr
  have HT := Lib.hid hT
  have Hi := Lib.hid hi
  have Hi2 := Lib.hid hi2
  have Hit := Lib.hid hit
  have Hit2 := Lib.hid hit2
  have Hs := Lib.hid hs.2
  have hmm : m ≤ maxLen := Nat.le_trans hm hd
  have hmm2 : m2 ≤ maxLen := Nat.le_trans hm2 hd2
  have HP := Lib.hid ((Blk.new w 25 #[.int .i64 v, .int .i64 s, .slice I m d]).alloc (.cells #[.int .i64 v2, .int .i64 s2, .slice I2 m2 d2] 25))
  have HQ := Lib.hid (Blk.new (w.alloc (.cells #[.int .i64 v, .int .i64 s, .slice I m d] 25)) 25 #[.int .i64 v2, .int .i64 s2, .slice I2 m2 d2])
  rw [show (w.alloc (.cells #[.int .i64 v, .int .i64 s, .slice I m d] 25)).heap.size = w.heap.size + 1 by simp] at HQ
  have HB := Lib.hid (bal (bal (Below.refl w.heap.size w) (.cells #[.int .i64 v, .int .i64 s, .slice I m d] 25)) (.cells #[.int .i64 v2, .int .i64 s2, .slice I2 m2 d2] 25))
  clear hr hT hi hit hs hv hm hd hok hv2 hs2 hi2 hm2 hd2 hit2
  go_enter Tryz.func13, Tryz.ntmps13
  go_wp2
  generalize hW : (w.alloc (.cells #[.int .i64 v, .int .i64 s, .slice I m d] 25)).alloc (.cells #[.int .i64 v2, .int .i64 s2, .slice I2 m2 d2] 25) = W1 at *
  clear hW
  have HL0 := Lib.hid (show ∀ w', Below W1.heap.size W1 w' → w'.cell? ⟨w.heap.size, 0, none⟩ = some (.int .i64 v) from fun w' h => (HP.out.on h).cell 0)
  have HL1 := Lib.hid (show ∀ w', Below W1.heap.size W1 w' → w'.cell? ⟨w.heap.size, 1, none⟩ = some (.int .i64 s) from fun w' h => (HP.out.on h).cell 1)
  have HL2 := Lib.hid (show ∀ w', Below W1.heap.size W1 w' → w'.cell? ⟨w.heap.size, 2, none⟩ = some (.slice I m d) from fun w' h => (HP.out.on h).cell 2)
  have HM0 := Lib.hid (show ∀ w', Below W1.heap.size W1 w' → w'.cell? ⟨w.heap.size + 1, 0, none⟩ = some (.int .i64 v2) from fun w' h => (HQ.out.on h).cell 0)
  have HM1 := Lib.hid (show ∀ w', Below W1.heap.size W1 w' → w'.cell? ⟨w.heap.size + 1, 1, none⟩ = some (.int .i64 s2) from fun w' h => (HQ.out.on h).cell 1)
  have HM2 := Lib.hid (show ∀ w', Below W1.heap.size W1 w' → w'.cell? ⟨w.heap.size + 1, 2, none⟩ = some (.slice I2 m2 d2) from fun w' h => (HQ.out.on h).cell 2)
  have hS : Below W1.heap.size W1 W1.drew := (Below.refl _ _).drew
  refine wp_region_phase (fun w' => Below W1.heap.size W1 w') [0, 2, 4] [(0, false), (2, false), (4, false), (1, true), (3, true), (5, true)] (fun _ => True) [(6, false), (7, true), (8, true)] (by kernel_rfl) (by kernel_rfl) (by kernel_rfl) (fun d _ _ _ _ h => by cases d <;> exact h) ?_
  refine phase_pure (v := ?_) rfl rfl (by simp [Region.wanted, yielded]) hS ?_ ?_
  rotate_left
  · intro w hw; go_simp; try with_reducible rfl
  try simp only [Act.put, List.setIfInBounds_toArray, List.set_cons_succ, List.set_cons_zero]
  refine phase_pure (v := ?_) rfl rfl (by simp [Region.wanted, yielded]) hS ?_ ?_
  rotate_left
  · intro w hw; have c0 := HL0.out w hw; have c1 := HL1.out w hw; have c2 := HL2.out w hw; clear hw; go_simp; try with_reducible rfl
  try simp only [Act.put, List.setIfInBounds_toArray, List.set_cons_succ, List.set_cons_zero]
  refine phase_pure (v := ?_) rfl rfl (by simp [Region.wanted, yielded]) hS ?_ ?_
  rotate_left
  · intro w hw; have c0 := HM0.out w hw; have c1 := HM1.out w hw; have c2 := HM2.out w hw; clear hw; go_simp; try with_reducible rfl
  try simp only [Act.put, List.setIfInBounds_toArray, List.set_cons_succ, List.set_cons_zero]
  refine phase_eff1 rfl (by simp [Region.wanted, yielded]) fun K hK => ?_
  go_simp
  with_reducible refine (columns17_any A n c l _ (Hr.out.on (bon HB.out hS)) hn hc).mono ?_
  rintro e w2 ⟨A1, k1, c1, rfl, hk1, o1, hb2⟩
  have HS2 := Lib.hid (bon hS hb2)
  have HO := Lib.hid o1
  clear o1 hb2
  refine held_go hK (by exact HS2.out) fun hS => ?_
  clear hK K
  try simp only [Act.put, List.setIfInBounds_toArray, List.set_cons_succ, List.set_cons_zero]
  refine phase_eff1 rfl (by simp [Region.wanted, yielded]) fun K hK => ?_
  go_simp
  with_reducible refine (cut17_any v s I m d li _ (Hi.out.on (bon HB.out HS2.out)) hmm Hit.out).mono ?_
  rintro e w3 ⟨A3, k3, c3, rfl, o3, hb3⟩
  have HS3 := Lib.hid (bon HS2.out hb3)
  have HO := Lib.hid (own_below HO.out hb3)
  have HIo := Lib.hid o3
  clear o3 hb3
  refine held_go hK (by exact HS3.out) fun hS => ?_
  clear hK K
  try simp only [Act.put, List.setIfInBounds_toArray, List.set_cons_succ, List.set_cons_zero]
  refine phase_eff1 rfl (by simp [Region.wanted, yielded]) fun K hK => ?_
  go_simp
  with_reducible refine (cut17_any v2 s2 I2 m2 d2 lj _ (Hi2.out.on (bon HB.out HS3.out)) hmm2 Hit2.out).mono ?_
  rintro e w3b ⟨A4, k4, c4, rfl, o4, hb4⟩
  have HS4 := Lib.hid (bon HS3.out hb4)
  have HO := Lib.hid (own_below HO.out hb4)
  have HIo := Lib.hid (HIo.out.below hb4)
  have HIp := Lib.hid o4
  clear o4 hb4
  refine held_go hK (by exact HS4.out) fun hS => ?_
  clear hK K
  try simp only [Act.put, List.setIfInBounds_toArray, List.set_cons_succ, List.set_cons_zero]
  refine phase_end ?_
  have HP3 := Lib.hid (HP.out.on HS4.out)
  have HQ3 := Lib.hid (HQ.out.on HS4.out)
  have HBc := Lib.hid (bon HB.out HS4.out)
  clear hS HL0 HL1 HL2 HM0 HM1 HM2 HS2 HS3 HP HQ
  have hS : True := trivial
  refine held_pure (v := ?_) rfl rfl (by simp [Region.wanted, yielded]) hS ?_ ?_
  rotate_left
  · intro w hw; go_simp; try with_reducible rfl
  try simp only [Act.put, List.setIfInBounds_toArray, List.set_cons_succ, List.set_cons_zero]
  have a0 := HP3.out.cell 0
  have a1 := HP3.out.cell 1
  have a2 := HP3.out.cell 2
  have f0 := HP3.out.frozen 0
  have f1 := HP3.out.frozen 1
  have f2 := HP3.out.frozen 2
  refine held_eff1 rfl (by simp [Region.wanted, yielded]) fun K hK => ?_
  go_simp
  clear a0 a1 a2 f0 f1 f2
  obtain ⟨w4, hw4⟩ : ∃ w4, w4 = ((w3b.setCell ⟨w.heap.size, 0, none⟩ (.int .i64 v)).setCell ⟨w.heap.size, 1, none⟩ (.int .i64 s)).setCell ⟨w.heap.size, 2, none⟩ (.slice A3 k3 c3) := ⟨_, rfl⟩
  obtain ⟨g1, g2, g3, g4, g5, g6⟩ := box_put HP3.out HIo.out hw4
  rw [← hw4]
  have HQ4 := Lib.hid (g6 HQ3.out (by omega))
  have HBc := Lib.hid (HBc.out.trans (g3 _ (Nat.le_refl _)))
  have HO := Lib.hid (g4 HO.out (by decide))
  have HIo := Lib.hid g2
  have HIp := Lib.hid (g5 HIp.out)
  have HP4 := Lib.hid g1
  clear g1 g2 g3 g4 g5 g6 HP3 HQ3 HS4 hw4
  refine held_go hK (by exact trivial) fun hS => ?_
  clear hK K
  try simp only [Act.put, List.setIfInBounds_toArray, List.set_cons_succ, List.set_cons_zero]
  have a0 := HQ4.out.cell 0
  have a1 := HQ4.out.cell 1
  have a2 := HQ4.out.cell 2
  have f0 := HQ4.out.frozen 0
  have f1 := HQ4.out.frozen 1
  have f2 := HQ4.out.frozen 2
  refine held_eff1 rfl (by simp [Region.wanted, yielded]) fun K hK => ?_
  go_simp
  clear a0 a1 a2 f0 f1 f2
  obtain ⟨w5, hw5⟩ : ∃ w5, w5 = ((w4.setCell ⟨w.heap.size + 1, 0, none⟩ (.int .i64 v2)).setCell ⟨w.heap.size + 1, 1, none⟩ (.int .i64 s2)).setCell ⟨w.heap.size + 1, 2, none⟩ (.slice A4 k4 c4) := ⟨_, rfl⟩
  obtain ⟨g1, g2, g3, g4, g5, g6⟩ := box_put HQ4.out HIp.out hw5
  rw [← hw5]
  have hk3 : k3 ≤ 30 := by
    have := HIo.out.len
    have := cutl_len li
    omega
  have hk4 : k4 ≤ 30 := by
    have := HIp.out.len
    have := cutl_len lj
    omega
  have hbw := g3 w.heap.size (by omega)
  have H := Lib.hid (show LawB w A1 k1 (l.take 40) v s A3 k3 c3 (cutl li) w5 from ⟨HBc.out.trans hbw, g6 HP4.out (by omega), own_reads (g4 HO.out (by decide)), (g5 HIo.out).at_, HT.out.on (HBc.out.trans hbw), hk1, hk3, cutl_ok Hit.out, Hs.out⟩)
  have HQ := Lib.hid g1
  have HJ := Lib.hid g2.at_
  have HC3 := Lib.hid HIo.out.caps
  generalize l.take 40 = lc at H
  clear hw5 g1 g2 g3 g4 g5 g6 HP4 HQ4 HO HIo HIp HBc hbw
  refine held_go hK (by exact trivial) fun hS => ?_
  clear hK K
  try simp only [Act.put, List.setIfInBounds_toArray, List.set_cons_succ, List.set_cons_zero]
  refine held_end ?_
  clear HB Hr Hi Hi2 Hit Hit2 Hs hS
  have Hcut := Lib.hid (cutl_idem li)
  generalize cutl li = la at *
  generalize cutl lj = lb at *
  have a0 := H.out.box.cell 0
  have a1 := H.out.box.cell 1
  have a2 := H.out.box.cell 2
  go_wp2_with fail
  with_reducible refine (cut17_any v s A3 k3 c3 la _ H.out.items H.out.max2 H.out.ok).mono ?_
  rw [Hcut.out]
  rintro e w6 ⟨A6, k6, c6, rfl, o6, hb6⟩
  have H := Lib.hid ((H.out.on hb6).al (.cells #[.int .i64 v, .int .i64 s, .slice A6 k6 c6] 25))
  have HQ := Lib.hid ((HQ.out.on hb6).alloc (.cells #[.int .i64 v, .int .i64 s, .slice A6 k6 c6] 25))
  have HJ := Lib.hid ((HJ.out.on hb6).al (.cells #[.int .i64 v, .int .i64 s, .slice A6 k6 c6] 25))
  have HW := Lib.hid (o6.at_.al (.cells #[.int .i64 v, .int .i64 s, .slice A6 k6 c6] 25))
  have HR := Lib.hid (Blk.new w6 25 #[.int .i64 v, .int .i64 s, .slice A6 k6 c6])
  obtain ⟨g6, hg6⟩ : ∃ g6, g6 = w6.heap.size := ⟨_, rfl⟩
  rw [← hg6] at HR
  clear a0 a1 a2 hb6 o6 HC3
  have a0 := H.out.box.cell 0
  have a1 := H.out.box.cell 1
  have a2 := H.out.box.cell 2
  go_wp2_with fail
  rw [← hg6]
  clear hg6
  with_reducible refine (benc_any A1 k1 c1 lc v s A3 k3 c3 la _ H.out.cols H.out.max1 H.out.items H.out.max2 H.out.baok H.out.ok H.out.tab).mono ?_
  intro e w7 hm7
  obtain ⟨hb7, A7, n7, c7, rfl, hr7⟩ := hm7.vals
  have H := Lib.hid (H.out.on hb7)
  have HQ := Lib.hid (HQ.out.on hb7)
  have HJ := Lib.hid (HJ.out.on hb7)
  have HW := Lib.hid (HW.out.on hb7)
  have HR := Lib.hid (HR.out.on hb7)
  have HX := Lib.hid hr7
  clear a0 a1 a2 hm7 hb7 hr7
  have a0 := H.out.box.cell 0
  have a1 := H.out.box.cell 1
  have a2 := H.out.box.cell 2
  simp only
  go_wp2_with fail
  with_reducible refine (renc_any A1 k1 c1 lc v s A3 k3 c3 la _ H.out.cols H.out.max1 H.out.items H.out.max2 H.out.baok H.out.ok).mono ?_
  intro e w8 hm8
  obtain ⟨hb8, A8, n8, c8, rfl, hr8⟩ := hm8.vals
  have H := Lib.hid (H.out.on hb8)
  have HQ := Lib.hid (HQ.out.on hb8)
  have HJ := Lib.hid (HJ.out.on hb8)
  have HW := Lib.hid (HW.out.on hb8)
  have HR := Lib.hid (HR.out.on hb8)
  have HX := Lib.hid (HX.out.on hb8)
  have HY := Lib.hid hr8
  clear a0 a1 a2 hm8 hb8 hr8
  obtain ⟨E, hE⟩ : ∃ E, batE lc (v, s, la) = E := ⟨_, rfl⟩
  rw [hE] at HX HY ⊢
  have HE := Lib.hid hE
  clear hE
  generalize encO E (encA lc (v, s, la)) = xs at HX HY
  simp only
  go_wp2
  have HL0 := Lib.hid (show ∀ w', Below w8.heap.size w8 w' → w'.cell? ⟨w.heap.size, 0, none⟩ = some (.int .i64 v) from fun w' h => (H.out.box.on h).cell 0)
  have HL1 := Lib.hid (show ∀ w', Below w8.heap.size w8 w' → w'.cell? ⟨w.heap.size, 1, none⟩ = some (.int .i64 s) from fun w' h => (H.out.box.on h).cell 1)
  have HL2 := Lib.hid (show ∀ w', Below w8.heap.size w8 w' → w'.cell? ⟨w.heap.size, 2, none⟩ = some (.slice A3 k3 c3) from fun w' h => (H.out.box.on h).cell 2)
  have HM0 := Lib.hid (show ∀ w', Below w8.heap.size w8 w' → w'.cell? ⟨w.heap.size + 1, 0, none⟩ = some (.int .i64 v2) from fun w' h => (HQ.out.on h).cell 0)
  have HM1 := Lib.hid (show ∀ w', Below w8.heap.size w8 w' → w'.cell? ⟨w.heap.size + 1, 1, none⟩ = some (.int .i64 s2) from fun w' h => (HQ.out.on h).cell 1)
  have HM2 := Lib.hid (show ∀ w', Below w8.heap.size w8 w' → w'.cell? ⟨w.heap.size + 1, 2, none⟩ = some (.slice A4 k4 c4) from fun w' h => (HQ.out.on h).cell 2)
  have HN0 := Lib.hid (show ∀ w', Below w8.heap.size w8 w' → w'.cell? ⟨g6, 0, none⟩ = some (.int .i64 v) from fun w' h => (HR.out.on h).cell 0)
  have HN1 := Lib.hid (show ∀ w', Below w8.heap.size w8 w' → w'.cell? ⟨g6, 1, none⟩ = some (.int .i64 s) from fun w' h => (HR.out.on h).cell 1)
  have HN2 := Lib.hid (show ∀ w', Below w8.heap.size w8 w' → w'.cell? ⟨g6, 2, none⟩ = some (.slice A6 k6 c6) from fun w' h => (HR.out.on h).cell 2)
  clear HQ HR
  have dE : (E == E) = true := by simp
  obtain ⟨q, hq⟩ : ∃ q, sameBa (v, s, la) (v2, s2, lb) = q := ⟨_, rfl⟩
  have Hq := Lib.hid hq
  have dq : (q == q) = true := by simp
  clear hq
  have hS : Below w8.heap.size w8 w8.drew := (Below.refl _ _).drew
  refine wp_region_keep (fun w' => Below w8.heap.size w8 w') [(0, false), (1, false), (2, true), (3, false), (4, false), (5, false), (6, false), (7, false), (8, false), (9, false), (10, false), (12, false), (11, true), (13, false), (14, false), (15, false), (16, false), (17, false), (19, false), (20, false), (18, true), (21, true), (22, false), (23, false), (24, false), (25, false), (26, false), (27, true), (28, false), (29, false), (30, true), (31, false), (32, false)] (by kernel_rfl) (by kernel_rfl) (by kernel_rfl) (fun d _ _ _ _ h => by cases d <;> exact h) ?_
  refine held_pure (v := ?_) rfl rfl (by simp [Region.wanted, yielded]) hS ?_ ?_
  rotate_left
  · intro w hw; go_simp; try with_reducible rfl
  try simp only [Act.put, List.setIfInBounds_toArray, List.set_cons_succ, List.set_cons_zero]
  refine held_pure (v := ?_) rfl rfl (by simp [Region.wanted, yielded]) hS ?_ ?_
  rotate_left
  · intro w hw; go_simp; try with_reducible rfl
  try simp only [Act.put, List.setIfInBounds_toArray, List.set_cons_succ, List.set_cons_zero]
  refine held_eff1 rfl (by simp [Region.wanted, yielded]) fun K hK => ?_
  go_simp
  with_reducible refine (eq_yes A7 A8 n7 c7 n8 c8 xs xs _ (HX.out.on hS) (HY.out.on hS) rfl).mono ?_
  rintro e w9 ⟨rfl, rfl⟩
  refine held_go hK (by exact hS) fun hS => ?_
  clear hK K
  try simp only [Act.put, List.setIfInBounds_toArray, List.set_cons_succ, List.set_cons_zero]
  refine held_pure (v := ?_) rfl rfl (by simp [Region.wanted, yielded]) hS ?_ ?_
  rotate_left
  · intro w hw; go_simp; try with_reducible rfl
  try simp only [Act.put, List.setIfInBounds_toArray, List.set_cons_succ, List.set_cons_zero]
  refine held_pure (v := ?_) rfl rfl (by simp [Region.wanted, yielded]) hS ?_ ?_
  rotate_left
  · intro w hw; go_simp; try with_reducible rfl
  try simp only [Act.put, List.setIfInBounds_toArray, List.set_cons_succ, List.set_cons_zero]
  refine held_pure (v := ?_) rfl rfl (by simp [Region.wanted, yielded]) hS ?_ ?_
  rotate_left
  · intro w hw; go_simp; try with_reducible rfl
  try simp only [Act.put, List.setIfInBounds_toArray, List.set_cons_succ, List.set_cons_zero]
  refine held_pure (v := ?_) rfl rfl (by simp [Region.wanted, yielded]) hS ?_ ?_
  rotate_left
  · intro w hw; go_simp; try with_reducible rfl
  try simp only [Act.put, List.setIfInBounds_toArray, List.set_cons_succ, List.set_cons_zero]
  refine held_pure (v := ?_) rfl rfl (by simp [Region.wanted, yielded]) hS ?_ ?_
  rotate_left
  · intro w hw; go_simp; try with_reducible rfl
  try simp only [Act.put, List.setIfInBounds_toArray, List.set_cons_succ, List.set_cons_zero]
  refine held_pure (v := ?_) rfl rfl (by simp [Region.wanted, yielded]) hS ?_ ?_
  rotate_left
  · intro w hw; go_simp; try with_reducible rfl
  try simp only [Act.put, List.setIfInBounds_toArray, List.set_cons_succ, List.set_cons_zero]
  refine held_pure (v := ?_) rfl rfl (by simp [Region.wanted, yielded]) hS ?_ ?_
  rotate_left
  · intro w hw; go_simp; try with_reducible rfl
  try simp only [Act.put, List.setIfInBounds_toArray, List.set_cons_succ, List.set_cons_zero]
  refine held_pure (v := ?_) rfl rfl (by simp [Region.wanted, yielded]) hS ?_ ?_
  rotate_left
  · intro w hw; have c0 := HL0.out w hw; have c1 := HL1.out w hw; have c2 := HL2.out w hw; clear hw; go_simp; try with_reducible rfl
  try simp only [Act.put, List.setIfInBounds_toArray, List.set_cons_succ, List.set_cons_zero]
  refine held_pure (v := ?_) rfl rfl (by simp [Region.wanted, yielded]) hS ?_ ?_
  rotate_left
  · intro w hw; go_simp; try with_reducible rfl
  try simp only [Act.put, List.setIfInBounds_toArray, List.set_cons_succ, List.set_cons_zero]
  refine held_eff1 rfl (by simp [Region.wanted, yielded]) fun K hK => ?_
  go_simp
  with_reducible refine (bCheck_any A1 k1 c1 lc v s A3 k3 c3 la _ (H.out.on hS).cols H.out.max1 (H.out.on hS).items H.out.max2 (H.out.on hS).tab.tabs).mono ?_
  rw [HE.out]
  rintro e w10 ⟨rfl, hb10⟩
  have HS10 := Lib.hid (bon hS hb10)
  clear hb10
  refine held_go hK (by exact HS10.out) fun hS => ?_
  clear hK K
  try simp only [Act.put, List.setIfInBounds_toArray, List.set_cons_succ, List.set_cons_zero]
  refine held_pure (v := ?_) rfl rfl (by simp [Region.wanted, yielded]) hS ?_ ?_
  rotate_left
  · intro w hw; go_simp; try with_reducible rfl
  try simp only [Act.put, List.setIfInBounds_toArray, List.set_cons_succ, List.set_cons_zero]
  refine held_pure (v := ?_) rfl rfl (by simp [Region.wanted, yielded]) hS ?_ ?_
  rotate_left
  · intro w hw; go_simp; try with_reducible rfl
  try simp only [Act.put, List.setIfInBounds_toArray, List.set_cons_succ, List.set_cons_zero]
  refine held_pure (v := ?_) rfl rfl (by simp [Region.wanted, yielded]) hS ?_ ?_
  rotate_left
  · intro w hw; go_simp; try with_reducible rfl
  try simp only [Act.put, List.setIfInBounds_toArray, List.set_cons_succ, List.set_cons_zero]
  refine held_pure (v := ?_) rfl rfl (by simp [Region.wanted, yielded]) hS ?_ ?_
  rotate_left
  · intro w hw; have c0 := HL0.out w hw; have c1 := HL1.out w hw; have c2 := HL2.out w hw; clear hw; go_simp; try with_reducible rfl
  try simp only [Act.put, List.setIfInBounds_toArray, List.set_cons_succ, List.set_cons_zero]
  refine held_pure (v := ?_) rfl rfl (by simp [Region.wanted, yielded]) hS ?_ ?_
  rotate_left
  · intro w hw; have c0 := HM0.out w hw; have c1 := HM1.out w hw; have c2 := HM2.out w hw; clear hw; go_simp; try with_reducible rfl
  try simp only [Act.put, List.setIfInBounds_toArray, List.set_cons_succ, List.set_cons_zero]
  refine held_pure (v := ?_) rfl rfl (by simp [Region.wanted, yielded]) hS ?_ ?_
  rotate_left
  · intro w hw; have c0 := HL0.out w hw; have c1 := HL1.out w hw; have c2 := HL2.out w hw; clear hw; go_simp; try with_reducible rfl
  try simp only [Act.put, List.setIfInBounds_toArray, List.set_cons_succ, List.set_cons_zero]
  refine held_pure (v := ?_) rfl rfl (by simp [Region.wanted, yielded]) hS ?_ ?_
  rotate_left
  · intro w hw; have c0 := HM0.out w hw; have c1 := HM1.out w hw; have c2 := HM2.out w hw; clear hw; go_simp; try with_reducible rfl
  try simp only [Act.put, List.setIfInBounds_toArray, List.set_cons_succ, List.set_cons_zero]
  refine held_eff1 rfl (by simp [Region.wanted, yielded]) fun K hK => ?_
  go_simp
  with_reducible refine (bsame_any v s A3 k3 c3 la v2 s2 A4 k4 c4 lb _ (H.out.on hS).items (HJ.out.on hS) H.out.max2).mono ?_
  rw [Hq.out]
  rintro e w11 ⟨rfl, hb11⟩
  have HS11 := Lib.hid (bon hS hb11)
  clear hb11
  refine held_go hK (by exact HS11.out) fun hS => ?_
  clear hK K
  try simp only [Act.put, List.setIfInBounds_toArray, List.set_cons_succ, List.set_cons_zero]
  refine held_eff1 rfl (by simp [Region.wanted, yielded]) fun K hK => ?_
  go_simp
  with_reducible refine (rsame17_any v s A3 k3 c3 la v2 s2 A4 k4 c4 lb _ (H.out.on hS).items (HJ.out.on hS) H.out.max2).mono ?_
  rw [Hq.out]
  rintro e w12 ⟨rfl, hb12⟩
  have HS12 := Lib.hid (bon hS hb12)
  clear hb12
  refine held_go hK (by exact HS12.out) fun hS => ?_
  clear hK K
  try simp only [Act.put, List.setIfInBounds_toArray, List.set_cons_succ, List.set_cons_zero]
  refine held_pure (v := ?_) rfl rfl (by simp [Region.wanted, yielded]) hS ?_ ?_
  rotate_left
  · intro w hw; go_simp; try with_reducible rfl
  try simp only [Act.put, List.setIfInBounds_toArray, List.set_cons_succ, List.set_cons_zero]
  refine held_pure (v := ?_) rfl rfl (by simp [Region.wanted, yielded]) hS ?_ ?_
  rotate_left
  · intro w hw; go_simp; try with_reducible rfl
  try simp only [Act.put, List.setIfInBounds_toArray, List.set_cons_succ, List.set_cons_zero]
  refine held_pure (v := ?_) rfl rfl (by simp [Region.wanted, yielded]) hS ?_ ?_
  rotate_left
  · intro w hw; go_simp; try with_reducible rfl
  try simp only [Act.put, List.setIfInBounds_toArray, List.set_cons_succ, List.set_cons_zero]
  refine held_pure (v := ?_) rfl rfl (by simp [Region.wanted, yielded]) hS ?_ ?_
  rotate_left
  · intro w hw; have c0 := HL0.out w hw; have c1 := HL1.out w hw; have c2 := HL2.out w hw; clear hw; go_simp; try with_reducible rfl
  try simp only [Act.put, List.setIfInBounds_toArray, List.set_cons_succ, List.set_cons_zero]
  refine held_pure (v := ?_) rfl rfl (by simp [Region.wanted, yielded]) hS ?_ ?_
  rotate_left
  · intro w hw; have c0 := HN0.out w hw; have c1 := HN1.out w hw; have c2 := HN2.out w hw; clear hw; go_simp; try with_reducible rfl
  try simp only [Act.put, List.setIfInBounds_toArray, List.set_cons_succ, List.set_cons_zero]
  refine held_eff1 rfl (by simp [Region.wanted, yielded]) fun K hK => ?_
  go_simp
  with_reducible refine (bsame_any v s A3 k3 c3 la v s A6 k6 c6 la _ (H.out.on hS).items (HW.out.on hS) H.out.max2).mono ?_
  rw [sameBa_self]
  rintro e w13 ⟨rfl, hb13⟩
  have HS13 := Lib.hid (bon hS hb13)
  clear hb13
  refine held_go hK (by exact HS13.out) fun hS => ?_
  clear hK K
  try simp only [Act.put, List.setIfInBounds_toArray, List.set_cons_succ, List.set_cons_zero]
  refine held_pure (v := ?_) rfl rfl (by simp [Region.wanted, yielded]) hS ?_ ?_
  rotate_left
  · intro w hw; go_simp; try with_reducible rfl
  try simp only [Act.put, List.setIfInBounds_toArray, List.set_cons_succ, List.set_cons_zero]
  refine held_pure (v := ?_) rfl rfl (by simp [Region.wanted, yielded]) hS ?_ ?_
  rotate_left
  · intro w hw; go_simp; try with_reducible rfl
  try simp only [Act.put, List.setIfInBounds_toArray, List.set_cons_succ, List.set_cons_zero]
  refine held_eff1 rfl (by simp [Region.wanted, yielded]) fun K hK => ?_
  go_simp
  with_reducible refine (bworks_yes _ (H.out.on hS).tab).mono ?_
  rintro e w14 ⟨rfl, hb14⟩
  have HS14 := Lib.hid (bon hS hb14)
  clear hb14
  refine held_go hK (by exact HS14.out) fun hS => ?_
  clear hK K
  try simp only [Act.put, List.setIfInBounds_toArray, List.set_cons_succ, List.set_cons_zero]
  refine held_pure (v := ?_) rfl rfl (by simp [Region.wanted, yielded]) hS ?_ ?_
  rotate_left
  · intro w hw; go_simp; try with_reducible rfl
  try simp only [Act.put, List.setIfInBounds_toArray, List.set_cons_succ, List.set_cons_zero]
  refine held_pure (v := ?_) rfl rfl (by simp [Region.wanted, yielded]) hS ?_ ?_
  rotate_left
  · intro w hw; go_simp; try with_reducible rfl
  try simp only [Act.put, List.setIfInBounds_toArray, List.set_cons_succ, List.set_cons_zero]
  refine held_end ?_
  go_wp2
  go_ret
  exact ⟨rfl, bon H.out.below HS14.out⟩
end Go.Proofs.YtdajddkbkbnoiaaGreatDoor
