/- The law GramDecodes, walked. Conditions: none of its own; each lemma states what it asks. -/
import Derived.Test.YtegcbjkikhheiaaGreatDoorGm23
set_option linter.unusedVariables false
set_option linter.unusedSimpArgs false
namespace Go.Proofs.YtegcbjkikhheiaaGreatDoor
open Go.RowKit
set_option maxRecDepth 100000 in
set_option maxHeartbeats 8000000 in
theorem gramDecodes_walk (A : Option Addr) (n c : Nat) (l : List Co) (v s : Int) (I : Option Addr) (m d : Nat) (li : List It) (X : Option Addr) (xn xc : Nat) (xs : List UInt8) (w : World) (hr : Reads w w.heap.size 7 A n (cos l)) (hn : n ≤ c) (hc : c ≤ maxLen) (hok : CoOk l)
    (hv : -9223372036854775808 ≤ v ∧ v ≤ 9223372036854775807) (hs : -9223372036854775808 ≤ s ∧ s ≤ 9223372036854775807) (hi : ItemsAt w w.heap.size I m li) (hm : m ≤ d) (hd : d ≤ maxLen) (hit : ItOk li) (hx : Reads w w.heap.size 1 X xn (u8s xs)) (hxn : xn ≤ xc) (hxc : xc ≤ maxLen) (hT : Tab2 w.heap.size w) :
    Calls Tryz.prog 10 #[.slice A n c, .agg #[.int .i64 v, .int .i64 s, .slice I m d], .slice X xn xc] w fun e w' => e = .returned (.bool true) ∧ Below w.heap.size w w' := by
  have Hr := Lib.hid hr
  have HT := Lib.hid hT
  have Hi := Lib.hid hi
  have Hit := Lib.hid hit
  have Hs := Lib.hid hs.2
  have hmm : m ≤ maxLen := Nat.le_trans hm hd
  have HP := Lib.hid (Blk.new w 25 #[.int .i64 v, .int .i64 s, .slice I m d])
  have HB := Lib.hid (bal (Below.refl w.heap.size w) (.cells #[.int .i64 v, .int .i64 s, .slice I m d] 25))
  clear hr hT hi hit hs hv hm hd hok
  have HX := Lib.hid hx
  clear hx
  go_enter Tryz.func10, Tryz.ntmps10
  go_wp2_with fail
  with_reducible refine (gworks_yes _ (HT.out.on HB.out)).mono ?_
  rintro e W1 ⟨rfl, hbW⟩
  replace HB := Lib.hid (bon HB.out hbW)
  replace HP := Lib.hid (HP.out.on hbW)
  clear hbW
  go_wp2
  have HL0 := Lib.hid (show ∀ w', Below W1.heap.size W1 w' → w'.cell? ⟨w.heap.size, 0, none⟩ = some (.int .i64 v) from fun w' h => (HP.out.on h).cell 0)
  have HL1 := Lib.hid (show ∀ w', Below W1.heap.size W1 w' → w'.cell? ⟨w.heap.size, 1, none⟩ = some (.int .i64 s) from fun w' h => (HP.out.on h).cell 1)
  have HL2 := Lib.hid (show ∀ w', Below W1.heap.size W1 w' → w'.cell? ⟨w.heap.size, 2, none⟩ = some (.slice I m d) from fun w' h => (HP.out.on h).cell 2)
  have hS : Below W1.heap.size W1 W1.drew := (Below.refl _ _).drew
  refine wp_region_phase (fun w' => Below W1.heap.size W1 w') [0, 2] [(0, false), (2, false), (1, true), (3, true)] (fun _ => True) [(4, false), (5, true)] (by kernel_rfl) (by kernel_rfl) (by kernel_rfl) (fun d _ _ _ _ h => by cases d <;> exact h) ?_
  refine phase_pure (v := ?_) rfl rfl (by simp [Region.wanted, yielded]) hS ?_ ?_
  rotate_left
  · intro w hw; go_simp; try with_reducible rfl
  try simp only [Act.put, List.setIfInBounds_toArray, List.set_cons_succ, List.set_cons_zero]
  refine phase_pure (v := ?_) rfl rfl (by simp [Region.wanted, yielded]) hS ?_ ?_
  rotate_left
  · intro w hw; have c0 := HL0.out w hw; have c1 := HL1.out w hw; have c2 := HL2.out w hw; clear hw; go_simp; try with_reducible rfl
  try simp only [Act.put, List.setIfInBounds_toArray, List.set_cons_succ, List.set_cons_zero]
  refine phase_eff1 rfl (by simp [Region.wanted, yielded]) fun K hK => ?_
  go_simp
  with_reducible refine (columns18_any A n c l _ (Hr.out.on (bon HB.out hS)) hn hc).mono ?_
  rintro e w2 ⟨A1, k1, c1, rfl, hk1, o1, hb2⟩
  have HS2 := Lib.hid (bon hS hb2)
  have HO := Lib.hid o1
  clear o1 hb2
  refine held_go hK (by exact HS2.out) fun hS => ?_
  clear hK K
  try simp only [Act.put, List.setIfInBounds_toArray, List.set_cons_succ, List.set_cons_zero]
  refine phase_eff1 rfl (by simp [Region.wanted, yielded]) fun K hK => ?_
  go_simp
  with_reducible refine (cut18_any v s I m d li _ (Hi.out.on (bon HB.out HS2.out)) hmm Hit.out).mono ?_
  rintro e w3 ⟨A3, k3, c3, rfl, o3, hb3⟩
  have HS3 := Lib.hid (bon HS2.out hb3)
  have HO := Lib.hid (own_below HO.out hb3)
  have HIo := Lib.hid o3
  clear o3 hb3
  refine held_go hK (by exact HS3.out) fun hS => ?_
  clear hK K
  try simp only [Act.put, List.setIfInBounds_toArray, List.set_cons_succ, List.set_cons_zero]
  refine phase_end ?_
  have HP3 := Lib.hid (HP.out.on HS3.out)
  have HBc := Lib.hid (bon HB.out HS3.out)
  clear hS HL0 HL1 HL2 HS2 HP
  have hS : True := trivial
  refine held_pure (v := ?_) rfl rfl (by simp [Region.wanted, yielded]) hS ?_ ?_
  rotate_left
  · intro w hw; go_simp; try with_reducible rfl
  try simp only [Act.put, List.setIfInBounds_toArray, List.set_cons_succ, List.set_cons_zero]
  have a0 := HP3.out.cell 0
  have a1 := HP3.out.cell 1
  have a2 := HP3.out.cell 2
  have f0 := HP3.out.frozen 0
  have f1 := HP3.out.frozen 1
  have f2 := HP3.out.frozen 2
  refine held_eff1 rfl (by simp [Region.wanted, yielded]) fun K hK => ?_
  go_simp
  clear a0 a1 a2 f0 f1 f2
  obtain ⟨w4, hw4⟩ : ∃ w4, w4 = ((w3.setCell ⟨w.heap.size, 0, none⟩ (.int .i64 v)).setCell ⟨w.heap.size, 1, none⟩ (.int .i64 s)).setCell ⟨w.heap.size, 2, none⟩ (.slice A3 k3 c3) := ⟨_, rfl⟩
  obtain ⟨g1, g2, g3, g4, g5, g6⟩ := box_put HP3.out HIo.out hw4
  skip
  rw [← hw4]
  have hk3 : k3 ≤ 30 := by
    have := HIo.out.len
    have := cutl_len li
    omega
  have H := Lib.hid (show LawB w A1 k1 (l.take 40) v s A3 k3 c3 (cutl li) w4 from ⟨HBc.out.trans (g3 _ (Nat.le_refl _)), g1, own_reads (g4 HO.out (by decide)), g2.at_, HT.out.on (HBc.out.trans (g3 _ (Nat.le_refl _))), hk1, hk3, cutl_ok Hit.out, Hs.out⟩)
  generalize l.take 40 = lc at H
  clear hw4 g1 g2 g3 g4 g5 g6 HP3 HO HIo HBc HS3
  refine held_go hK (by exact trivial) fun hS => ?_
  clear hK K
  try simp only [Act.put, List.setIfInBounds_toArray, List.set_cons_succ, List.set_cons_zero]
  refine held_end ?_
  clear HB Hr Hi Hit Hs
  generalize cutl li = lb at H
  go_wp2_with fail
  with_reducible refine (bytes18_any X xn xc xs _ (HX.out.on H.out.below) hxn hxc).mono ?_
  rintro e w5 ⟨A5, k5, c5, rfl, hkc, hcm, o5, hb5⟩
  replace H := Lib.hid (H.out.on hb5)
  have HI := Lib.hid (own_reads o5)
  have hkm : k5 ≤ maxLen := Nat.le_trans hkc hcm
  generalize xs.take 2000 = ys at HI
  clear o5 hb5 HX
  go_wp2_with fail
  with_reducible refine (bdec_any A1 k1 c1 lc A5 k5 c5 ys _ H.out.cols H.out.max1 HI.out hkc hcm H.out.tab).mono ?_
  rintro e w6 ⟨hb6, hm6⟩
  replace H := Lib.hid (H.out.on hb6)
  replace HI := Lib.hid (HI.out.on hb6)
  clear hb6
  rcases hd : decB lc ys with er | b
  · rw [hd] at hm6
    obtain ⟨rfl, he⟩ := hm6
    have d1 : ((er : Int) == 0) = false := by simp; omega
    have HM := Lib.hid (match_dec_err hd H.out.baok)
    replace H := Lib.hid (H.out.al (.cells #[.int .i64 0, .int .i64 0, .slice none 0 0] 25))
    replace HI := Lib.hid (HI.out.al (.cells #[.int .i64 0, .int .i64 0, .slice none 0 0] 25))
    clear hd he
    have a0 := H.out.box.cell 0
    have a1 := H.out.box.cell 1
    have a2 := H.out.box.cell 2
    go_wp2_with fail
    with_reducible refine (gmatch_any A1 k1 c1 lc v s A3 k3 c3 lb A5 k5 c5 ys _ H.out.cols H.out.max1 H.out.items H.out.max2 H.out.sok H.out.ok HI.out hkm H.out.tab).mono ?_
    rintro e w8 ⟨rfl, hb8⟩
    replace H := Lib.hid (H.out.on hb8)
    have HM := HM.out
    generalize matchV lc (v, s, lb) ys = mv at *
    clear hb8 a0 a1 a2
    go_wp2
    go_ret
    exact ⟨rfl, H.out.below⟩
  · rw [hd] at hm6
    obtain ⟨J, kk, dd, rfl, hio⟩ := hm6
    obtain ⟨hf, hbo, henc⟩ := decB_only hd
    obtain ⟨hm0, hm1⟩ := match_dec_ok hd H.out.baok
    have Hm0 := Lib.hid hm0
    have Hm1 := Lib.hid hm1
    have HJ := Lib.hid hio.at_
    have hkk : kk ≤ maxLen := by
      have h3 := hio.len
      have h4 := hf.rows
      simp only [maxLen]
      omega
    have Hs3 := Lib.hid hbo.1
    have Hok3 := Lib.hid (hf.itOk hbo)
    clear hio hd hf hbo henc hm0 hm1
    obtain ⟨v2, s2, l2⟩ := b
    simp only at HJ Hs3 Hok3 ⊢
    replace HJ := Lib.hid (HJ.out.al (.cells #[.int .i64 v2, .int .i64 s2, .slice J kk dd] 25))
    have HP6 := Lib.hid (Blk.new w6 25 #[.int .i64 v2, .int .i64 s2, .slice J kk dd])
    replace H := Lib.hid (H.out.al (.cells #[.int .i64 v2, .int .i64 s2, .slice J kk dd] 25))
    replace HI := Lib.hid (HI.out.al (.cells #[.int .i64 v2, .int .i64 s2, .slice J kk dd] 25))
    have e0 := HP6.out.cell 0
    have e1 := HP6.out.cell 1
    have e2 := HP6.out.cell 2
    go_wp2_with fail
    with_reducible refine (gmatch_any A1 k1 c1 lc v2 s2 J kk dd l2 A5 k5 c5 ys _ H.out.cols H.out.max1 HJ.out hkk Hs3.out Hok3.out HI.out hkm H.out.tab).mono ?_
    rw [Hm0.out]
    rintro e w7 ⟨rfl, hb7⟩
    replace H := Lib.hid (H.out.on hb7)
    replace HI := Lib.hid (HI.out.on hb7)
    replace HJ := Lib.hid (HJ.out.on hb7)
    replace HP6 := Lib.hid (HP6.out.on hb7)
    clear hb7 e0 e1 e2 Hm0
    have a0 := H.out.box.cell 0
    have a1 := H.out.box.cell 1
    have a2 := H.out.box.cell 2
    go_wp2_with fail
    with_reducible refine (gmatch_any A1 k1 c1 lc v s A3 k3 c3 lb A5 k5 c5 ys _ H.out.cols H.out.max1 H.out.items H.out.max2 H.out.sok H.out.ok HI.out hkm H.out.tab).mono ?_
    rintro e w8 ⟨rfl, hb8⟩
    replace H := Lib.hid (H.out.on hb8)
    replace HJ := Lib.hid (HJ.out.on hb8)
    replace HP6 := Lib.hid (HP6.out.on hb8)
    clear hb8 a0 a1 a2 HI
    obtain ⟨mv, hmv⟩ : ∃ mv, matchV lc (v, s, lb) ys = mv := ⟨_, rfl⟩
    rw [hmv]
    have HS := Lib.hid (show (mv == 0) = sameBa (v, s, lb) (v2, s2, l2) by rw [← hmv]; exact Hm1.out)
    clear hmv Hm1
    have a0 := H.out.box.cell 0
    have a1 := H.out.box.cell 1
    have a2 := H.out.box.cell 2
    have e0 := HP6.out.cell 0
    have e1 := HP6.out.cell 1
    have e2 := HP6.out.cell 2
    go_wp2_with fail
    with_reducible refine (bsame_any v s A3 k3 c3 lb v2 s2 J kk dd l2 _ H.out.items HJ.out H.out.max2).mono ?_
    rw [← HS.out]
    rintro e w9 ⟨rfl, hb9⟩
    replace H := Lib.hid (H.out.on hb9)
    clear hb9 a0 a1 a2 e0 e1 e2 HJ HP6 HS
    have dq : ((mv == 0) == (mv == 0)) = true := by simp
    go_wp2
    go_ret
    exact ⟨rfl, H.out.below⟩
end Go.Proofs.YtegcbjkikhheiaaGreatDoor
