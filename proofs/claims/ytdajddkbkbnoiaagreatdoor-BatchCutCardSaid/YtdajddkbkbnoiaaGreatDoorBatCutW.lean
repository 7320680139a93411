/- The law BatchCut, walked. -/
import Derived.Test.YtdajddkbkbnoiaaGreatDoorBp20
set_option linter.unusedVariables false
set_option linter.unusedSimpArgs false
namespace Go.Proofs.YtdajddkbkbnoiaaGreatDoor
open Go.RowKit
set_option maxRecDepth 100000 in
set_option maxHeartbeats 4000000 in
theorem batchCut_walk (A : Option Addr) (n c : Nat) (l : List Co) (v s : Int) (I : Option Addr) (m d : Nat) (li : List It) (at2 : Int) (w : World) (hr : Reads w w.heap.size 7 A n (cos l)) (hn : n ≤ c) (hc : c ≤ maxLen) (hok : CoOk l)
    (hv : -9223372036854775808 ≤ v ∧ v ≤ 9223372036854775807) (hs : -9223372036854775808 ≤ s ∧ s ≤ 9223372036854775807) (hi : ItemsAt w w.heap.size I m li) (hm : m ≤ d) (hd : d ≤ maxLen) (hit : ItOk li) (hat : -9223372036854775808 ≤ at2 ∧ at2 ≤ 9223372036854775807) (hT : Tab2 w.heap.size w) :
    Calls Tryz.prog 11 #[.slice A n c, .agg #[.int .i64 v, .int .i64 s, .slice I m d], .int .i64 at2] w fun e w' => e = .returned (.bool true) ∧ Below w.heap.size w w' := by
  have Hr := Lib.hid hr
  have HT := Lib.hid hT
  have Hi := Lib.hid hi
  have Hit := Lib.hid hit
  have Hs := Lib.hid hs.2
  have hmm : m ≤ maxLen := Nat.le_trans hm hd
  have HP := Lib.hid (Blk.new w 25 #[.int .i64 v, .int .i64 s, .slice I m d])
  have HB := Lib.hid (bal (Below.refl w.heap.size w) (.cells #[.int .i64 v, .int .i64 s, .slice I m d] 25))
  clear hr hT hi hit hs hv hm hd hok
  have Hat := Lib.hid hat
  clear hat
  go_enter Tryz.func11, Tryz.ntmps11
  go_wp2
  generalize hW : w.alloc (.cells #[.int .i64 v, .int .i64 s, .slice I m d] 25) = W1 at *
  clear hW
  have HL0 := Lib.hid (show ∀ w', Below W1.heap.size W1 w' → w'.cell? ⟨w.heap.size, 0, none⟩ = some (.int .i64 v) from fun w' h => (HP.out.on h).cell 0)
  have HL1 := Lib.hid (show ∀ w', Below W1.heap.size W1 w' → w'.cell? ⟨w.heap.size, 1, none⟩ = some (.int .i64 s) from fun w' h => (HP.out.on h).cell 1)
  have HL2 := Lib.hid (show ∀ w', Below W1.heap.size W1 w' → w'.cell? ⟨w.heap.size, 2, none⟩ = some (.slice I m d) from fun w' h => (HP.out.on h).cell 2)
  have hS : Below W1.heap.size W1 W1.drew := (Below.refl _ _).drew
  refine wp_region_phase (fun w' => Below W1.heap.size W1 w') [0, 2] [(0, false), (2, false), (1, true), (3, true)] (fun _ => True) [(4, false), (5, true)] (by kernel_rfl) (by kernel_rfl) (by kernel_rfl) (fun d _ _ _ _ h => by cases d <;> exact h) ?_
  refine phase_pure (v := ?_) rfl rfl (by simp [Region.wanted, yielded]) hS ?_ ?_
  rotate_left
  · intro w hw; go_simp; try with_reducible rfl
  try simp only [Act.put, List.setIfInBounds_toArray, List.set_cons_succ, List.set_cons_zero]
  refine phase_pure (v := ?_) rfl rfl (by simp [Region.wanted, yielded]) hS ?_ ?_
  rotate_left
  · intro w hw; have c0 := HL0.out w hw; have c1 := HL1.out w hw; have c2 := HL2.out w hw; clear hw; go_simp; try with_reducible rfl
  try simp only [Act.put, List.setIfInBounds_toArray, List.set_cons_succ, List.set_cons_zero]
  refine phase_eff1 rfl (by simp [Region.wanted, yielded]) fun K hK => ?_
  go_simp
  with_reducible refine (columns17_any A n c l _ (Hr.out.on (bon HB.out hS)) hn hc).mono ?_
  rintro e w2 ⟨A1, k1, c1, rfl, hk1, o1, hb2⟩
  have HS2 := Lib.hid (bon hS hb2)
  have HO := Lib.hid o1
  clear o1 hb2
  refine held_go hK (by exact HS2.out) fun hS => ?_
  clear hK K
  try simp only [Act.put, List.setIfInBounds_toArray, List.set_cons_succ, List.set_cons_zero]
  refine phase_eff1 rfl (by simp [Region.wanted, yielded]) fun K hK => ?_
  go_simp
  with_reducible refine (cut17_any v s I m d li _ (Hi.out.on (bon HB.out HS2.out)) hmm Hit.out).mono ?_
  rintro e w3 ⟨A3, k3, c3, rfl, o3, hb3⟩
  have HS3 := Lib.hid (bon HS2.out hb3)
  have HO := Lib.hid (own_below HO.out hb3)
  have HIo := Lib.hid o3
  clear o3 hb3
  refine held_go hK (by exact HS3.out) fun hS => ?_
  clear hK K
  try simp only [Act.put, List.setIfInBounds_toArray, List.set_cons_succ, List.set_cons_zero]
  refine phase_end ?_
  have HP3 := Lib.hid (HP.out.on HS3.out)
  have HBc := Lib.hid (bon HB.out HS3.out)
  clear hS HL0 HL1 HL2 HS2 HS3 HP
  have hS : True := trivial
  refine held_pure (v := ?_) rfl rfl (by simp [Region.wanted, yielded]) hS ?_ ?_
  rotate_left
  · intro w hw; go_simp; try with_reducible rfl
  try simp only [Act.put, List.setIfInBounds_toArray, List.set_cons_succ, List.set_cons_zero]
  have a0 := HP3.out.cell 0
  have a1 := HP3.out.cell 1
  have a2 := HP3.out.cell 2
  have f0 := HP3.out.frozen 0
  have f1 := HP3.out.frozen 1
  have f2 := HP3.out.frozen 2
  refine held_eff1 rfl (by simp [Region.wanted, yielded]) fun K hK => ?_
  go_simp
  clear a0 a1 a2 f0 f1 f2
  obtain ⟨w4, hw4⟩ : ∃ w4, w4 = ((w3.setCell ⟨w.heap.size, 0, none⟩ (.int .i64 v)).setCell ⟨w.heap.size, 1, none⟩ (.int .i64 s)).setCell ⟨w.heap.size, 2, none⟩ (.slice A3 k3 c3) := ⟨_, rfl⟩
  obtain ⟨g1, g2, g3, g4, -, -⟩ := box_put HP3.out HIo.out hw4
  rw [← hw4]
  have hk3 : k3 ≤ 30 := by
    have := HIo.out.len
    have := cutl_len li
    omega
  have H := Lib.hid (show LawB w A1 k1 (l.take 40) v s A3 k3 c3 (cutl li) w4 from ⟨HBc.out.trans (g3 _ (Nat.le_refl _)), g1, own_reads (g4 HO.out (by decide)), g2.at_, HT.out.on (HBc.out.trans (g3 _ (Nat.le_refl _))), hk1, hk3, cutl_ok Hit.out, Hs.out⟩)
  generalize l.take 40 = lc at H
  clear hw4 g1 g2 g3 g4 HP3 HO HIo HBc
  refine held_go hK (by exact trivial) fun hS => ?_
  clear hK K
  try simp only [Act.put, List.setIfInBounds_toArray, List.set_cons_succ, List.set_cons_zero]
  refine held_end ?_
  clear HB Hr Hi Hit Hs
  generalize cutl li = lb at H
  have a0 := H.out.box.cell 0
  have a1 := H.out.box.cell 1
  have a2 := H.out.box.cell 2
  go_wp2_with fail
  with_reducible refine (benc_any A1 k1 c1 lc v s A3 k3 c3 lb _ H.out.cols H.out.max1 H.out.items H.out.max2 H.out.baok H.out.ok H.out.tab).mono ?_
  rintro e w5 ⟨hb5, ⟨hE, A5, c5, rfl, ho⟩ | ⟨hE, rfl⟩⟩
  · have hf := (fits_iff _ _).1 hE
    have hcut := hf.cut H.out.baok
    have hle := hf.enc_le
    have h4 := encA_four lc (v, s, lb)
    have hcc := own_caps ho
    generalize encA lc (v, s, lb) = xs at *
    obtain ⟨xl, hxl⟩ : ∃ xl, xs.length = xl := ⟨_, rfl⟩
    rw [hxl] at ho hle hcc h4 hcut ⊢
    have HX := Lib.hid (own_reads ho)
    have Hcut := Lib.hid hcut
    have Hcc := Lib.hid hcc
    have H := Lib.hid (H.out.on hb5)
    have d4 : decide ((xl : Int) < 4) = false := by simp; omega
    have hc63 : c5 ≤ 9223372036854775807 := by have := Hcc.out.2; simp only [maxLen] at this; omega
    have hj0 := Int.emod_nonneg at2 (show (xl : Int) ≠ 0 by omega)
    have hj1 := Int.emod_lt_of_pos at2 (show (0 : Int) < (xl : Int) by omega)
    obtain ⟨j, hj⟩ : ∃ j : Nat, at2 % (xl : Int) = (j : Int) := ⟨(at2 % (xl : Int)).toNat, by omega⟩
    rw [hj] at hj0 hj1
    have hjx : j < xl := by omega
    have hjc : j ≤ c5 := by have := Hcc.out.1; omega
    have Hj := Lib.hid hj
    clear a0 a1 a2 ho hb5 hcut hf hE hcc hxl hj hj0 hj1
    go_wp2_with fail
    with_reducible refine (bring_any at2 (xl : Int) _ Hat.out.1 Hat.out.2 (by omega) (by omega)).mono ?_
    rw [Hj.out]
    rintro e w6 ⟨rfl, rfl⟩
    obtain ⟨er, hdec⟩ := Hcut.out j hjx
    have Hdec := Lib.hid hdec
    have HXj := Lib.hid (show Reads w5 w5.heap.size 1 A5 j (u8s (xs.take j)) by have := HX.out.head (k := j) (by omega); rwa [Nat.mul_one, u8s_take] at this)
    have hji : (j : Int) ≤ (c5 : Int) := by omega
    clear hdec Hcut
    go_wp2_with fail
    with_reducible refine (bdec_any A1 k1 c1 lc A5 j c5 (xs.take j) _ H.out.cols H.out.max1 HXj.out hjc Hcc.out.2 H.out.tab).mono ?_
    rw [Hdec.out]
    rintro e w7 ⟨hb7, rfl, her⟩
    have d1 : ((er : Int) != 0) = true := by simp; omega
    have H := Lib.hid ((H.out.on hb7).al (.cells #[.int .i64 0, .int .i64 0, .slice none 0 0] 25))
    clear hb7 her HXj
    go_wp2_with fail
    with_reducible refine (bsame_any 0 0 none 0 0 [] 0 0 none 0 0 [] _ ItemsAt.nil ItemsAt.nil (by decide)).mono ?_
    rw [sameBa_self]
    rintro e w8 ⟨rfl, hb8⟩
    have H := Lib.hid (H.out.on hb8)
    clear hb8
    go_wp2_with fail
    with_reducible refine (bworks_yes _ H.out.tab).mono ?_
    rintro e w9 ⟨rfl, hb9⟩
    have H := Lib.hid (H.out.on hb9)
    clear hb9
    go_wp2
    go_ret
    exact ⟨rfl, H.out.below⟩
  · have H := Lib.hid (H.out.on hb5)
    generalize batE lc (v, s, lb) = E at *
    have d1 : (E != 0) = true := by simpa using hE
    clear hb5 hE a0 a1 a2
    go_wp2_with fail
    with_reducible refine (bworks_yes _ H.out.tab).mono ?_
    rintro e w9 ⟨rfl, hb9⟩
    have H := Lib.hid (H.out.on hb9)
    clear hb9
    go_wp2
    go_ret
    exact ⟨rfl, H.out.below⟩
end Go.Proofs.YtdajddkbkbnoiaaGreatDoor
