/- The law BatchBack, walked. -/
import Derived.Test.YtdajddkbkbnoiaaGreatDoorBp20
set_option linter.unusedVariables false
set_option linter.unusedSimpArgs false
namespace Go.Proofs.YtdajddkbkbnoiaaGreatDoor
open Go.RowKit
set_option maxRecDepth 100000 in
set_option maxHeartbeats 4000000 in
theorem batchBack_walk (A : Option Addr) (n c : Nat) (l : List Co) (v s : Int) (I : Option Addr) (m d : Nat) (li : List It) (w : World) (hr : Reads w w.heap.size 7 A n (cos l)) (hn : n ≤ c) (hc : c ≤ maxLen) (hok : CoOk l)
    (hv : -9223372036854775808 ≤ v ∧ v ≤ 9223372036854775807) (hs : -9223372036854775808 ≤ s ∧ s ≤ 9223372036854775807) (hi : ItemsAt w w.heap.size I m li) (hm : m ≤ d) (hd : d ≤ maxLen) (hit : ItOk li) (hT : Tab2 w.heap.size w) :
    Calls Tryz.prog 14 #[.slice A n c, .agg #[.int .i64 v, .int .i64 s, .slice I m d]] w fun e w' => e = .returned (.bool true) ∧ Below w.heap.size w w' := by
  have Hr := Lib.hid hr
  have HT := Lib.hid hT
  have Hi := Lib.hid hi
  have Hit := Lib.hid hit
  have Hs := Lib.hid hs.2
  have hmm : m ≤ maxLen := Nat.le_trans hm hd
  have HP := Lib.hid (Blk.new w 25 #[.int .i64 v, .int .i64 s, .slice I m d])
  have HB := Lib.hid (bal (Below.refl w.heap.size w) (.cells #[.int .i64 v, .int .i64 s, .slice I m d] 25))
  clear hr hT hi hit hs hv hm hd hok
  go_enter Tryz.func14, Tryz.ntmps14
  go_wp2
  generalize hW : w.alloc (.cells #[.int .i64 v, .int .i64 s, .slice I m d] 25) = W1 at *
  clear hW
  have HL0 := Lib.hid (show ∀ w', Below W1.heap.size W1 w' → w'.cell? ⟨w.heap.size, 0, none⟩ = some (.int .i64 v) from fun w' h => (HP.out.on h).cell 0)
  have HL1 := Lib.hid (show ∀ w', Below W1.heap.size W1 w' → w'.cell? ⟨w.heap.size, 1, none⟩ = some (.int .i64 s) from fun w' h => (HP.out.on h).cell 1)
  have HL2 := Lib.hid (show ∀ w', Below W1.heap.size W1 w' → w'.cell? ⟨w.heap.size, 2, none⟩ = some (.slice I m d) from fun w' h => (HP.out.on h).cell 2)
  have hS : Below W1.heap.size W1 W1.drew := (Below.refl _ _).drew
  refine wp_region_phase (fun w' => Below W1.heap.size W1 w') [0, 2] [(0, false), (2, false), (1, true), (3, true)] (fun _ => True) [(4, false), (5, true)] (by kernel_rfl) (by kernel_rfl) (by kernel_rfl) (fun d _ _ _ _ h => by cases d <;> exact h) ?_
  refine phase_pure (v := ?_) rfl rfl (by simp [Region.wanted, yielded]) hS ?_ ?_
  rotate_left
  · intro w hw; go_simp; try with_reducible rfl
  try simp only [Act.put, List.setIfInBounds_toArray, List.set_cons_succ, List.set_cons_zero]
  refine phase_pure (v := ?_) rfl rfl (by simp [Region.wanted, yielded]) hS ?_ ?_
  rotate_left
  · intro w hw; have c0 := HL0.out w hw; have c1 := HL1.out w hw; have c2 := HL2.out w hw; clear hw; go_simp; try with_reducible rfl
  try simp only [Act.put, List.setIfInBounds_toArray, List.set_cons_succ, List.set_cons_zero]
  refine phase_eff1 rfl (by simp [Region.wanted, yielded]) fun K hK => ?_
  go_simp
  with_reducible refine (columns17_any A n c l _ (Hr.out.on (bon HB.out hS)) hn hc).mono ?_
  rintro e w2 ⟨A1, k1, c1, rfl, hk1, o1, hb2⟩
  have HS2 := Lib.hid (bon hS hb2)
  have HO := Lib.hid o1
  clear o1 hb2
  refine held_go hK (by exact HS2.out) fun hS => ?_
  clear hK K
  try simp only [Act.put, List.setIfInBounds_toArray, List.set_cons_succ, List.set_cons_zero]
  refine phase_eff1 rfl (by simp [Region.wanted, yielded]) fun K hK => ?_
  go_simp
  with_reducible refine (cut17_any v s I m d li _ (Hi.out.on (bon HB.out HS2.out)) hmm Hit.out).mono ?_
  rintro e w3 ⟨A3, k3, c3, rfl, o3, hb3⟩
  have HS3 := Lib.hid (bon HS2.out hb3)
  have HO := Lib.hid (own_below HO.out hb3)
  have HIo := Lib.hid o3
  clear o3 hb3
  refine held_go hK (by exact HS3.out) fun hS => ?_
  clear hK K
  try simp only [Act.put, List.setIfInBounds_toArray, List.set_cons_succ, List.set_cons_zero]
  refine phase_end ?_
  have HP3 := Lib.hid (HP.out.on HS3.out)
  have HBc := Lib.hid (bon HB.out HS3.out)
  clear hS HL0 HL1 HL2 HS2 HS3 HP
  have hS : True := trivial
  refine held_pure (v := ?_) rfl rfl (by simp [Region.wanted, yielded]) hS ?_ ?_
  rotate_left
  · intro w hw; go_simp; try with_reducible rfl
  try simp only [Act.put, List.setIfInBounds_toArray, List.set_cons_succ, List.set_cons_zero]
  have a0 := HP3.out.cell 0
  have a1 := HP3.out.cell 1
  have a2 := HP3.out.cell 2
  have f0 := HP3.out.frozen 0
  have f1 := HP3.out.frozen 1
  have f2 := HP3.out.frozen 2
  refine held_eff1 rfl (by simp [Region.wanted, yielded]) fun K hK => ?_
  go_simp
  clear a0 a1 a2 f0 f1 f2
  obtain ⟨w4, hw4⟩ : ∃ w4, w4 = ((w3.setCell ⟨w.heap.size, 0, none⟩ (.int .i64 v)).setCell ⟨w.heap.size, 1, none⟩ (.int .i64 s)).setCell ⟨w.heap.size, 2, none⟩ (.slice A3 k3 c3) := ⟨_, rfl⟩
  obtain ⟨g1, g2, g3, g4, -, -⟩ := box_put HP3.out HIo.out hw4
  rw [← hw4]
  have hk3 : k3 ≤ 30 := by
    have := HIo.out.len
    have := cutl_len li
    omega
  have H := Lib.hid (show LawB w A1 k1 (l.take 40) v s A3 k3 c3 (cutl li) w4 from ⟨HBc.out.trans (g3 _ (Nat.le_refl _)), g1, own_reads (g4 HO.out (by decide)), g2.at_, HT.out.on (HBc.out.trans (g3 _ (Nat.le_refl _))), hk1, hk3, cutl_ok Hit.out, Hs.out⟩)
  generalize l.take 40 = lc at H
  clear hw4 g1 g2 g3 g4 HP3 HO HIo HBc
  refine held_go hK (by exact trivial) fun hS => ?_
  clear hK K
  try simp only [Act.put, List.setIfInBounds_toArray, List.set_cons_succ, List.set_cons_zero]
  refine held_end ?_
  clear HB Hr Hi Hit Hs
  generalize cutl li = lb at H
  have a0 := H.out.box.cell 0
  have a1 := H.out.box.cell 1
  have a2 := H.out.box.cell 2
  go_wp2_with fail
  with_reducible refine (benc_any A1 k1 c1 lc v s A3 k3 c3 lb _ H.out.cols H.out.max1 H.out.items H.out.max2 H.out.baok H.out.ok H.out.tab).mono ?_
  rintro e w5 ⟨hb5, ⟨hE, A5, c5, rfl, ho⟩ | ⟨hE, rfl⟩⟩
  · have hf := (fits_iff _ _).1 hE
    have hbk := hf.back H.out.baok
    have hpk := hf.peek H.out.baok
    have hln := H.out.items.len
    have hle := hf.enc_le
    have hcc := own_caps ho
    simp only at hbk hpk
    generalize encA lc (v, s, lb) = xs at *
    obtain ⟨xl, hxl⟩ : ∃ xl, xs.length = xl := ⟨_, rfl⟩
    rw [hxl] at ho hle hcc ⊢
    have HX := Lib.hid (own_reads ho)
    have Hbk := Lib.hid hbk
    have Hpk := Lib.hid hpk
    have Hcc := Lib.hid hcc
    have H := Lib.hid (H.out.on hb5)
    clear a0 a1 a2 ho hb5 hbk hpk hf hE hcc hxl
    go_wp2_with fail
    with_reducible refine (bdec_any A1 k1 c1 lc A5 xl c5 xs _ H.out.cols H.out.max1 HX.out Hcc.out.1 Hcc.out.2 H.out.tab).mono ?_
    rw [Hbk.out]
    rintro e w6 ⟨hb6, J, kk, dd, rfl, hio⟩
    have hkk := hio.len
    simp only at hkk ⊢
    obtain rfl : k3 = kk := by omega
    have HJ := Lib.hid (hio.at_.al (.cells #[.int .i64 v, .int .i64 s, .slice J k3 dd] 25))
    have HP6 := Lib.hid (Blk.new w6 25 #[.int .i64 v, .int .i64 s, .slice J k3 dd])
    have H := Lib.hid ((H.out.on hb6).al (.cells #[.int .i64 v, .int .i64 s, .slice J k3 dd] 25))
    have HX := Lib.hid ((HX.out.on hb6).al (.cells #[.int .i64 v, .int .i64 s, .slice J k3 dd] 25))
    clear hio hb6 hkk
    go_wp2_with fail
    with_reducible refine (bpeek_any A5 xl c5 xs _ HX.out Hcc.out.1 Hcc.out.2 H.out.tab).mono ?_
    rw [Hpk.out]
    rintro e w7 ⟨rfl, hb7⟩
    have H := Lib.hid (H.out.on hb7)
    have HJ := Lib.hid (HJ.out.on hb7)
    have HP6 := Lib.hid (HP6.out.on hb7)
    have a0 := H.out.box.cell 0
    have a1 := H.out.box.cell 1
    have a2 := H.out.box.cell 2
    have e0 := HP6.out.cell 0
    have e1 := HP6.out.cell 1
    have e2 := HP6.out.cell 2
    simp only
    rw [hln]
    clear hb7 HX hln
    go_wp2_with fail
    with_reducible refine (bsame_any v s A3 k3 c3 lb v s J k3 dd lb _ H.out.items HJ.out H.out.max2).mono ?_
    rw [sameBa_self]
    rintro e w8 ⟨rfl, hb8⟩
    have H := Lib.hid (H.out.on hb8)
    clear hb8 a0 a1 a2 e0 e1 e2 HJ
    have a0 := H.out.box.cell 0
    have a1 := H.out.box.cell 1
    have a2 := H.out.box.cell 2
    have t1 : (v == v) = true := by simp
    have t2 : (s == s) = true := by simp
    have t3 : ((k3 : Int) == (k3 : Int)) = true := by simp
    go_wp2_with fail
    with_reducible refine (bworks_yes _ H.out.tab).mono ?_
    rintro e w9 ⟨rfl, hb9⟩
    have H := Lib.hid (H.out.on hb9)
    clear hb9
    go_wp2
    go_ret
    exact ⟨rfl, H.out.below⟩
  · have H := Lib.hid (H.out.on hb5)
    obtain ⟨E, hEE⟩ : ∃ E, batE lc (v, s, lb) = E := ⟨_, rfl⟩
    rw [hEE] at hE ⊢
    have HE := Lib.hid hEE
    have d1 : (E != 0) = true := by simpa using hE
    have d2 : (E == E) = true := by simp
    clear hb5 hE hEE a0 a1 a2
    have a0 := H.out.box.cell 0
    have a1 := H.out.box.cell 1
    have a2 := H.out.box.cell 2
    go_wp2_with fail
    with_reducible refine (bCheck_any A1 k1 c1 lc v s A3 k3 c3 lb _ H.out.cols H.out.max1 H.out.items H.out.max2 H.out.tab.tabs).mono ?_
    rw [HE.out]
    rintro e w6 ⟨rfl, hb6⟩
    have H := Lib.hid (H.out.on hb6)
    clear hb6 a0 a1 a2
    go_wp2_with fail
    with_reducible refine (bworks_yes _ H.out.tab).mono ?_
    rintro e w9 ⟨rfl, hb9⟩
    have H := Lib.hid (H.out.on hb9)
    clear hb9
    go_wp2
    go_ret
    exact ⟨rfl, H.out.below⟩
end Go.Proofs.YtdajddkbkbnoiaaGreatDoor
