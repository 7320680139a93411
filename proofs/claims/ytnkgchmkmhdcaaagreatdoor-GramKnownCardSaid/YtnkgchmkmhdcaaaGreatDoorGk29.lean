/- Part 29 of the walks, merged: each text under its own heading. Conditions: none of its own; each lemma states what it asks. -/
import Derived.Test.YtnkgchmkmhdcaaaGreatDoorGk11
import Derived.Test.YtnkgchmkmhdcaaaGreatDoorGk28
set_option linter.unusedVariables false
set_option linter.unusedSimpArgs false
namespace Go.Proofs.YtnkgchmkmhdcaaaGreatDoor
open Go.RowKit
set_option maxRecDepth 100000 in
set_option maxHeartbeats 8000000 in
theorem gramDoes_walk (A : Option Addr) (n c : Nat) (l : List Co) (v s : Int) (I : Option Addr) (m d : Nat) (li : List It) (X : Option Addr) (xn xc : Nat) (xs : List UInt8) (w : World) (hr : Reads w w.heap.size 7 A n (cos l)) (hn : n ≤ c) (hc : c ≤ maxLen) (hok : CoOk l)
  (hv : -9223372036854775808 ≤ v ∧ v ≤ 9223372036854775807) (hs : -9223372036854775808 ≤ s ∧ s ≤ 9223372036854775807) (hi : ItemsAt w w.heap.size I m li) (hm : m ≤ d) (hd : d ≤ maxLen) (hit : ItOk li) (hx : Reads w w.heap.size 1 X xn (u8s xs)) (hxn : xn ≤ xc) (hxc : xc ≤ maxLen) (hT : Tab2 w.heap.size w) :
  Calls Tryz.prog 18 #[.slice A n c, .agg #[.int .i64 v, .int .i64 s, .slice I m d], .slice X xn xc] w fun e w' => e = .returned (.bool true) ∧ Below w.heap.size w w' := by
 have Hr := Lib.hid hr
 have HT := Lib.hid hT
 have Hi := Lib.hid hi
 have Hit := Lib.hid hit
 have Hs := Lib.hid hs.2
 have hmm : m ≤ maxLen := Nat.le_trans hm hd
 have HP := Lib.hid (Blk.new w 30 #[.int .i64 v, .int .i64 s, .slice I m d])
 have HB := Lib.hid (bal (Below.refl w.heap.size w) (.cells #[.int .i64 v, .int .i64 s, .slice I m d] 30))
 clear hr hT hi hit hs hv hm hd hok
 have HX := Lib.hid hx
 clear hx
 go_enter Tryz.func18, Tryz.ntmps18
 go_wp2
 generalize hW : w.alloc (.cells #[.int .i64 v, .int .i64 s, .slice I m d] 30) = W1 at *
 clear hW
 have HL0 := Lib.hid (show ∀ w', Below W1.heap.size W1 w' → w'.cell? ⟨w.heap.size, 0, none⟩ = some (.int .i64 v) from fun w' h => (HP.out.on h).cell 0)
 have HL1 := Lib.hid (show ∀ w', Below W1.heap.size W1 w' → w'.cell? ⟨w.heap.size, 1, none⟩ = some (.int .i64 s) from fun w' h => (HP.out.on h).cell 1)
 have HL2 := Lib.hid (show ∀ w', Below W1.heap.size W1 w' → w'.cell? ⟨w.heap.size, 2, none⟩ = some (.slice I m d) from fun w' h => (HP.out.on h).cell 2)
 have hS : Below W1.heap.size W1 W1.drew := (Below.refl _ _).drew
 refine wp_region_phase (fun w' => Below W1.heap.size W1 w') [0, 2] [(0, false), (2, false), (1, true), (3, true)] (fun _ => True) [(4, false), (5, true)] (by kernel_rfl) (by kernel_rfl) (by kernel_rfl) (fun d _ _ _ _ h => by cases d <;> exact h) ?_
 refine phase_pure (v := ?_) rfl rfl (by simp [Region.wanted, yielded]) hS ?_ ?_
 rotate_left
 ·intro w hw; go_simp; try with_reducible rfl
 try simp only [Act.put, zpA, zpB, zpC]
 refine phase_pure (v := ?_) rfl rfl (by simp [Region.wanted, yielded]) hS ?_ ?_
 rotate_left
 ·intro w hw; have c0 := HL0.out w hw; have c1 := HL1.out w hw; have c2 := HL2.out w hw; clear hw; go_simp; try with_reducible rfl
 try simp only [Act.put, zpA, zpB, zpC]
 refine phase_eff1 rfl (by simp [Region.wanted, yielded]) fun K hK => ?_
 go_simp
 with_reducible refine (columns18_any A n c l _ (Hr.out.on (bon HB.out hS)) hn hc).mono ?_
 rintro e w2 ⟨A1, k1, c1, rfl, hk1, o1, hb2⟩
 have HS2 := Lib.hid (bon hS hb2)
 have HO := Lib.hid o1
 clear o1 hb2
 refine held_go hK (by exact HS2.out) fun hS => ?_
 clear hK K
 try simp only [Act.put, zpA, zpB, zpC]
 refine phase_eff1 rfl (by simp [Region.wanted, yielded]) fun K hK => ?_
 go_simp
 with_reducible refine (cut18_any v s I m d li _ (Hi.out.on (bon HB.out HS2.out)) hmm Hit.out).mono ?_
 rintro e w3 ⟨A3, k3, c3, rfl, o3, hb3⟩
 have HS3 := Lib.hid (bon HS2.out hb3)
 have HO := Lib.hid (own_below HO.out hb3)
 have HIo := Lib.hid o3
 clear o3 hb3
 refine held_go hK (by exact HS3.out) fun hS => ?_
 clear hK K
 try simp only [Act.put, zpA, zpB, zpC]
 refine phase_end ?_
 have HP3 := Lib.hid (HP.out.on HS3.out)
 have HBc := Lib.hid (bon HB.out HS3.out)
 clear hS HL0 HL1 HL2 HS2 HP
 have hS : True := trivial
 refine held_pure (v := ?_) rfl rfl (by simp [Region.wanted, yielded]) hS ?_ ?_
 rotate_left
 ·intro w hw; go_simp; try with_reducible rfl
 try simp only [Act.put, zpA, zpB, zpC]
 have a0 := HP3.out.cell 0
 have a1 := HP3.out.cell 1
 have a2 := HP3.out.cell 2
 have f0 := HP3.out.frozen 0
 have f1 := HP3.out.frozen 1
 have f2 := HP3.out.frozen 2
 refine held_eff1 rfl (by simp [Region.wanted, yielded]) fun K hK => ?_
 go_simp
 clear a0 a1 a2 f0 f1 f2
 obtain ⟨w4, hw4⟩ : ∃ w4, w4 = ((w3.setCell ⟨w.heap.size, 0, none⟩ (.int .i64 v)).setCell ⟨w.heap.size, 1, none⟩ (.int .i64 s)).setCell ⟨w.heap.size, 2, none⟩ (.slice A3 k3 c3) := ⟨_, rfl⟩
 obtain ⟨g1, g2, g3, g4, g5, g6⟩ := box_put HP3.out HIo.out hw4
 skip
 rw [← hw4]
 have hk3 : k3 ≤ 30 := by
  have := HIo.out.len
  have := cutl_len li
  omega
 have H := Lib.hid (show LawB w A1 k1 (l.take 40) v s A3 k3 c3 (cutl li) w4 from ⟨HBc.out.trans (g3 _ (Nat.le_refl _)), g1, own_reads (g4 HO.out (by decide)), g2.at_, HT.out.on (HBc.out.trans (g3 _ (Nat.le_refl _))), hk1, hk3, cutl_ok Hit.out, Hs.out⟩)
 generalize l.take 40 = lc at H
 clear hw4 g1 g2 g3 g4 g5 g6 HP3 HO HIo HBc HS3
 refine held_go hK (by exact trivial) fun hS => ?_
 clear hK K
 try simp only [Act.put, zpA, zpB, zpC]
 refine held_end ?_
 clear HB Hr Hi Hit Hs
 have Hcut := Lib.hid (cutl_idem li)
 generalize cutl li = lb at H Hcut
 go_wp2
 have HH := H
 obtain ⟨z4, hz4⟩ : ∃ z4, z4 = w4.heap.size := ⟨_, rfl⟩
 have HZ4 := Lib.hid (show ∀ w', Below w4.heap.size w4 w' → Below z4 w4 w' by rw [hz4]; exact fun _ h => h)
 have HZ5 := Lib.hid (show ∀ w', Below z4 w4 w' → Below w4.heap.size w4 w' by rw [hz4]; exact fun _ h => h)
 clear hz4
 have h4d : Below w4.heap.size w4 w4.drew := (Below.refl _ _).drew
 have hS := HZ4.out _ h4d
 have HL0 := Lib.hid (show ∀ w', Below z4 w4 w' → w'.cell? ⟨w.heap.size, 0, none⟩ = some (.int .i64 v) from fun w' h => (HH.out.on (HZ5.out _ h)).box.cell 0)
 have HL1 := Lib.hid (show ∀ w', Below z4 w4 w' → w'.cell? ⟨w.heap.size, 1, none⟩ = some (.int .i64 s) from fun w' h => (HH.out.on (HZ5.out _ h)).box.cell 1)
 have HL2 := Lib.hid (show ∀ w', Below z4 w4 w' → w'.cell? ⟨w.heap.size, 2, none⟩ = some (.slice A3 k3 c3) from fun w' h => (HH.out.on (HZ5.out _ h)).box.cell 2)
 have H4 := Lib.hid h4d
 clear h4d
 refine wp_region_plan (fun w' => Below z4 w4 w') (.pure 0 (.pure 2 (.fork 1 4 (.fork 3 4 (.eff 4 (.pure 5 (.eff 6 .done))) (.eff 3 (.pure 5 (.eff 6 .done)))) (.eff 1 (.eff 3 (.pure 5 (.eff 6 .done))))))) (by kernel_rfl) (by kernel_rfl) (by kernel_rfl) (fun d _ _ _ _ h => by cases d <;> exact h) ?_
 refine plan_pure (v := ?_) rfl rfl (by simp [Region.wanted, yielded]) hS ?_ ?_
 rotate_left
 ·intro w hw; go_simp; try with_reducible rfl
 try simp only [Act.put, zpA, zpB, zpC]
 refine plan_pure (v := ?_) rfl rfl (by simp [Region.wanted, yielded]) hS ?_ ?_
 rotate_left
 ·intro w hw; have c0 := HL0.out w hw; have c1 := HL1.out w hw; have c2 := HL2.out w hw; clear hw; go_simp; try with_reducible rfl
 try simp only [Act.put, zpA, zpB, zpC]
 clear HL0 HL1 HL2
 replace H := Lib.hid (HH.out.on H4.out)
 clear HH
 refine plan_fork ?_ ?_
 refine plan_eff1 rfl (by simp [Region.wanted, yielded]) fun K hK => ?_
 go_simp
 with_reducible refine (bytes18_any X xn xc xs _ (HX.out.on H.out.below) hxn hxc).mono ?_
 rintro e w6 ⟨A5, k5, c5, rfl, hkc, hcm, o5, hb5⟩
 have hkm : k5 ≤ maxLen := Nat.le_trans hkc hcm
 have HIo := Lib.hid o5
 clear o5
 replace H := Lib.hid (H.out.on hb5)
 replace H4 := Lib.hid (bon H4.out hb5)
 clear hb5
 refine held_go hK (by exact HZ4.out _ H4.out) fun hS => ?_
 clear hK K
 try simp only [Act.put, zpA, zpB, zpC]
 refine plan_fork ?_ ?_
 refine plan_eff1 rfl (by simp [Region.wanted, yielded]) fun K hK => ?_
 go_simp
 with_reducible refine (cut18_any v s A3 k3 c3 lb _ H.out.items H.out.max2 H.out.ok).mono ?_
 rw [Hcut.out]
 rintro e w7 ⟨A8, k8, c8, rfl, o8, hb7⟩
 have HWo := Lib.hid o8
 clear o8
 replace HIo := Lib.hid (own_below HIo.out hb7)
 replace H := Lib.hid (H.out.on hb7)
 replace H4 := Lib.hid (bon H4.out hb7)
 clear hb7
 refine held_go hK (by exact HZ4.out _ H4.out) fun hS => ?_
 clear hK K
 try simp only [Act.put, zpA, zpB, zpC]
 refine plan_eff1 rfl (by simp [Region.wanted, yielded]) fun K hK => ?_
 go_simp
 have HPo := Lib.hid (bal (Below.refl w7.heap.size w7) (.cells #[.int .i64 0, .int .i64 0, .slice none 0 0] 30))
 have HBx := Lib.hid (Blk.new w7 30 #[.int .i64 0, .int .i64 0, .slice none 0 0])
 have hbx := H.out.box.lt
 have h4s := H4.out.size
 replace HIo := Lib.hid (HIo.out.alloc (.cells #[.int .i64 0, .int .i64 0, .slice none 0 0] 30))
 replace HWo := Lib.hid (HWo.out.below (bal (Below.refl _ _) (.cells #[.int .i64 0, .int .i64 0, .slice none 0 0] 30)))
 replace H4 := Lib.hid (bal H4.out (.cells #[.int .i64 0, .int .i64 0, .slice none 0 0] 30))
 refine held_go hK (by exact HZ4.out _ H4.out) fun hS => ?_
 clear hK K
 try simp only [Act.put, zpA, zpB, zpC]
 generalize w7.alloc (.cells #[.int .i64 0, .int .i64 0, .slice none 0 0] 30) = W at *
 obtain ⟨gw, hgw⟩ : ∃ gw, gw = w7.heap.size := ⟨_, rfl⟩
 rw [← hgw] at HBx ⊢
 have hgp : w7.heap.size ≤ gw := by omega
 have hgne : w.heap.size ≠ gw := by omega
 have hg4 : w4.heap.size ≤ gw := by omega
 clear hgw hbx h4s
 rotate_left
 refine plan_eff1 rfl (by simp [Region.wanted, yielded]) fun K hK => ?_
 go_simp
 have HPo := Lib.hid (bal (Below.refl w6.heap.size w6) (.cells #[.int .i64 0, .int .i64 0, .slice none 0 0] 30))
 have HBx := Lib.hid (Blk.new w6 30 #[.int .i64 0, .int .i64 0, .slice none 0 0])
 have hbx := H.out.box.lt
 have h4s := H4.out.size
 have HK := H
 replace H := Lib.hid (H.out.al (.cells #[.int .i64 0, .int .i64 0, .slice none 0 0] 30))
 replace HIo := Lib.hid (HIo.out.alloc (.cells #[.int .i64 0, .int .i64 0, .slice none 0 0] 30))
 replace H4 := Lib.hid (bal H4.out (.cells #[.int .i64 0, .int .i64 0, .slice none 0 0] 30))
 refine held_go hK (by exact HZ4.out _ H4.out) fun hS => ?_
 clear hK K
 try simp only [Act.put, zpA, zpB, zpC]
 generalize w6.alloc (.cells #[.int .i64 0, .int .i64 0, .slice none 0 0] 30) = w7 at *
 obtain ⟨gw, hgw⟩ : ∃ gw, gw = w6.heap.size := ⟨_, rfl⟩
 rw [← hgw] at HBx ⊢
 have hgp : w6.heap.size ≤ gw := by omega
 have hgne : w.heap.size ≠ gw := by omega
 have hg4 : w4.heap.size ≤ gw := by omega
 clear hgw hbx h4s
 refine plan_eff1 rfl (by simp [Region.wanted, yielded]) fun K hK => ?_
 go_simp
 with_reducible refine (cut18_any v s A3 k3 c3 lb _ H.out.items H.out.max2 H.out.ok).mono ?_
 rw [Hcut.out]
 rintro e W ⟨A8, k8, c8, rfl, o8, hb7⟩
 have HWo := Lib.hid o8
 clear o8
 replace HIo := Lib.hid (own_below HIo.out hb7)
 replace HBx := Lib.hid (HBx.out.on hb7)
 replace HPo := Lib.hid (bon HPo.out hb7)
 replace H := HK
 replace H4 := Lib.hid (bon H4.out hb7)
 clear hb7 HK
 refine held_go hK (by exact HZ4.out _ H4.out) fun hS => ?_
 clear hK K
 try simp only [Act.put, zpA, zpB, zpC]
 rotate_left
 refine plan_eff1 rfl (by simp [Region.wanted, yielded]) fun K hK => ?_
 go_simp
 have HPo := Lib.hid (bal (Below.refl w4.drew.heap.size w4.drew) (.cells #[.int .i64 0, .int .i64 0, .slice none 0 0] 30))
 have HBx := Lib.hid (show Blk (w4.drew.alloc (.cells #[.int .i64 0, .int .i64 0, .slice none 0 0] 30)) w4.heap.size 30 #[.int .i64 0, .int .i64 0, .slice none 0 0] from Blk.new w4.drew _ _)
 have hbx := H.out.box.lt
 have HK := H
 replace H := Lib.hid (H.out.al (.cells #[.int .i64 0, .int .i64 0, .slice none 0 0] 30))
 replace H4 := Lib.hid (bal H4.out (.cells #[.int .i64 0, .int .i64 0, .slice none 0 0] 30))
 refine held_go hK (by exact HZ4.out _ H4.out) fun hS => ?_
 clear hK K
 try simp only [Act.put, zpA, zpB, zpC]
 rw [show w4.drew.alloc (.cells #[.int .i64 0, .int .i64 0, .slice none 0 0] 30) = (w4.alloc (.cells #[.int .i64 0, .int .i64 0, .slice none 0 0] 30)).drew from rfl] at H H4 HPo HBx
 generalize (w4.alloc (.cells #[.int .i64 0, .int .i64 0, .slice none 0 0] 30)).drew = w6 at *
 obtain ⟨gw, hgw⟩ : ∃ gw, gw = w4.heap.size := ⟨_, rfl⟩
 rw [← hgw] at HBx ⊢
 have hgp : w4.drew.heap.size ≤ gw := by show w4.heap.size ≤ gw; omega
 have hgne : w.heap.size ≠ gw := by have : w.heap.size < w4.heap.size := hbx; omega
 have hg4 : w4.heap.size ≤ gw := by omega
 clear hgw hbx
 refine plan_eff1 rfl (by simp [Region.wanted, yielded]) fun K hK => ?_
 go_simp
 with_reducible refine (bytes18_any X xn xc xs _ (HX.out.on H.out.below) hxn hxc).mono ?_
 rintro e w7 ⟨A5, k5, c5, rfl, hkc, hcm, o5, hb5⟩
 have hkm : k5 ≤ maxLen := Nat.le_trans hkc hcm
 have HIo := Lib.hid o5
 clear o5
 replace H := Lib.hid (H.out.on hb5)
 replace H4 := Lib.hid (bon H4.out hb5)
 replace HBx := Lib.hid (HBx.out.on hb5)
 replace HPo := Lib.hid (bon HPo.out hb5)
 clear hb5
 refine held_go hK (by exact HZ4.out _ H4.out) fun hS => ?_
 clear hK K
 try simp only [Act.put, zpA, zpB, zpC]
 refine plan_eff1 rfl (by simp [Region.wanted, yielded]) fun K hK => ?_
 go_simp
 with_reducible refine (cut18_any v s A3 k3 c3 lb _ H.out.items H.out.max2 H.out.ok).mono ?_
 rw [Hcut.out]
 rintro e W ⟨A8, k8, c8, rfl, o8, hb7⟩
 have HWo := Lib.hid o8
 clear o8
 replace HIo := Lib.hid (own_below HIo.out hb7)
 replace HBx := Lib.hid (HBx.out.on hb7)
 replace HPo := Lib.hid (bon HPo.out hb7)
 replace H := HK
 replace H4 := Lib.hid (bon H4.out hb7)
 clear hb7 HK
 refine held_go hK (by exact HZ4.out _ H4.out) fun hS => ?_
 clear hK K
 try simp only [Act.put, zpA, zpB, zpC]
 all_goals
  refine plan_pure (v := ?_) rfl rfl (by simp [Region.wanted, yielded]) hS ?_ ?_
  rotate_left
  ·intro w hw; go_simp; try with_reducible rfl
  try simp only [Act.put, zpA, zpB, zpC]
  have a0 := HBx.out.cell 0
  have a1 := HBx.out.cell 1
  have a2 := HBx.out.cell 2
  have f0 := HBx.out.frozen 0
  have f1 := HBx.out.frozen 1
  have f2 := HBx.out.frozen 2
  refine plan_eff1 rfl (by simp [Region.wanted, yielded]) fun K hK => ?_
  go_simp
  clear a0 a1 a2 f0 f1 f2
  obtain ⟨w9, hw9⟩ : ∃ w9, w9 = ((W.setCell ⟨gw, 0, none⟩ (.int .i64 v)).setCell ⟨gw, 1, none⟩ (.int .i64 s)).setCell ⟨gw, 2, none⟩ (.slice A8 k8 c8) := ⟨_, rfl⟩
  obtain ⟨g1, g2, g3, g4, g5, g6⟩ := box_put HBx.out HWo.out hw9
  rw [← hw9]
  have hb9 := HPo.out.trans (g3 _ hgp)
  replace H := Lib.hid (H.out.on hb9)
  have HQ := Lib.hid g1
  have HJ := Lib.hid g2.at_
  have HI := Lib.hid (own_reads (g4 HIo.out (by decide)))
  replace H4 := Lib.hid (H4.out.trans (g3 _ hg4))
  have hk8 : k8 ≤ maxLen := by
   have q1 := HJ.out.len
   have q2 := H.out.items.len
   have q3 := H.out.max2
   omega
  clear hw9 g1 g2 g3 g4 g5 g6 hb9 HIo HWo HBx HPo hgp hgne hg4
  refine held_go hK (by exact HZ4.out _ H4.out) fun hS => ?_
  clear hK K
  try simp only [Act.put, zpA, zpB, zpC]
  refine plan_end ?_
  clear H4 hS
  obtain ⟨ys, hys⟩ : ∃ ys, xs.take 2000 = ys := ⟨_, rfl⟩
  rw [hys] at HI
  have Hys := Lib.hid hys
  clear hys
  obtain ⟨E, hE⟩ : ∃ E, batE lc (v, s, lb) = E := ⟨_, rfl⟩
  obtain ⟨sv, hsv⟩ : ∃ sv, sizeV lc (v, s, lb) = sv := ⟨_, rfl⟩
  obtain ⟨wv, hwv⟩ : ∃ wv, whereV lc (v, s, lb) ys = wv := ⟨_, rfl⟩
  obtain ⟨mv, hmv⟩ : ∃ mv, matchV lc (v, s, lb) ys = mv := ⟨_, rfl⟩
  have HE := Lib.hid hE
  have Hsv := Lib.hid hsv
  have Hwv := Lib.hid hwv
  have Hmv := Lib.hid hmv
  have t1 : (E == E) = true := by simp
  have t2 : (sv == sv) = true := by simp
  have t3 : (wv == wv) = true := by simp
  have t4 : (mv == mv) = true := by simp
  clear hE hsv hwv hmv
  have a0 := H.out.box.cell 0
  have a1 := H.out.box.cell 1
  have a2 := H.out.box.cell 2
  go_wp2_with fail
  with_reducible refine (gsize_any A1 k1 c1 lc v s A3 k3 c3 lb _ H.out.cols H.out.max1 H.out.items H.out.max2 H.out.sok H.out.ok H.out.tab).mono ?_
  rw [Hsv.out, HE.out]
  rintro e w10 ⟨rfl, hb⟩
  replace H := Lib.hid (H.out.on hb)
  replace HI := Lib.hid (HI.out.on hb)
  replace HJ := Lib.hid (HJ.out.on hb)
  replace HQ := Lib.hid (HQ.out.on hb)
  clear hb a0 a1 a2
  have a0 := H.out.box.cell 0
  have a1 := H.out.box.cell 1
  have a2 := H.out.box.cell 2
  have b0 := HQ.out.cell 0
  have b1 := HQ.out.cell 1
  have b2 := HQ.out.cell 2
  go_wp2_with fail
  with_reducible refine (rgsize_any A1 k1 c1 lc v s A8 k8 c8 lb _ H.out.cols H.out.max1 HJ.out hk8 H.out.sok H.out.ok).mono ?_
  rw [Hsv.out, HE.out]
  clear b0 b1 b2
  rintro e w11 ⟨rfl, hb⟩
  replace H := Lib.hid (H.out.on hb)
  replace HI := Lib.hid (HI.out.on hb)
  replace HJ := Lib.hid (HJ.out.on hb)
  replace HQ := Lib.hid (HQ.out.on hb)
  clear hb a0 a1 a2
  have a0 := H.out.box.cell 0
  have a1 := H.out.box.cell 1
  have a2 := H.out.box.cell 2
  go_wp2_with fail
  with_reducible refine (gwhere_any A1 k1 c1 lc v s A3 k3 c3 lb A5 k5 c5 ys _ H.out.cols H.out.max1 H.out.items H.out.max2 H.out.sok H.out.ok HI.out hkm H.out.tab).mono ?_
  rw [Hwv.out, HE.out]
  rintro e w12 ⟨rfl, hb⟩
  replace H := Lib.hid (H.out.on hb)
  replace HI := Lib.hid (HI.out.on hb)
  replace HJ := Lib.hid (HJ.out.on hb)
  replace HQ := Lib.hid (HQ.out.on hb)
  clear hb a0 a1 a2
  have a0 := H.out.box.cell 0
  have a1 := H.out.box.cell 1
  have a2 := H.out.box.cell 2
  have b0 := HQ.out.cell 0
  have b1 := HQ.out.cell 1
  have b2 := HQ.out.cell 2
  go_wp2_with fail
  with_reducible refine (rgwhere_any A1 k1 c1 lc v s A8 k8 c8 lb A5 k5 c5 ys _ H.out.cols H.out.max1 HJ.out hk8 H.out.sok H.out.ok HI.out hkm).mono ?_
  rw [Hwv.out, HE.out]
  clear b0 b1 b2
  rintro e w13 ⟨rfl, hb⟩
  replace H := Lib.hid (H.out.on hb)
  replace HI := Lib.hid (HI.out.on hb)
  replace HJ := Lib.hid (HJ.out.on hb)
  replace HQ := Lib.hid (HQ.out.on hb)
  clear hb a0 a1 a2
  have a0 := H.out.box.cell 0
  have a1 := H.out.box.cell 1
  have a2 := H.out.box.cell 2
  clear a0 a1 a2
  go_wp2
  have HL0 := Lib.hid (show ∀ w', Below w13.heap.size w13 w' → w'.cell? ⟨w.heap.size, 0, none⟩ = some (.int .i64 v) from fun w' h => (H.out.box.on h).cell 0)
  have HL1 := Lib.hid (show ∀ w', Below w13.heap.size w13 w' → w'.cell? ⟨w.heap.size, 1, none⟩ = some (.int .i64 s) from fun w' h => (H.out.box.on h).cell 1)
  have HL2 := Lib.hid (show ∀ w', Below w13.heap.size w13 w' → w'.cell? ⟨w.heap.size, 2, none⟩ = some (.slice A3 k3 c3) from fun w' h => (H.out.box.on h).cell 2)
  have HM0 := Lib.hid (show ∀ w', Below w13.heap.size w13 w' → w'.cell? ⟨gw, 0, none⟩ = some (.int .i64 v) from fun w' h => (HQ.out.on h).cell 0)
  have HM1 := Lib.hid (show ∀ w', Below w13.heap.size w13 w' → w'.cell? ⟨gw, 1, none⟩ = some (.int .i64 s) from fun w' h => (HQ.out.on h).cell 1)
  have HM2 := Lib.hid (show ∀ w', Below w13.heap.size w13 w' → w'.cell? ⟨gw, 2, none⟩ = some (.slice A8 k8 c8) from fun w' h => (HQ.out.on h).cell 2)
  clear HQ
  have hS : Below w13.heap.size w13 w13.drew := (Below.refl _ _).drew
  refine wp_region_keep (fun w' => Below w13.heap.size w13 w') [(0, false), (1, false), (2, false), (3, false), (4, false), (5, false), (6, false), (7, false), (8, false), (9, false), (10, false), (11, false), (12, false), (13, false), (14, false), (15, false), (16, false), (17, false), (18, false), (19, false), (20, false), (21, false), (23, false), (24, false), (25, false), (22, true), (26, true), (27, false), (28, false), (29, false), (30, false), (31, false), (32, false), (33, false), (34, true), (35, false), (36, false), (37, false), (38, false), (39, true), (40, true), (41, false), (42, false), (43, true), (44, false), (45, false)] (by kernel_rfl) (by kernel_rfl) (by kernel_rfl) (fun d _ _ _ _ h => by cases d <;> exact h) ?_
  iterate 20
   refine held_pure (v := ?_) rfl rfl (by simp [Region.wanted, yielded]) hS ?_ ?_
   rotate_left
   ·intro w hw; go_simp; try with_reducible rfl
   try simp only [Act.put, zpA, zpB, zpC]
  refine held_pure (v := ?_) rfl rfl (by simp [Region.wanted, yielded]) hS ?_ ?_
  rotate_left
  ·intro w hw; have c0 := HL0.out w hw; have c1 := HL1.out w hw; have c2 := HL2.out w hw; clear hw; go_simp; try with_reducible rfl
  try simp only [Act.put, zpA, zpB, zpC]
  iterate 2
   refine held_pure (v := ?_) rfl rfl (by simp [Region.wanted, yielded]) hS ?_ ?_
   rotate_left
   ·intro w hw; go_simp; try with_reducible rfl
   try simp only [Act.put, zpA, zpB, zpC]
  refine held_pure (v := ?_) rfl rfl (by simp [Region.wanted, yielded]) hS ?_ ?_
  rotate_left
  ·intro w hw; have c0 := HM0.out w hw; have c1 := HM1.out w hw; have c2 := HM2.out w hw; clear hw; go_simp; try with_reducible rfl
  try simp only [Act.put, zpA, zpB, zpC]
  refine held_pure (v := ?_) rfl rfl (by simp [Region.wanted, yielded]) hS ?_ ?_
  rotate_left
  ·intro w hw; go_simp; try with_reducible rfl
  try simp only [Act.put, zpA, zpB, zpC]
  refine held_eff1 rfl (by simp [Region.wanted, yielded]) fun K hK => ?_
  go_simp
  with_reducible refine (gmatch_any A1 k1 c1 lc v s A3 k3 c3 lb A5 k5 c5 ys _ (H.out.on hS).cols H.out.max1 (H.out.on hS).items H.out.max2 H.out.sok H.out.ok (HI.out.on hS) hkm (H.out.on hS).tab).mono ?_
  rw [Hmv.out]
  rintro e w14 ⟨rfl, hb14⟩
  have HS14 := Lib.hid (bon hS hb14)
  clear hb14
  refine held_go hK (by exact HS14.out) fun hS => ?_
  clear hK K
  try simp only [Act.put, zpA, zpB, zpC]
  refine held_eff1 rfl (by simp [Region.wanted, yielded]) fun K hK => ?_
  go_simp
  with_reducible refine (rgmatch_any A1 k1 c1 lc v s A8 k8 c8 lb A5 k5 c5 ys _ (H.out.on hS).cols H.out.max1 (HJ.out.on hS) hk8 H.out.sok H.out.ok (HI.out.on hS) hkm).mono ?_
  rw [Hmv.out]
  rintro e w15 ⟨rfl, hb15⟩
  have HS15 := Lib.hid (bon hS hb15)
  clear hb15
  refine held_go hK (by exact HS15.out) fun hS => ?_
  clear hK K
  try simp only [Act.put, zpA, zpB, zpC]
  iterate 4
   refine held_pure (v := ?_) rfl rfl (by simp [Region.wanted, yielded]) hS ?_ ?_
   rotate_left
   ·intro w hw; go_simp; try with_reducible rfl
   try simp only [Act.put, zpA, zpB, zpC]
  refine held_pure (v := ?_) rfl rfl (by simp [Region.wanted, yielded]) hS ?_ ?_
  rotate_left
  ·intro w hw; have c0 := HL2.out w hw; clear hw; go_simp; try with_reducible rfl
  try simp only [Act.put, zpA, zpB, zpC]
  refine held_pure (v := ?_) rfl rfl (by simp [Region.wanted, yielded]) hS ?_ ?_
  rotate_left
  ·intro w hw; go_simp; try with_reducible rfl
  try simp only [Act.put, zpA, zpB, zpC]
  refine held_pure (v := ?_) rfl rfl (by simp [Region.wanted, yielded]) hS ?_ ?_
  rotate_left
  ·intro w hw; have c0 := HM2.out w hw; clear hw; go_simp; try with_reducible rfl
  try simp only [Act.put, zpA, zpB, zpC]
  refine held_eff1 rfl (by simp [Region.wanted, yielded]) fun K hK => ?_
  go_simp
  with_reducible refine (eqItems_any A3 A8 k3 c3 k8 c8 lb lb _ (H.out.on hS).items (HJ.out.on hS) H.out.max2).mono ?_
  rw [decide_eq_true rfl]
  rintro e w16 ⟨rfl, hb16⟩
  have HS16 := Lib.hid (bon hS hb16)
  clear hb16
  refine held_go hK (by exact HS16.out) fun hS => ?_
  clear hK K
  try simp only [Act.put, zpA, zpB, zpC]
  iterate 4
   refine held_pure (v := ?_) rfl rfl (by simp [Region.wanted, yielded]) hS ?_ ?_
   rotate_left
   ·intro w hw; go_simp; try with_reducible rfl
   try simp only [Act.put, zpA, zpB, zpC]
  refine held_eff1 rfl (by simp [Region.wanted, yielded]) fun K hK => ?_
  go_simp
  with_reducible refine (bytes18_any X xn xc xs _ (HX.out.on (bon H.out.below hS)) hxn hxc).mono ?_
  rw [Hys.out]
  rintro e w17 ⟨A17, k17, c17, rfl, -, -, o17, hb17⟩
  have HS17 := Lib.hid (bon hS hb17)
  have HY := Lib.hid (own_reads o17)
  clear hb17 o17
  refine held_go hK (by exact HS17.out) fun hS => ?_
  clear hK K
  try simp only [Act.put, zpA, zpB, zpC]
  refine held_eff1 rfl (by simp [Region.wanted, yielded]) fun K hK => ?_
  go_simp
  with_reducible refine (eq_yes A5 A17 k5 c5 k17 c17 ys ys _ (HI.out.on hS) HY.out rfl).mono ?_
  rintro e w18 ⟨rfl, rfl⟩
  refine held_go hK (by exact hS) fun hS => ?_
  clear hK K
  try simp only [Act.put, zpA, zpB, zpC]
  iterate 2
   refine held_pure (v := ?_) rfl rfl (by simp [Region.wanted, yielded]) hS ?_ ?_
   rotate_left
   ·intro w hw; go_simp; try with_reducible rfl
   try simp only [Act.put, zpA, zpB, zpC]
  refine held_eff1 rfl (by simp [Region.wanted, yielded]) fun K hK => ?_
  go_simp
  with_reducible refine (gworks_yes _ (H.out.on hS).tab).mono ?_
  rintro e w19 ⟨rfl, hb19⟩
  have HS19 := Lib.hid (bon hS hb19)
  clear hb19
  refine held_go hK (by exact HS19.out) fun hS => ?_
  clear hK K
  try simp only [Act.put, zpA, zpB, zpC]
  iterate 2
   refine held_pure (v := ?_) rfl rfl (by simp [Region.wanted, yielded]) hS ?_ ?_
   rotate_left
   ·intro w hw; go_simp; try with_reducible rfl
   try simp only [Act.put, zpA, zpB, zpC]
  refine held_end ?_
  go_wp2
  go_ret
  exact ⟨rfl, bon H.out.below HS19.out⟩
end Go.Proofs.YtnkgchmkmhdcaaaGreatDoor
