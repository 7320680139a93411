/- Part 30 of the walks, merged: each text under its own heading. Conditions: none of its own; each lemma states what it asks. -/
import Derived.Test.YtnkgchmkmhdcaaaGreatDoorGk25
import Derived.Test.YtnkgchmkmhdcaaaGreatDoorGk28
import Derived.Test.YtnkgchmkmhdcaaaGreatDoorGk29
set_option linter.unusedVariables false
set_option linter.unusedSimpArgs false
namespace Go.Proofs.YtnkgchmkmhdcaaaGreatDoor
open Go.RowKit
set_option maxRecDepth 100000 in
set_option maxHeartbeats 8000000 in
theorem gramEncodes_walk (A : Option Addr) (n c : Nat) (l : List Co) (v s : Int) (I : Option Addr) (m d : Nat) (li : List It) (X : Option Addr) (xn xc : Nat) (xs : List UInt8) (w : World) (hr : Reads w w.heap.size 7 A n (cos l)) (hn : n ≤ c) (hc : c ≤ maxLen) (hok : CoOk l)
  (hv : -9223372036854775808 ≤ v ∧ v ≤ 9223372036854775807) (hs : -9223372036854775808 ≤ s ∧ s ≤ 9223372036854775807) (hi : ItemsAt w w.heap.size I m li) (hm : m ≤ d) (hd : d ≤ maxLen) (hit : ItOk li) (hx : Reads w w.heap.size 1 X xn (u8s xs)) (hxn : xn ≤ xc) (hxc : xc ≤ maxLen) (hT : Tab2 w.heap.size w) :
  Calls Tryz.prog 19 #[.slice A n c, .agg #[.int .i64 v, .int .i64 s, .slice I m d], .slice X xn xc] w fun e w' => e = .returned (.bool true) ∧ Below w.heap.size w w' := by
 have Hr := Lib.hid hr
 have HT := Lib.hid hT
 have Hi := Lib.hid hi
 have Hit := Lib.hid hit
 have Hs := Lib.hid hs.2
 have hmm : m ≤ maxLen := Nat.le_trans hm hd
 have HP := Lib.hid (Blk.new w 30 #[.int .i64 v, .int .i64 s, .slice I m d])
 have HB := Lib.hid (bal (Below.refl w.heap.size w) (.cells #[.int .i64 v, .int .i64 s, .slice I m d] 30))
 clear hr hT hi hit hs hv hm hd hok
 have HX := Lib.hid hx
 clear hx
 go_enter Tryz.func19, Tryz.ntmps19
 go_wp2
 generalize hW : w.alloc (.cells #[.int .i64 v, .int .i64 s, .slice I m d] 30) = W1 at *
 clear hW
 have HL0 := Lib.hid (show ∀ w', Below W1.heap.size W1 w' → w'.cell? ⟨w.heap.size, 0, none⟩ = some (.int .i64 v) from fun w' h => (HP.out.on h).cell 0)
 have HL1 := Lib.hid (show ∀ w', Below W1.heap.size W1 w' → w'.cell? ⟨w.heap.size, 1, none⟩ = some (.int .i64 s) from fun w' h => (HP.out.on h).cell 1)
 have HL2 := Lib.hid (show ∀ w', Below W1.heap.size W1 w' → w'.cell? ⟨w.heap.size, 2, none⟩ = some (.slice I m d) from fun w' h => (HP.out.on h).cell 2)
 have hS : Below W1.heap.size W1 W1.drew := (Below.refl _ _).drew
 refine wp_region_phase (fun w' => Below W1.heap.size W1 w') [0, 2] [(0, false), (2, false), (1, true), (3, true)] (fun _ => True) [(4, false), (5, true)] (by kernel_rfl) (by kernel_rfl) (by kernel_rfl) (fun d _ _ _ _ h => by cases d <;> exact h) ?_
 refine phase_pure (v := ?_) rfl rfl (by simp [Region.wanted, yielded]) hS ?_ ?_
 rotate_left
 ·intro w hw; go_simp; try with_reducible rfl
 try simp only [Act.put, zpA, zpB, zpC]
 refine phase_pure (v := ?_) rfl rfl (by simp [Region.wanted, yielded]) hS ?_ ?_
 rotate_left
 ·intro w hw; have c0 := HL0.out w hw; have c1 := HL1.out w hw; have c2 := HL2.out w hw; clear hw; go_simp; try with_reducible rfl
 try simp only [Act.put, zpA, zpB, zpC]
 refine phase_eff1 rfl (by simp [Region.wanted, yielded]) fun K hK => ?_
 go_simp
 with_reducible refine (columns18_any A n c l _ (Hr.out.on (bon HB.out hS)) hn hc).mono ?_
 rintro e w2 ⟨A1, k1, c1, rfl, hk1, o1, hb2⟩
 have HS2 := Lib.hid (bon hS hb2)
 have HO := Lib.hid o1
 clear o1 hb2
 refine held_go hK (by exact HS2.out) fun hS => ?_
 clear hK K
 try simp only [Act.put, zpA, zpB, zpC]
 refine phase_eff1 rfl (by simp [Region.wanted, yielded]) fun K hK => ?_
 go_simp
 with_reducible refine (cut18_any v s I m d li _ (Hi.out.on (bon HB.out HS2.out)) hmm Hit.out).mono ?_
 rintro e w3 ⟨A3, k3, c3, rfl, o3, hb3⟩
 have HS3 := Lib.hid (bon HS2.out hb3)
 have HO := Lib.hid (own_below HO.out hb3)
 have HIo := Lib.hid o3
 clear o3 hb3
 refine held_go hK (by exact HS3.out) fun hS => ?_
 clear hK K
 try simp only [Act.put, zpA, zpB, zpC]
 refine phase_end ?_
 have HP3 := Lib.hid (HP.out.on HS3.out)
 have HBc := Lib.hid (bon HB.out HS3.out)
 clear hS HL0 HL1 HL2 HS2 HP
 have hS : True := trivial
 refine held_pure (v := ?_) rfl rfl (by simp [Region.wanted, yielded]) hS ?_ ?_
 rotate_left
 ·intro w hw; go_simp; try with_reducible rfl
 try simp only [Act.put, zpA, zpB, zpC]
 have a0 := HP3.out.cell 0
 have a1 := HP3.out.cell 1
 have a2 := HP3.out.cell 2
 have f0 := HP3.out.frozen 0
 have f1 := HP3.out.frozen 1
 have f2 := HP3.out.frozen 2
 refine held_eff1 rfl (by simp [Region.wanted, yielded]) fun K hK => ?_
 go_simp
 clear a0 a1 a2 f0 f1 f2
 obtain ⟨w4, hw4⟩ : ∃ w4, w4 = ((w3.setCell ⟨w.heap.size, 0, none⟩ (.int .i64 v)).setCell ⟨w.heap.size, 1, none⟩ (.int .i64 s)).setCell ⟨w.heap.size, 2, none⟩ (.slice A3 k3 c3) := ⟨_, rfl⟩
 obtain ⟨g1, g2, g3, g4, g5, g6⟩ := box_put HP3.out HIo.out hw4
 skip
 rw [← hw4]
 have hk3 : k3 ≤ 30 := by
  have := HIo.out.len
  have := cutl_len li
  omega
 have H := Lib.hid (show LawB w A1 k1 (l.take 40) v s A3 k3 c3 (cutl li) w4 from ⟨HBc.out.trans (g3 _ (Nat.le_refl _)), g1, own_reads (g4 HO.out (by decide)), g2.at_, HT.out.on (HBc.out.trans (g3 _ (Nat.le_refl _))), hk1, hk3, cutl_ok Hit.out, Hs.out⟩)
 generalize l.take 40 = lc at H
 clear hw4 g1 g2 g3 g4 g5 g6 HP3 HO HIo HBc HS3
 refine held_go hK (by exact trivial) fun hS => ?_
 clear hK K
 try simp only [Act.put, zpA, zpB, zpC]
 refine held_end ?_
 clear HB Hr Hi Hit Hs
 generalize cutl li = lb at H
 go_wp2_with fail
 with_reducible refine (bytes18_any X xn xc xs _ (HX.out.on H.out.below) hxn hxc).mono ?_
 rintro e w5 ⟨A5, k5, c5, rfl, hkc, hcm, o5, hb5⟩
 replace H := Lib.hid (H.out.on hb5)
 have HI := Lib.hid (own_reads o5)
 have hkm : k5 ≤ maxLen := Nat.le_trans hkc hcm
 generalize xs.take 2000 = ys at HI
 have Hyl := Lib.hid (show ys.length = k5 by have := HI.out.1; simpa [u8s] using this)
 have Hkc := Lib.hid (And.intro hkc hcm)
 clear o5 hb5 HX hkc hcm
 have a0 := H.out.box.cell 0
 have a1 := H.out.box.cell 1
 have a2 := H.out.box.cell 2
 go_wp2_with fail
 with_reducible refine (benc_any A1 k1 c1 lc v s A3 k3 c3 lb _ H.out.cols H.out.max1 H.out.items H.out.max2 H.out.baok H.out.ok H.out.tab).mono ?_
 rintro e w6 ⟨hb6, ⟨hE, A6, c6, rfl, ho⟩ | ⟨hE, rfl⟩⟩
 ·have Hsv := Lib.hid (sizeV_ok hE)
  have Hwv := Lib.hid (whereV_ok hE ys)
  have Hmv := Lib.hid (matchV_ok hE)
  have HE0 := Lib.hid hE
  have hle := ((fits_iff _ _).1 hE).enc_le
  have hcc := own_caps ho
  generalize encA lc (v, s, lb) = zs at *
  have Hat := Lib.hid (fun i => @lcp_at zs ys i)
  have Hend := Lib.hid (lcp_end zs ys)
  have h1 := lcp_le1 zs ys
  have h2 := lcp_le2 zs ys
  obtain ⟨a, ha⟩ : ∃ a, lcp zs ys = a := ⟨_, rfl⟩
  obtain ⟨xl, hxl⟩ : ∃ xl, zs.length = xl := ⟨_, rfl⟩
  rw [hxl] at ho hcc hle h1 Hsv Hend ⊢
  rw [Hyl.out] at h2 Hend
  rw [ha] at h1 h2 Hwv Hat Hend
  have HZ := Lib.hid (own_reads ho)
  have hxm : xl ≤ maxLen := Nat.le_trans hcc.1 hcc.2
  replace H := Lib.hid (H.out.on hb6)
  replace HI := Lib.hid (HI.out.on hb6)
  clear a0 a1 a2 ho hb6 hE hcc hxl ha
  have a0 := H.out.box.cell 0
  have a1 := H.out.box.cell 1
  have a2 := H.out.box.cell 2
  go_wp2_with fail
  with_reducible refine (gsize_any A1 k1 c1 lc v s A3 k3 c3 lb _ H.out.cols H.out.max1 H.out.items H.out.max2 H.out.sok H.out.ok H.out.tab).mono ?_
  rw [Hsv.out, HE0.out]
  rintro e w7 ⟨rfl, hb7⟩
  replace H := Lib.hid (H.out.on hb7)
  replace HI := Lib.hid (HI.out.on hb7)
  replace HZ := Lib.hid (HZ.out.on hb7)
  clear a0 a1 a2 hb7 Hsv
  have a0 := H.out.box.cell 0
  have a1 := H.out.box.cell 1
  have a2 := H.out.box.cell 2
  go_wp2_with fail
  with_reducible refine (gwhere_any A1 k1 c1 lc v s A3 k3 c3 lb A5 k5 c5 ys _ H.out.cols H.out.max1 H.out.items H.out.max2 H.out.sok H.out.ok HI.out hkm H.out.tab).mono ?_
  rw [Hwv.out, HE0.out]
  rintro e w8 ⟨rfl, hb8⟩
  replace H := Lib.hid (H.out.on hb8)
  replace HI := Lib.hid (HI.out.on hb8)
  replace HZ := Lib.hid (HZ.out.on hb8)
  clear a0 a1 a2 hb8 Hwv
  have a0 := H.out.box.cell 0
  have a1 := H.out.box.cell 1
  have a2 := H.out.box.cell 2
  go_wp2_with fail
  with_reducible refine (gmatch_any A1 k1 c1 lc v s A3 k3 c3 lb A5 k5 c5 ys _ H.out.cols H.out.max1 H.out.items H.out.max2 H.out.sok H.out.ok HI.out hkm H.out.tab).mono ?_
  rw [Hmv.out]
  rintro e w9 ⟨rfl, hb9⟩
  replace H := Lib.hid (H.out.on hb9)
  replace HI := Lib.hid (HI.out.on hb9)
  replace HZ := Lib.hid (HZ.out.on hb9)
  clear a0 a1 a2 hb9
  obtain ⟨mv, hmv⟩ : ∃ mv : Int, (if zs = ys then 0 else 4 : Int) = mv := ⟨_, rfl⟩
  rw [hmv]
  obtain ⟨q, hq⟩ : ∃ q, (ys == zs) = q := ⟨_, rfl⟩
  have Hyz := Lib.hid hq
  have Hq := Lib.hid (show (mv == 0) = q by
   rw [← hmv, ← hq]
   by_cases e : zs = ys
   ·subst e; simp
   ·have e2 : (ys == zs) = false := by simpa using fun h => e h.symm
    rw [if_neg e, e2]; rfl)
  clear hq
  clear hmv
  have hxa : a ≤ xl := h1
  have hka : a ≤ k5 := h2
  clear h1 h2
  go_wp2
  go_loopw [15] (fun iv wr => ∃ i : Nat, i ≤ a ∧ iv = .int .i64 (i : Int) ∧ Hid (LawB w A1 k1 lc v s A3 k3 c3 lb wr) ∧ Hid (Reads wr wr.heap.size 1 A5 k5 (u8s ys)) ∧ Hid (Reads wr wr.heap.size 1 A6 xl (u8s zs))) (fun iv _ => xl + 1 - (intOf iv).toNat)
  case atStart => exact ⟨0, Nat.zero_le _, rfl, H, HI, HZ⟩
  case round =>
   clear H HI HZ
   obtain ⟨i, hia, rfl, H, HI, HZ⟩ := hrel
   have Hd := Lib.hid (show Below wr.heap.size wr wr.drew from (Below.refl _ _).drew)
   replace H := Lib.hid (H.out.on Hd.out)
   by_cases hlt : i < a
   ·obtain ⟨qa, hq1, hq2⟩ := Hat.out i hlt
    have hik : i < k5 := by omega
    have hix : i < xl := by omega
    have d1 : decide ((i : Int) < (k5 : Int)) = true := by simp; omega
    have d2 : decide ((i : Int) < (xl : Int)) = true := by simp; omega
    have e1 : (i : Int) < (k5 : Int) := by omega
    have e2 : (i : Int) < (xl : Int) := by omega
    obtain ⟨p1, u1, hp1, -, f1, c1⟩ := HI.out.at_ hik
    obtain ⟨p2, u2, hp2, -, f2, c2⟩ := HZ.out.at_ hix
    subst hp1 hp2
    simp only [u8s, List.getElem?_map, hq1, hq2, Option.map_some, Option.some.injEq] at f1 f2
    subst f1 f2
    have d3 : ((qa.toNat : Int) == (qa.toNat : Int)) = true := by simp
    have HA := Lib.hid (show ∀ w', w' = wr.drew → w'.cell? (p1.add i) = some (.int .u8 (qa.toNat : Int)) from fun w' h => by rw [h]; exact c1)
    have HC := Lib.hid (show ∀ w', w' = wr.drew → w'.cell? (p2.add i) = some (.int .u8 (qa.toNat : Int)) from fun w' h => by rw [h]; exact c2)
    replace HI := Lib.hid (HI.out.on Hd.out)
    replace HZ := Lib.hid (HZ.out.on Hd.out)
    clear hq1 hq2 c1 c2 Hd
    go_wp2
    have hS : wr.drew = wr.drew := rfl
    refine wp_region_keep (fun w' => w' = wr.drew) [(0, false), (1, false), (2, false), (3, false), (4, false), (5, false), (6, false), (7, false), (8, false), (9, false), (10, false), (11, false), (12, false), (13, false), (14, false), (15, false), (16, false), (17, false), (18, false), (19, false), (20, false)] (by kernel_rfl) (by kernel_rfl) (by kernel_rfl) (fun d _ _ _ _ h => by cases d <;> exact h) ?_
    iterate 14
     refine held_pure (v := ?_) rfl rfl (by simp [Region.wanted, yielded]) hS ?_ ?_
     rotate_left
     ·intro w hw; go_simp; try with_reducible rfl
     try simp only [Act.put, zpA, zpB, zpC]
    refine held_pure (v := ?_) rfl rfl (by simp [Region.wanted, yielded]) hS ?_ ?_
    rotate_left
    ·intro w hw; have c0 := HA.out w hw; clear hw; go_simp; try with_reducible rfl
    try simp only [Act.put, zpA, zpB, zpC]
    iterate 3
     refine held_pure (v := ?_) rfl rfl (by simp [Region.wanted, yielded]) hS ?_ ?_
     rotate_left
     ·intro w hw; go_simp; try with_reducible rfl
     try simp only [Act.put, zpA, zpB, zpC]
    refine held_pure (v := ?_) rfl rfl (by simp [Region.wanted, yielded]) hS ?_ ?_
    rotate_left
    ·intro w hw; have c0 := HC.out w hw; clear hw; go_simp; try with_reducible rfl
    try simp only [Act.put, zpA, zpB, zpC]
    iterate 2
     refine held_pure (v := ?_) rfl rfl (by simp [Region.wanted, yielded]) hS ?_ ?_
     rotate_left
     ·intro w hw; go_simp; try with_reducible rfl
     try simp only [Act.put, zpA, zpB, zpC]
    refine held_end ?_
    clear HA HC
    go_wp2
    go_roundw
    case rel => exact ⟨i + 1, hlt, by go_num, H, HI, HZ⟩
    case measure => simp [intOf]; omega
   ·obtain rfl : i = a := by omega
    clear hlt Hat hia
    have hmq := Hq.out
    have dq : (q == q) = true := by simp
    rcases Hend.out with hek | hex | ⟨p, qb, hp, hqb, hne⟩
    ·have d1 : decide ((i : Int) < (k5 : Int)) = false := by simp; omega
     have hnk : k5 ≤ i := by omega
     have d1n : decide (i < k5) = false := by simp; omega
     replace HI := Lib.hid (HI.out.on Hd.out)
     replace HZ := Lib.hid (HZ.out.on Hd.out)
     clear Hend hek Hd
     go_wp2
     have hS : wr.drew = wr.drew := rfl
     refine wp_region_keep (fun w' => w' = wr.drew) [(0, false), (1, false), (2, false), (3, false), (4, false), (5, false), (6, false), (7, false), (8, false), (9, false), (10, false), (11, false), (12, false), (13, false), (14, false), (15, false), (16, false), (17, false), (18, false), (19, false), (20, false)] (by kernel_rfl) (by kernel_rfl) (by kernel_rfl) (fun d _ _ _ _ h => by cases d <;> exact h) ?_
     iterate 5
      refine held_pure (v := ?_) rfl rfl (by simp [Region.wanted, yielded]) hS ?_ ?_
      rotate_left
      ·intro w hw; go_simp; try with_reducible rfl
      try simp only [Act.put, zpA, zpB, zpC]
     refine held_off rfl rfl (by simp [Region.wanted, yielded, undef]) hS ?_
     simp only [Act.put, zpA, zpB, zpC]
     refine held_off rfl rfl (by simp [Region.wanted, yielded, undef]) hS ?_
     simp only [Act.put, zpA, zpB, zpC]
     refine held_off rfl rfl (by simp [Region.wanted, yielded, undef]) hS ?_
     simp only [Act.put, zpA, zpB, zpC]
     refine held_off rfl rfl (by simp [Region.wanted, yielded, undef]) hS ?_
     simp only [Act.put, zpA, zpB, zpC]
     iterate 2
      refine held_pure (v := ?_) rfl rfl (by simp [Region.wanted, yielded]) hS ?_ ?_
      rotate_left
      ·intro w hw; go_simp; try with_reducible rfl
      try simp only [Act.put, zpA, zpB, zpC]
     refine held_off rfl rfl (by simp [Region.wanted, yielded, undef]) hS ?_
     simp only [Act.put, zpA, zpB, zpC]
     refine held_off rfl rfl (by simp [Region.wanted, yielded, undef]) hS ?_
     simp only [Act.put, zpA, zpB, zpC]
     refine held_off rfl rfl (by simp [Region.wanted, yielded, undef]) hS ?_
     simp only [Act.put, zpA, zpB, zpC]
     refine held_off rfl rfl (by simp [Region.wanted, yielded, undef]) hS ?_
     simp only [Act.put, zpA, zpB, zpC]
     refine held_off rfl rfl (by simp [Region.wanted, yielded, undef]) hS ?_
     simp only [Act.put, zpA, zpB, zpC]
     refine held_off rfl rfl (by simp [Region.wanted, yielded, undef]) hS ?_
     simp only [Act.put, zpA, zpB, zpC]
     refine held_off rfl rfl (by simp [Region.wanted, yielded, undef]) hS ?_
     simp only [Act.put, zpA, zpB, zpC]
     refine held_off rfl rfl (by simp [Region.wanted, yielded, undef]) hS ?_
     simp only [Act.put, zpA, zpB, zpC]
     refine held_off rfl rfl (by simp [Region.wanted, yielded, undef]) hS ?_
     simp only [Act.put, zpA, zpB, zpC]
     refine held_pure (v := ?_) rfl rfl (by simp [Region.wanted, yielded]) hS ?_ ?_
     rotate_left
     ·intro w hw; go_simp; try with_reducible rfl
     try simp only [Act.put, zpA, zpB, zpC]
     refine held_end ?_
     go_wp2_with fail
     with_reducible refine (eqBytes_any _ _ k5 c5 xl c6 ys zs _ HI.out HZ.out).mono ?_
     rw [Hyz.out]
     rintro e w10 ⟨rfl, rfl⟩
     have a0 := H.out.box.cell 0
     have a1 := H.out.box.cell 1
     have a2 := H.out.box.cell 2
     go_wp2_with fail
     with_reducible refine (gmatch_any A1 k1 c1 lc v s A3 k3 c3 lb _ xl c6 zs _ H.out.cols H.out.max1 H.out.items H.out.max2 H.out.sok H.out.ok HZ.out hxm H.out.tab).mono ?_
     rw [Hmv.out, if_pos rfl]
     rintro e w11 ⟨rfl, hb11⟩
     replace H := Lib.hid (H.out.on hb11)
     clear a0 a1 a2 hb11 HI HZ
     go_wp2_with fail
     with_reducible refine (gworks_yes _ H.out.tab).mono ?_
     rintro e w12 ⟨rfl, hb12⟩
     replace H := Lib.hid (H.out.on hb12)
     clear hb12
     go_wp2
     go_ret
     exact ⟨rfl, H.out.below⟩
    ·by_cases hk2 : i < k5
     ·have d1 : decide ((i : Int) < (k5 : Int)) = true := by simp; omega
      have d2 : decide ((i : Int) < (xl : Int)) = false := by simp; omega
      have hnx : xl ≤ i := by omega
      have d2n : decide (i < xl) = false := by simp; omega
      replace HI := Lib.hid (HI.out.on Hd.out)
      replace HZ := Lib.hid (HZ.out.on Hd.out)
      clear Hend hex Hd
      go_wp2
      have hS : wr.drew = wr.drew := rfl
      refine wp_region_keep (fun w' => w' = wr.drew) [(0, false), (1, false), (2, false), (3, false), (4, false), (5, false), (6, false), (7, false), (8, false), (9, false), (10, false), (11, false), (12, false), (13, false), (14, false), (15, false), (16, false), (17, false), (18, false), (19, false), (20, false)] (by kernel_rfl) (by kernel_rfl) (by kernel_rfl) (fun d _ _ _ _ h => by cases d <;> exact h) ?_
      iterate 11
       refine held_pure (v := ?_) rfl rfl (by simp [Region.wanted, yielded]) hS ?_ ?_
       rotate_left
       ·intro w hw; go_simp; try with_reducible rfl
       try simp only [Act.put, zpA, zpB, zpC]
      refine held_off rfl rfl (by simp [Region.wanted, yielded, undef]) hS ?_
      simp only [Act.put, zpA, zpB, zpC]
      refine held_off rfl rfl (by simp [Region.wanted, yielded, undef]) hS ?_
      simp only [Act.put, zpA, zpB, zpC]
      refine held_off rfl rfl (by simp [Region.wanted, yielded, undef]) hS ?_
      simp only [Act.put, zpA, zpB, zpC]
      refine held_off rfl rfl (by simp [Region.wanted, yielded, undef]) hS ?_
      simp only [Act.put, zpA, zpB, zpC]
      refine held_off rfl rfl (by simp [Region.wanted, yielded, undef]) hS ?_
      simp only [Act.put, zpA, zpB, zpC]
      refine held_off rfl rfl (by simp [Region.wanted, yielded, undef]) hS ?_
      simp only [Act.put, zpA, zpB, zpC]
      refine held_off rfl rfl (by simp [Region.wanted, yielded, undef]) hS ?_
      simp only [Act.put, zpA, zpB, zpC]
      refine held_off rfl rfl (by simp [Region.wanted, yielded, undef]) hS ?_
      simp only [Act.put, zpA, zpB, zpC]
      refine held_off rfl rfl (by simp [Region.wanted, yielded, undef]) hS ?_
      simp only [Act.put, zpA, zpB, zpC]
      refine held_pure (v := ?_) rfl rfl (by simp [Region.wanted, yielded]) hS ?_ ?_
      rotate_left
      ·intro w hw; go_simp; try with_reducible rfl
      try simp only [Act.put, zpA, zpB, zpC]
      refine held_end ?_
      go_wp2_with fail
      with_reducible refine (eqBytes_any _ _ k5 c5 xl c6 ys zs _ HI.out HZ.out).mono ?_
      rw [Hyz.out]
      rintro e w10 ⟨rfl, rfl⟩
      have a0 := H.out.box.cell 0
      have a1 := H.out.box.cell 1
      have a2 := H.out.box.cell 2
      go_wp2_with fail
      with_reducible refine (gmatch_any A1 k1 c1 lc v s A3 k3 c3 lb _ xl c6 zs _ H.out.cols H.out.max1 H.out.items H.out.max2 H.out.sok H.out.ok HZ.out hxm H.out.tab).mono ?_
      rw [Hmv.out, if_pos rfl]
      rintro e w11 ⟨rfl, hb11⟩
      replace H := Lib.hid (H.out.on hb11)
      clear a0 a1 a2 hb11 HI HZ
      go_wp2_with fail
      with_reducible refine (gworks_yes _ H.out.tab).mono ?_
      rintro e w12 ⟨rfl, hb12⟩
      replace H := Lib.hid (H.out.on hb12)
      clear hb12
      go_wp2
      go_ret
      exact ⟨rfl, H.out.below⟩
     ·have d1 : decide ((i : Int) < (k5 : Int)) = false := by simp; omega
      have hnk : k5 ≤ i := by omega
      have d1n : decide (i < k5) = false := by simp; omega
      replace HI := Lib.hid (HI.out.on Hd.out)
      replace HZ := Lib.hid (HZ.out.on Hd.out)
      clear Hend hex Hd
      go_wp2
      have hS : wr.drew = wr.drew := rfl
      refine wp_region_keep (fun w' => w' = wr.drew) [(0, false), (1, false), (2, false), (3, false), (4, false), (5, false), (6, false), (7, false), (8, false), (9, false), (10, false), (11, false), (12, false), (13, false), (14, false), (15, false), (16, false), (17, false), (18, false), (19, false), (20, false)] (by kernel_rfl) (by kernel_rfl) (by kernel_rfl) (fun d _ _ _ _ h => by cases d <;> exact h) ?_
      iterate 5
       refine held_pure (v := ?_) rfl rfl (by simp [Region.wanted, yielded]) hS ?_ ?_
       rotate_left
       ·intro w hw; go_simp; try with_reducible rfl
       try simp only [Act.put, zpA, zpB, zpC]
      refine held_off rfl rfl (by simp [Region.wanted, yielded, undef]) hS ?_
      simp only [Act.put, zpA, zpB, zpC]
      refine held_off rfl rfl (by simp [Region.wanted, yielded, undef]) hS ?_
      simp only [Act.put, zpA, zpB, zpC]
      refine held_off rfl rfl (by simp [Region.wanted, yielded, undef]) hS ?_
      simp only [Act.put, zpA, zpB, zpC]
      refine held_off rfl rfl (by simp [Region.wanted, yielded, undef]) hS ?_
      simp only [Act.put, zpA, zpB, zpC]
      iterate 2
       refine held_pure (v := ?_) rfl rfl (by simp [Region.wanted, yielded]) hS ?_ ?_
       rotate_left
       ·intro w hw; go_simp; try with_reducible rfl
       try simp only [Act.put, zpA, zpB, zpC]
      refine held_off rfl rfl (by simp [Region.wanted, yielded, undef]) hS ?_
      simp only [Act.put, zpA, zpB, zpC]
      refine held_off rfl rfl (by simp [Region.wanted, yielded, undef]) hS ?_
      simp only [Act.put, zpA, zpB, zpC]
      refine held_off rfl rfl (by simp [Region.wanted, yielded, undef]) hS ?_
      simp only [Act.put, zpA, zpB, zpC]
      refine held_off rfl rfl (by simp [Region.wanted, yielded, undef]) hS ?_
      simp only [Act.put, zpA, zpB, zpC]
      refine held_off rfl rfl (by simp [Region.wanted, yielded, undef]) hS ?_
      simp only [Act.put, zpA, zpB, zpC]
      refine held_off rfl rfl (by simp [Region.wanted, yielded, undef]) hS ?_
      simp only [Act.put, zpA, zpB, zpC]
      refine held_off rfl rfl (by simp [Region.wanted, yielded, undef]) hS ?_
      simp only [Act.put, zpA, zpB, zpC]
      refine held_off rfl rfl (by simp [Region.wanted, yielded, undef]) hS ?_
      simp only [Act.put, zpA, zpB, zpC]
      refine held_off rfl rfl (by simp [Region.wanted, yielded, undef]) hS ?_
      simp only [Act.put, zpA, zpB, zpC]
      refine held_pure (v := ?_) rfl rfl (by simp [Region.wanted, yielded]) hS ?_ ?_
      rotate_left
      ·intro w hw; go_simp; try with_reducible rfl
      try simp only [Act.put, zpA, zpB, zpC]
      refine held_end ?_
      go_wp2_with fail
      with_reducible refine (eqBytes_any _ _ k5 c5 xl c6 ys zs _ HI.out HZ.out).mono ?_
      rw [Hyz.out]
      rintro e w10 ⟨rfl, rfl⟩
      have a0 := H.out.box.cell 0
      have a1 := H.out.box.cell 1
      have a2 := H.out.box.cell 2
      go_wp2_with fail
      with_reducible refine (gmatch_any A1 k1 c1 lc v s A3 k3 c3 lb _ xl c6 zs _ H.out.cols H.out.max1 H.out.items H.out.max2 H.out.sok H.out.ok HZ.out hxm H.out.tab).mono ?_
      rw [Hmv.out, if_pos rfl]
      rintro e w11 ⟨rfl, hb11⟩
      replace H := Lib.hid (H.out.on hb11)
      clear a0 a1 a2 hb11 HI HZ
      go_wp2_with fail
      with_reducible refine (gworks_yes _ H.out.tab).mono ?_
      rintro e w12 ⟨rfl, hb12⟩
      replace H := Lib.hid (H.out.on hb12)
      clear hb12
      go_wp2
      go_ret
      exact ⟨rfl, H.out.below⟩
    ·have hix : i < xl := by have := (List.getElem?_eq_some_iff.1 hp).1; have := HZ.out.1; simp [u8s] at this; omega
     have hik : i < k5 := by have := (List.getElem?_eq_some_iff.1 hqb).1; have := HI.out.1; simp [u8s] at this; omega
     have d1 : decide ((i : Int) < (k5 : Int)) = true := by simp; omega
     have d2 : decide ((i : Int) < (xl : Int)) = true := by simp; omega
     have e1 : (i : Int) < (k5 : Int) := by omega
     have e2 : (i : Int) < (xl : Int) := by omega
     obtain ⟨p1, u1, hp1, -, f1, c1⟩ := HI.out.at_ hik
     obtain ⟨p2, u2, hp2, -, f2, c2⟩ := HZ.out.at_ hix
     subst hp1 hp2
     simp only [u8s, List.getElem?_map, hp, hqb, Option.map_some, Option.some.injEq] at f1 f2
     subst f1 f2
     have d3 : ((qb.toNat : Int) == (p.toNat : Int)) = false := by
      have : qb.toNat ≠ p.toNat := fun e => hne (UInt8.toNat_inj.1 e.symm)
      simp; omega
     have HA := Lib.hid (show ∀ w', w' = wr.drew → w'.cell? (p1.add i) = some (.int .u8 (qb.toNat : Int)) from fun w' h => by rw [h]; exact c1)
     have HC := Lib.hid (show ∀ w', w' = wr.drew → w'.cell? (p2.add i) = some (.int .u8 (p.toNat : Int)) from fun w' h => by rw [h]; exact c2)
     replace HI := Lib.hid (HI.out.on Hd.out)
     replace HZ := Lib.hid (HZ.out.on Hd.out)
     clear hp hqb hne c1 c2 Hd Hend
     go_wp2
     have hS : wr.drew = wr.drew := rfl
     refine wp_region_keep (fun w' => w' = wr.drew) [(0, false), (1, false), (2, false), (3, false), (4, false), (5, false), (6, false), (7, false), (8, false), (9, false), (10, false), (11, false), (12, false), (13, false), (14, false), (15, false), (16, false), (17, false), (18, false), (19, false), (20, false)] (by kernel_rfl) (by kernel_rfl) (by kernel_rfl) (fun d _ _ _ _ h => by cases d <;> exact h) ?_
     iterate 14
      refine held_pure (v := ?_) rfl rfl (by simp [Region.wanted, yielded]) hS ?_ ?_
      rotate_left
      ·intro w hw; go_simp; try with_reducible rfl
      try simp only [Act.put, zpA, zpB, zpC]
     refine held_pure (v := ?_) rfl rfl (by simp [Region.wanted, yielded]) hS ?_ ?_
     rotate_left
     ·intro w hw; have c0 := HA.out w hw; clear hw; go_simp; try with_reducible rfl
     try simp only [Act.put, zpA, zpB, zpC]
     iterate 3
      refine held_pure (v := ?_) rfl rfl (by simp [Region.wanted, yielded]) hS ?_ ?_
      rotate_left
      ·intro w hw; go_simp; try with_reducible rfl
      try simp only [Act.put, zpA, zpB, zpC]
     refine held_pure (v := ?_) rfl rfl (by simp [Region.wanted, yielded]) hS ?_ ?_
     rotate_left
     ·intro w hw; have c0 := HC.out w hw; clear hw; go_simp; try with_reducible rfl
     try simp only [Act.put, zpA, zpB, zpC]
     iterate 2
      refine held_pure (v := ?_) rfl rfl (by simp [Region.wanted, yielded]) hS ?_ ?_
      rotate_left
      ·intro w hw; go_simp; try with_reducible rfl
      try simp only [Act.put, zpA, zpB, zpC]
     refine held_end ?_
     clear HA HC
     go_wp2_with fail
     with_reducible refine (eqBytes_any _ _ k5 c5 xl c6 ys zs _ HI.out HZ.out).mono ?_
     rw [Hyz.out]
     rintro e w10 ⟨rfl, rfl⟩
     have a0 := H.out.box.cell 0
     have a1 := H.out.box.cell 1
     have a2 := H.out.box.cell 2
     go_wp2_with fail
     with_reducible refine (gmatch_any A1 k1 c1 lc v s A3 k3 c3 lb _ xl c6 zs _ H.out.cols H.out.max1 H.out.items H.out.max2 H.out.sok H.out.ok HZ.out hxm H.out.tab).mono ?_
     rw [Hmv.out, if_pos rfl]
     rintro e w11 ⟨rfl, hb11⟩
     replace H := Lib.hid (H.out.on hb11)
     clear a0 a1 a2 hb11 HI HZ
     go_wp2_with fail
     with_reducible refine (gworks_yes _ H.out.tab).mono ?_
     rintro e w12 ⟨rfl, hb12⟩
     replace H := Lib.hid (H.out.on hb12)
     clear hb12
     go_wp2
     go_ret
     exact ⟨rfl, H.out.below⟩
 ·have Hsv := Lib.hid (sizeV_no hE)
  have Hwv := Lib.hid (whereV_no hE ys)
  have Hmv := Lib.hid (matchV_no hE ys)
  obtain ⟨E, hEE⟩ : ∃ E, batE lc (v, s, lb) = E := ⟨_, rfl⟩
  rw [hEE] at hE Hmv ⊢
  have HE := Lib.hid hEE
  have d1 : (E != 0) = true := by simpa using hE
  have d2 : (E == E) = true := by simp
  replace H := Lib.hid (H.out.on hb6)
  replace HI := Lib.hid (HI.out.on hb6)
  clear a0 a1 a2 hb6 hE hEE
  have a0 := H.out.box.cell 0
  have a1 := H.out.box.cell 1
  have a2 := H.out.box.cell 2
  go_wp2_with fail
  with_reducible refine (gsize_any A1 k1 c1 lc v s A3 k3 c3 lb _ H.out.cols H.out.max1 H.out.items H.out.max2 H.out.sok H.out.ok H.out.tab).mono ?_
  rw [Hsv.out, HE.out]
  rintro e w7 ⟨rfl, hb7⟩
  replace H := Lib.hid (H.out.on hb7)
  replace HI := Lib.hid (HI.out.on hb7)
  clear a0 a1 a2 hb7 Hsv
  have a0 := H.out.box.cell 0
  have a1 := H.out.box.cell 1
  have a2 := H.out.box.cell 2
  go_wp2_with fail
  with_reducible refine (gwhere_any A1 k1 c1 lc v s A3 k3 c3 lb A5 k5 c5 ys _ H.out.cols H.out.max1 H.out.items H.out.max2 H.out.sok H.out.ok HI.out hkm H.out.tab).mono ?_
  rw [Hwv.out, HE.out]
  rintro e w8 ⟨rfl, hb8⟩
  replace H := Lib.hid (H.out.on hb8)
  replace HI := Lib.hid (HI.out.on hb8)
  clear a0 a1 a2 hb8 Hwv
  have a0 := H.out.box.cell 0
  have a1 := H.out.box.cell 1
  have a2 := H.out.box.cell 2
  go_wp2_with fail
  with_reducible refine (gmatch_any A1 k1 c1 lc v s A3 k3 c3 lb A5 k5 c5 ys _ H.out.cols H.out.max1 H.out.items H.out.max2 H.out.sok H.out.ok HI.out hkm H.out.tab).mono ?_
  rw [Hmv.out]
  rintro e w9 ⟨rfl, hb9⟩
  replace H := Lib.hid (H.out.on hb9)
  clear a0 a1 a2 hb9 HI
  go_wp2_with fail
  with_reducible refine (gworks_yes _ H.out.tab).mono ?_
  rintro e w12 ⟨rfl, hb12⟩
  replace H := Lib.hid (H.out.on hb12)
  clear hb12
  go_wp2
  go_ret
  exact ⟨rfl, H.out.below⟩
end Go.Proofs.YtnkgchmkmhdcaaaGreatDoor
namespace Go.Proofs.YtnkgchmkmhdcaaaGreatDoor
open Go.RowKit
set_option maxRecDepth 100000 in
set_option maxHeartbeats 8000000 in
theorem gramDecodes_walk (A : Option Addr) (n c : Nat) (l : List Co) (v s : Int) (I : Option Addr) (m d : Nat) (li : List It) (X : Option Addr) (xn xc : Nat) (xs : List UInt8) (w : World) (hr : Reads w w.heap.size 7 A n (cos l)) (hn : n ≤ c) (hc : c ≤ maxLen) (hok : CoOk l)
  (hv : -9223372036854775808 ≤ v ∧ v ≤ 9223372036854775807) (hs : -9223372036854775808 ≤ s ∧ s ≤ 9223372036854775807) (hi : ItemsAt w w.heap.size I m li) (hm : m ≤ d) (hd : d ≤ maxLen) (hit : ItOk li) (hx : Reads w w.heap.size 1 X xn (u8s xs)) (hxn : xn ≤ xc) (hxc : xc ≤ maxLen) (hT : Tab2 w.heap.size w) :
  Calls Tryz.prog 20 #[.slice A n c, .agg #[.int .i64 v, .int .i64 s, .slice I m d], .slice X xn xc] w fun e w' => e = .returned (.bool true) ∧ Below w.heap.size w w' := by
 have Hr := Lib.hid hr
 have HT := Lib.hid hT
 have Hi := Lib.hid hi
 have Hit := Lib.hid hit
 have Hs := Lib.hid hs.2
 have hmm : m ≤ maxLen := Nat.le_trans hm hd
 have HP := Lib.hid (Blk.new w 30 #[.int .i64 v, .int .i64 s, .slice I m d])
 have HB := Lib.hid (bal (Below.refl w.heap.size w) (.cells #[.int .i64 v, .int .i64 s, .slice I m d] 30))
 clear hr hT hi hit hs hv hm hd hok
 have HX := Lib.hid hx
 clear hx
 go_enter Tryz.func20, Tryz.ntmps20
 go_wp2_with fail
 with_reducible refine (gworks_yes _ (HT.out.on HB.out)).mono ?_
 rintro e W1 ⟨rfl, hbW⟩
 replace HB := Lib.hid (bon HB.out hbW)
 replace HP := Lib.hid (HP.out.on hbW)
 clear hbW
 go_wp2
 have HL0 := Lib.hid (show ∀ w', Below W1.heap.size W1 w' → w'.cell? ⟨w.heap.size, 0, none⟩ = some (.int .i64 v) from fun w' h => (HP.out.on h).cell 0)
 have HL1 := Lib.hid (show ∀ w', Below W1.heap.size W1 w' → w'.cell? ⟨w.heap.size, 1, none⟩ = some (.int .i64 s) from fun w' h => (HP.out.on h).cell 1)
 have HL2 := Lib.hid (show ∀ w', Below W1.heap.size W1 w' → w'.cell? ⟨w.heap.size, 2, none⟩ = some (.slice I m d) from fun w' h => (HP.out.on h).cell 2)
 have hS : Below W1.heap.size W1 W1.drew := (Below.refl _ _).drew
 refine wp_region_phase (fun w' => Below W1.heap.size W1 w') [0, 2] [(0, false), (2, false), (1, true), (3, true)] (fun _ => True) [(4, false), (5, true)] (by kernel_rfl) (by kernel_rfl) (by kernel_rfl) (fun d _ _ _ _ h => by cases d <;> exact h) ?_
 refine phase_pure (v := ?_) rfl rfl (by simp [Region.wanted, yielded]) hS ?_ ?_
 rotate_left
 ·intro w hw; go_simp; try with_reducible rfl
 try simp only [Act.put, zpA, zpB, zpC]
 refine phase_pure (v := ?_) rfl rfl (by simp [Region.wanted, yielded]) hS ?_ ?_
 rotate_left
 ·intro w hw; have c0 := HL0.out w hw; have c1 := HL1.out w hw; have c2 := HL2.out w hw; clear hw; go_simp; try with_reducible rfl
 try simp only [Act.put, zpA, zpB, zpC]
 refine phase_eff1 rfl (by simp [Region.wanted, yielded]) fun K hK => ?_
 go_simp
 with_reducible refine (columns18_any A n c l _ (Hr.out.on (bon HB.out hS)) hn hc).mono ?_
 rintro e w2 ⟨A1, k1, c1, rfl, hk1, o1, hb2⟩
 have HS2 := Lib.hid (bon hS hb2)
 have HO := Lib.hid o1
 clear o1 hb2
 refine held_go hK (by exact HS2.out) fun hS => ?_
 clear hK K
 try simp only [Act.put, zpA, zpB, zpC]
 refine phase_eff1 rfl (by simp [Region.wanted, yielded]) fun K hK => ?_
 go_simp
 with_reducible refine (cut18_any v s I m d li _ (Hi.out.on (bon HB.out HS2.out)) hmm Hit.out).mono ?_
 rintro e w3 ⟨A3, k3, c3, rfl, o3, hb3⟩
 have HS3 := Lib.hid (bon HS2.out hb3)
 have HO := Lib.hid (own_below HO.out hb3)
 have HIo := Lib.hid o3
 clear o3 hb3
 refine held_go hK (by exact HS3.out) fun hS => ?_
 clear hK K
 try simp only [Act.put, zpA, zpB, zpC]
 refine phase_end ?_
 have HP3 := Lib.hid (HP.out.on HS3.out)
 have HBc := Lib.hid (bon HB.out HS3.out)
 clear hS HL0 HL1 HL2 HS2 HP
 have hS : True := trivial
 refine held_pure (v := ?_) rfl rfl (by simp [Region.wanted, yielded]) hS ?_ ?_
 rotate_left
 ·intro w hw; go_simp; try with_reducible rfl
 try simp only [Act.put, zpA, zpB, zpC]
 have a0 := HP3.out.cell 0
 have a1 := HP3.out.cell 1
 have a2 := HP3.out.cell 2
 have f0 := HP3.out.frozen 0
 have f1 := HP3.out.frozen 1
 have f2 := HP3.out.frozen 2
 refine held_eff1 rfl (by simp [Region.wanted, yielded]) fun K hK => ?_
 go_simp
 clear a0 a1 a2 f0 f1 f2
 obtain ⟨w4, hw4⟩ : ∃ w4, w4 = ((w3.setCell ⟨w.heap.size, 0, none⟩ (.int .i64 v)).setCell ⟨w.heap.size, 1, none⟩ (.int .i64 s)).setCell ⟨w.heap.size, 2, none⟩ (.slice A3 k3 c3) := ⟨_, rfl⟩
 obtain ⟨g1, g2, g3, g4, g5, g6⟩ := box_put HP3.out HIo.out hw4
 skip
 rw [← hw4]
 have hk3 : k3 ≤ 30 := by
  have := HIo.out.len
  have := cutl_len li
  omega
 have H := Lib.hid (show LawB w A1 k1 (l.take 40) v s A3 k3 c3 (cutl li) w4 from ⟨HBc.out.trans (g3 _ (Nat.le_refl _)), g1, own_reads (g4 HO.out (by decide)), g2.at_, HT.out.on (HBc.out.trans (g3 _ (Nat.le_refl _))), hk1, hk3, cutl_ok Hit.out, Hs.out⟩)
 generalize l.take 40 = lc at H
 clear hw4 g1 g2 g3 g4 g5 g6 HP3 HO HIo HBc HS3
 refine held_go hK (by exact trivial) fun hS => ?_
 clear hK K
 try simp only [Act.put, zpA, zpB, zpC]
 refine held_end ?_
 clear HB Hr Hi Hit Hs
 generalize cutl li = lb at H
 go_wp2_with fail
 with_reducible refine (bytes18_any X xn xc xs _ (HX.out.on H.out.below) hxn hxc).mono ?_
 rintro e w5 ⟨A5, k5, c5, rfl, hkc, hcm, o5, hb5⟩
 replace H := Lib.hid (H.out.on hb5)
 have HI := Lib.hid (own_reads o5)
 have hkm : k5 ≤ maxLen := Nat.le_trans hkc hcm
 generalize xs.take 2000 = ys at HI
 clear o5 hb5 HX
 go_wp2_with fail
 with_reducible refine (bdec_any A1 k1 c1 lc A5 k5 c5 ys _ H.out.cols H.out.max1 HI.out hkc hcm H.out.tab).mono ?_
 rintro e w6 ⟨hb6, hm6⟩
 replace H := Lib.hid (H.out.on hb6)
 replace HI := Lib.hid (HI.out.on hb6)
 clear hb6
 rcases hd : decB lc ys with er | b
 ·rw [hd] at hm6
  obtain ⟨rfl, he⟩ := hm6
  have d1 : ((er : Int) == 0) = false := by simp; omega
  have HM := Lib.hid (match_dec_err hd H.out.baok)
  replace H := Lib.hid (H.out.al (.cells #[.int .i64 0, .int .i64 0, .slice none 0 0] 30))
  replace HI := Lib.hid (HI.out.al (.cells #[.int .i64 0, .int .i64 0, .slice none 0 0] 30))
  clear hd he
  have a0 := H.out.box.cell 0
  have a1 := H.out.box.cell 1
  have a2 := H.out.box.cell 2
  go_wp2_with fail
  with_reducible refine (gmatch_any A1 k1 c1 lc v s A3 k3 c3 lb A5 k5 c5 ys _ H.out.cols H.out.max1 H.out.items H.out.max2 H.out.sok H.out.ok HI.out hkm H.out.tab).mono ?_
  rintro e w8 ⟨rfl, hb8⟩
  replace H := Lib.hid (H.out.on hb8)
  have HM := HM.out
  generalize matchV lc (v, s, lb) ys = mv at *
  clear hb8 a0 a1 a2
  go_wp2
  go_ret
  exact ⟨rfl, H.out.below⟩
 ·rw [hd] at hm6
  obtain ⟨J, kk, dd, rfl, hio⟩ := hm6
  obtain ⟨hf, hbo, henc⟩ := decB_only hd
  obtain ⟨hm0, hm1⟩ := match_dec_ok hd H.out.baok
  have Hm0 := Lib.hid hm0
  have Hm1 := Lib.hid hm1
  have HJ := Lib.hid hio.at_
  have hkk : kk ≤ maxLen := by
   have h3 := hio.len
   have h4 := hf.rows
   simp only [maxLen]
   omega
  have Hs3 := Lib.hid hbo.1
  have Hok3 := Lib.hid (hf.itOk hbo)
  clear hio hd hf hbo henc hm0 hm1
  obtain ⟨v2, s2, l2⟩ := b
  simp only at HJ Hs3 Hok3 ⊢
  replace HJ := Lib.hid (HJ.out.al (.cells #[.int .i64 v2, .int .i64 s2, .slice J kk dd] 30))
  have HP6 := Lib.hid (Blk.new w6 30 #[.int .i64 v2, .int .i64 s2, .slice J kk dd])
  replace H := Lib.hid (H.out.al (.cells #[.int .i64 v2, .int .i64 s2, .slice J kk dd] 30))
  replace HI := Lib.hid (HI.out.al (.cells #[.int .i64 v2, .int .i64 s2, .slice J kk dd] 30))
  have e0 := HP6.out.cell 0
  have e1 := HP6.out.cell 1
  have e2 := HP6.out.cell 2
  go_wp2_with fail
  with_reducible refine (gmatch_any A1 k1 c1 lc v2 s2 J kk dd l2 A5 k5 c5 ys _ H.out.cols H.out.max1 HJ.out hkk Hs3.out Hok3.out HI.out hkm H.out.tab).mono ?_
  rw [Hm0.out]
  rintro e w7 ⟨rfl, hb7⟩
  replace H := Lib.hid (H.out.on hb7)
  replace HI := Lib.hid (HI.out.on hb7)
  replace HJ := Lib.hid (HJ.out.on hb7)
  replace HP6 := Lib.hid (HP6.out.on hb7)
  clear hb7 e0 e1 e2 Hm0
  have a0 := H.out.box.cell 0
  have a1 := H.out.box.cell 1
  have a2 := H.out.box.cell 2
  go_wp2_with fail
  with_reducible refine (gmatch_any A1 k1 c1 lc v s A3 k3 c3 lb A5 k5 c5 ys _ H.out.cols H.out.max1 H.out.items H.out.max2 H.out.sok H.out.ok HI.out hkm H.out.tab).mono ?_
  rintro e w8 ⟨rfl, hb8⟩
  replace H := Lib.hid (H.out.on hb8)
  replace HJ := Lib.hid (HJ.out.on hb8)
  replace HP6 := Lib.hid (HP6.out.on hb8)
  clear hb8 a0 a1 a2 HI
  obtain ⟨mv, hmv⟩ : ∃ mv, matchV lc (v, s, lb) ys = mv := ⟨_, rfl⟩
  rw [hmv]
  have HS := Lib.hid (show (mv == 0) = sameBa (v, s, lb) (v2, s2, l2) by rw [← hmv]; exact Hm1.out)
  clear hmv Hm1
  have a0 := H.out.box.cell 0
  have a1 := H.out.box.cell 1
  have a2 := H.out.box.cell 2
  have e0 := HP6.out.cell 0
  have e1 := HP6.out.cell 1
  have e2 := HP6.out.cell 2
  go_wp2_with fail
  with_reducible refine (bsame_any v s A3 k3 c3 lb v2 s2 J kk dd l2 _ H.out.items HJ.out H.out.max2).mono ?_
  rw [← HS.out]
  rintro e w9 ⟨rfl, hb9⟩
  replace H := Lib.hid (H.out.on hb9)
  clear hb9 a0 a1 a2 e0 e1 e2 HJ HP6 HS
  have dq : ((mv == 0) == (mv == 0)) = true := by simp
  go_wp2
  go_ret
  exact ⟨rfl, H.out.below⟩
end Go.Proofs.YtnkgchmkmhdcaaaGreatDoor
