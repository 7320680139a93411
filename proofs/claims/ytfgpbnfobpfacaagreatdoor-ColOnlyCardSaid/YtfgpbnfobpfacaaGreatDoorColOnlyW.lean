/- The law ColOnly, walked. -/
import Derived.Test.YtfgpbnfobpfacaaGreatDoorPart21
set_option linter.unusedVariables false
set_option linter.unusedSimpArgs false
namespace Go.Proofs.YtfgpbnfobpfacaaGreatDoor
open Go.RowKit
theorem checkE_all {k : Int} {nl : Bool} {l : List Cl} {j : Nat} {c : Cl} (h : allC k nl l = true) (hc : l[j]? = some c) : checkE k nl c = 0 := by
  unfold allC at h
  simpa using List.all_eq_true.1 h c (List.mem_of_getElem? hc)
theorem allC_ok {k : Int} {nl : Bool} {l : List Cl} (hk : mayK k = true) (h : allC k nl l = true) : ClOk l := by
  obtain ⟨h1, h5⟩ : 1 ≤ k ∧ k ≤ 5 := by simpa [mayK] using hk
  obtain ⟨ho, hn⟩ := (allC_iff k nl l hk).1 h
  intro c hc
  cases hu : c.1 with
  | true =>
    obtain ⟨-, rfl⟩ := hn c hc hu
    exact ⟨by decide, by decide, by decide⟩
  | false =>
    have hi := (ho c (List.mem_filter.2 ⟨hc, by simp [hu]⟩)).2
    have hs := size_of_ok h1 h5 hi
    refine ⟨?_, ?_, Nat.le_trans hs (by decide)⟩
    all_goals
      rcases (show k = 1 ∨ k = 2 ∨ k = 3 ∨ k = 4 ∨ k = 5 by omega) with rfl | rfl | rfl | rfl | rfl
      all_goals simp [isC, sizeC] at hi; omega
set_option maxRecDepth 100000 in
set_option maxHeartbeats 2000000 in
theorem colOnly_walk (A : Option Addr) (l c : Nat) (xs : List UInt8) (k : Int) (nl : Bool) (n : Int) (w : World) (hr : Reads w w.heap.size 1 A l (u8s xs)) (hl : l ≤ c) (hc : c ≤ maxLen) (hn1 : -9223372036854775808 ≤ n) (hn2 : n ≤ 9223372036854775807) (hT : Tabs w) :
    Calls Tryz.prog 6 #[.slice A l c, .agg #[.int .i64 k, .bool nl], .int .i64 n] w fun e w' => e = .returned (.bool true) ∧ Below w.heap.size w w' := by
  obtain ⟨m, ys, -, hcast, hm1, hm2, hry⟩ := cut_head hr 2400 2400 rfl
  have hmc : m ≤ c := by omega
  have hcm : c ≤ 9223372036854775807 := by simp only [maxLen] at hc; omega
  have HT := Lib.hid hT
  have hbA := (Below.refl w.heap.size w).alloc (Nat.le_refl _) (.cells #[.int .i64 k, .bool nl] 24)
  have B4 := Lib.hid (Blk.new w 24 #[.int .i64 k, .bool nl])
  have Hry := Lib.hid hry
  have hyl := reads_len hry
  clear hn1 hn2 hT hm1 hr hry hc
  go_enter Tryz.func6, Tryz.ntmps6
  go_wp2_with fail
  with_reducible refine (works_yes _ (HT.out.on hbA)).mono ?_
  rintro e w0 ⟨rfl, hb0⟩
  have HB0 := Lib.hid (bon hbA hb0)
  have B4 := Lib.hid (B4.out.on hb0)
  clear hb0 hbA
  go_wp2_with fail
  with_reducible refine (copyBytes_any A m _ ys _ (Hry.out.on HB0.out) (by omega)).mono ?_
  rintro e w1 ⟨A1, c1, rfl, hc1, hd1, o1, hb1⟩
  have R1 := Lib.hid (own_reads o1)
  have B5 := Lib.hid (B4.out.on hb1)
  have c40 := B5.out.cell 0
  have c41 := B5.out.cell 1
  have HB1 := Lib.hid (bon HB0.out hb1)
  clear o1 hb1
  go_wp2_with fail
  with_reducible refine (cget_any A1 m c1 ys k nl n _ R1.out hc1 hd1 (HT.out.on HB1.out)).mono ?_
  rintro e w2 ⟨hb2, hm2'⟩
  have B6 := Lib.hid (B5.out.on hb2)
  have HB2 := Lib.hid (bon HB1.out hb2)
  have R2 := Lib.hid (R1.out.on hb2)
  rcases hd : getC k nl ys n with er | ⟨t, s⟩
  · rw [hd] at hm2'
    obtain ⟨rfl, he⟩ := hm2'
    have hne : ((er : Int) == 0) = false := by simp; omega
    have hne2 : ((er : Int) != 0) = true := by simp; omega
    clear hd hb2
    go_wp2
    go_ret
    exact ⟨rfl, HB2.out⟩
  · rw [hd] at hm2'
    obtain ⟨hq, A2, c2, rfl, g1, g2, o2⟩ := hm2'
    obtain ⟨hk, hnl, htl, hsm, hpb, hal⟩ := getC_only k nl ys n t s hd
    have Hal := Lib.hid hal
    have Ht := Lib.hid (own_reads o2)
    have hE := putE_ok hk hal
    have hO := putO_ok [] hE
    rw [hpb] at hO
    have HO := Lib.hid hO
    have HE := Lib.hid hE
    have Hok := Lib.hid (show ClOk t from allC_ok hk hal)
    rw [hyl] at hsm
    clear hd hb2 o2 hpb hal hE hO hk
    have d40 := B6.out.cell 0
    have d41 := B6.out.cell 1
    go_wp2_with fail
    with_reducible refine (cput_any none 0 0 [] k nl A2 t.length c2 t _ Reads.none_ (by omega) Ht.out htl Hok.out (HT.out.on HB2.out)).mono ?_
    rw [HE.out, HO.out]
    rintro e w3 ⟨A3, n3, c3, rfl, g3, g4, o3, hb3⟩
    have B7 := Lib.hid (B6.out.on hb3)
    have HB3 := Lib.hid (bon HB2.out hb3)
    have R3 := Lib.hid (R2.out.on hb3)
    have Ht3 := Lib.hid (Ht.out.on hb3)
    have HO3 := Lib.hid (own_reads o3)
    have hnt : ((t.length : Nat) : Int) = n := hnl
    clear o3 hb3 d40 d41 c40 c41
    subst hnt
    have HNN := Lib.hid hnl
    clear hnl
    go_wp2
    go_loopw [13] (fun i wr => ∃ j : Nat, j ≤ t.length ∧ i = .int .i64 (j : Int) ∧ Hid (Below w3.heap.size w3 wr)) (fun i _ => t.length - (intOf i).toNat)
    case atStart => exact ⟨0, Nat.zero_le _, rfl, Lib.hid (Below.refl _ _)⟩
    case round =>
      obtain ⟨j, hj, rfl, HB⟩ := hrel
      by_cases hlt : j < t.length
      · have hx : t[j]? = some t[j] := List.getElem?_eq_getElem hlt
        obtain ⟨ad, u, x, s2, rfl, hbk, hx2, h0, h1, h2⟩ := cls_at ((Ht3.out.below HB.out)) hlt
        have hck := checkE_all Hal.out hx2
        have HK0 := Lib.hid (show ∀ w', Below w3.heap.size w3 w' → w'.cell? ⟨w.heap.size, 0, none⟩ = some (.int .i64 k) from fun w' h => (B7.out.on h).cell 0)
        have HK1 := Lib.hid (show ∀ w', Below w3.heap.size w3 w' → w'.cell? ⟨w.heap.size, 1, none⟩ = some (.bool nl) from fun w' h => (B7.out.on h).cell 1)
        obtain ⟨ad3, u3, x3, s3, hA3, hbk3, hx3, p0, p1, p2⟩ := cls_at Ht3.out hlt
        have hA3' : ad3 = ad := by injection hA3 with hA3; exact hA3.symm
        subst hA3'
        rw [hx2] at hx3
        injection hx3 with hx3
        injection hx3 with e1 e2
        injection e2 with e2 e3
        subst e1 e2 e3
        have hbk4 : (ad3.add (j * 3)).block < w3.heap.size := by rw [block_of_add]; exact hbk3
        have HZ0 := Lib.hid (show ∀ w', Below w3.heap.size w3 w' → w'.cell? (ad3.add (j * 3)) = some (.bool u) from fun w' h => (h.cell (p := ad3.add (j * 3)) hbk4).trans p0)
        have HZ1 := Lib.hid (show ∀ w', Below w3.heap.size w3 w' → w'.cell? ⟨(ad3.add (j * 3)).block, (ad3.add (j * 3)).off + 1, none⟩ = some (.int .i64 x) from fun w' h => (h.cell (p := ⟨(ad3.add (j * 3)).block, (ad3.add (j * 3)).off + 1, none⟩) hbk4).trans p1)
        have HZ2 := Lib.hid (show ∀ w', Below w3.heap.size w3 w' → w'.cell? ⟨(ad3.add (j * 3)).block, (ad3.add (j * 3)).off + 2, none⟩ = some (.string s2) from fun w' h => (h.cell (p := ⟨(ad3.add (j * 3)).block, (ad3.add (j * 3)).off + 2, none⟩) hbk4).trans p2)
        have Hck := Lib.hid hck
        clear hx hx2 hbk h0 h1 h2 hck hbk3 hbk4 p0 p1 p2 hA3
        go_wp2
        have hS : Below w3.heap.size w3 wr.drew := HB.out.drew
        have hji : (j : Int) < (t.length : Int) := by omega
        refine wp_region_keep (fun w' => Below w3.heap.size w3 w') [(0, false), (1, false), (2, false), (3, false), (4, false), (5, true), (6, false)] (by kernel_rfl) (by kernel_rfl) (by kernel_rfl) (fun d _ _ _ _ h => by cases d <;> exact h) ?_
        refine held_pure (v := ?_) rfl rfl (by simp [Region.wanted, yielded]) hS ?_ ?_
        rotate_left
        · intro w hw; have c0 := HK0.out w hw; have c1 := HK1.out w hw; clear hw; go_simp; try with_reducible rfl
        try simp only [Act.put, List.setIfInBounds_toArray, List.set_cons_succ, List.set_cons_zero]
        refine held_pure (v := ?_) rfl rfl (by simp [Region.wanted, yielded]) hS ?_ ?_
        rotate_left
        · intro w hw; go_simp; try with_reducible rfl
        try simp only [Act.put, List.setIfInBounds_toArray, List.set_cons_succ, List.set_cons_zero]
        refine held_pure (v := ?_) rfl rfl (by simp [Region.wanted, yielded]) hS ?_ ?_
        rotate_left
        · intro w hw; go_simp; try with_reducible rfl
        try simp only [Act.put, List.setIfInBounds_toArray, List.set_cons_succ, List.set_cons_zero]
        refine held_pure (v := ?_) rfl rfl (by simp [Region.wanted, yielded]) hS ?_ ?_
        rotate_left
        · intro w hw; go_simp; try with_reducible rfl
        try simp only [Act.put, List.setIfInBounds_toArray, List.set_cons_succ, List.set_cons_zero]
        refine held_pure (v := ?_) rfl rfl (by simp [Region.wanted, yielded]) hS ?_ ?_
        rotate_left
        · intro w hw; have c0 := HZ0.out w hw; have c1 := HZ1.out w hw; have c2 := HZ2.out w hw; clear hw; go_simp; try with_reducible rfl
        try simp only [Act.put, List.setIfInBounds_toArray, List.set_cons_succ, List.set_cons_zero]
        refine held_eff1 rfl (by simp [Region.wanted, yielded]) fun K hK => ?_
        go_simp
        with_reducible refine (check_any3 k nl u x s2 _ ((HT.out.on HB3.out).on hS)).mono ?_
        rw [Hck.out]
        rintro e w5 ⟨rfl, hb5⟩
        refine held_go hK (by exact hS.trans (hb5.mono hS.size)) fun hS => ?_
        clear hK K
        try simp only [Act.put, List.setIfInBounds_toArray, List.set_cons_succ, List.set_cons_zero]
        clear hb5
        refine held_pure (v := ?_) rfl rfl (by simp [Region.wanted, yielded]) hS ?_ ?_
        rotate_left
        · intro w hw; go_simp; try with_reducible rfl
        try simp only [Act.put, List.setIfInBounds_toArray, List.set_cons_succ, List.set_cons_zero]
        refine held_end ?_
        have HB := Lib.hid hS
        clear hS hji
        go_wp2
        go_roundw
        case rel => exact ⟨j + 1, by omega, by go_num, HB⟩
        case measure => simp [intOf]; omega
      · obtain rfl : j = t.length := by omega
        have HBw := Lib.hid (bon HB3.out HB.out)
        have hcut := (R3.out.on HB.out).head (k := s) hsm
        rw [Nat.mul_one, u8s_take] at hcut
        have Hcut := Lib.hid hcut
        have hsc : s ≤ c1 := by omega
        have hs63 : c1 ≤ 9223372036854775807 := by simp only [maxLen] at hd1; omega
        have dle : decide ((s : Int) ≤ (m : Int)) = true := by simp; omega
        have d3 : ((s : Nat) : Int).toNat = s := by simp
        clear hcut
        go_wp2_with fail
        with_reducible refine (eq_yes A3 A1 n3 c3 s c1 (ys.take s) (ys.take s) _ (HO3.out.on HB.out) Hcut.out rfl).mono ?_
        rintro e w7 ⟨rfl, rfl⟩
        go_wp2
        go_ret
        exact ⟨rfl, HBw.out⟩
end Go.Proofs.YtfgpbnfobpfacaaGreatDoor
