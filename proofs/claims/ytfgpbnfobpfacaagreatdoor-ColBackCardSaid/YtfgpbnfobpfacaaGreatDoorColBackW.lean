/- The law ColBack, walked. -/
import Derived.Test.YtfgpbnfobpfacaaGreatDoorPart21
set_option linter.unusedVariables false
set_option linter.unusedSimpArgs false
namespace Go.Proofs.YtfgpbnfobpfacaaGreatDoor
open Go.RowKit
set_option maxRecDepth 100000 in
set_option maxHeartbeats 2000000 in
theorem colBack_walk (k : Int) (nl : Bool) (B : Option Addr) (m cb : Nat) (l : List Cl) (A : Option Addr) (n c : Nat) (xs : List UInt8) (w : World) (hr2 : Reads w w.heap.size 3 B m (cls l)) (hm : m ≤ cb) (hcb : cb ≤ maxLen) (hok : ClOk l) (hr : Reads w w.heap.size 1 A n (u8s xs)) (hn : n ≤ c) (hc : c ≤ maxLen) (hT : Tabs w) :
    Calls Tryz.prog 5 #[.agg #[.int .i64 k, .bool nl], .slice B m cb, .slice A n c] w fun e w' => e = .returned (.bool true) ∧ Below w.heap.size w w' := by
  obtain ⟨mn, ys, -, hcast, hm1, hm2, hry⟩ := cut_head hr 60 60 rfl
  have hmc : mn ≤ c := by omega
  have hcm : c ≤ 9223372036854775807 := by simp only [maxLen] at hc; omega
  have Hok := Lib.hid hok
  have HT := Lib.hid hT
  have hbA := (Below.refl w.heap.size w).alloc (Nat.le_refl _) (.cells #[.int .i64 k, .bool nl] 24)
  have B4 := Lib.hid (Blk.new w 24 #[.int .i64 k, .bool nl])
  have hcl := cutC_len l
  have Hm := Lib.hid (Nat.le_trans hm hcb)
  have Hry := Lib.hid hry
  obtain ⟨i0, hi0, hz0, hz1, hz2⟩ := info_parts u8_info
  clear hok hT hc hcb hr hry
  go_enter Tryz.func5, Tryz.ntmps5
  go_wp2_with fail
  with_reducible refine (cutC_any B m cb l _ (hr2.al _) Hm.out Hok.out).mono ?_
  rintro e w2 ⟨A2, c2, rfl, g1, g2, o2, hb2⟩
  have Hok2 := Lib.hid (cutC_ok l Hok.out)
  generalize hin : cutC l = lc at *
  have r2 := own_reads o2
  have hlc : lc.length ≤ 60 := by omega
  have B5 := Lib.hid (B4.out.on hb2)
  have c40 := B5.out.cell 0
  have c41 := B5.out.cell 1
  have HB2 := Lib.hid (bon hbA hb2)
  clear hin hcl hb2 hbA
  go_wp2_with fail
  with_reducible refine (cput_any none 0 0 [] k nl A2 lc.length c2 lc _ Reads.none_ (by omega) r2 (by omega) Hok2.out (HT.out.on HB2.out)).mono ?_
  rintro e w3 ⟨A3, n3, c3, rfl, g3, g4, o3, hb3⟩
  have B6 := Lib.hid (B5.out.on hb3)
  have HB3 := Lib.hid (bon HB2.out hb3)
  have HT3 := Lib.hid (HT.out.on HB3.out)
  have G := Lib.hid (And.intro g3 g4)
  by_cases hE : putE k nl lc = 0
  · obtain ⟨hk, ha⟩ := putE_zero hE
    have hO : putO k nl lc [] = putB k nl lc [] := by unfold putO; rw [if_pos hE]
    rw [hO] at o3
    have hgp := getC_put k nl lc hk ha (by omega) ys
    have hple := putB_le k nl lc hk ha
    rw [hE]
    have hlen : (putB k nl lc []).length = n3 := reads_len (own_reads o3)
    generalize putB k nl lc [] = pb at *
    rw [hlen] at hgp hple
    have Hgp := Lib.hid hgp
    have HO := Lib.hid (Reads.of_own o3)
    have HR2 := Lib.hid (r2.on hb3)
    clear hgp hE hO hk ha o3 r2 hb3 g3 g4 c40 c41 hlen
    go_wp2
    have hS : Below w3.heap.size w3 w3.drew := (Below.refl _ _).drew
    have HK0 := Lib.hid (show ∀ w', Below w3.heap.size w3 w' → w'.cell? ⟨w.heap.size, 0, none⟩ = some (.int .i64 k) from fun w' h => (B6.out.on h).cell 0)
    have HK1 := Lib.hid (show ∀ w', Below w3.heap.size w3 w' → w'.cell? ⟨w.heap.size, 1, none⟩ = some (.bool nl) from fun w' h => (B6.out.on h).cell 1)
    refine wp_region_keep (fun w' => Below w3.heap.size w3 w') [(0, false), (2, false), (3, false), (4, false), (5, false), (6, false), (8, false), (9, false), (10, false), (1, true), (7, true), (11, true), (12, false), (13, false), (14, false), (15, false), (16, false), (17, false), (18, false)] (by kernel_rfl) (by kernel_rfl) (by kernel_rfl) (fun d _ _ _ _ h => by cases d <;> exact h) ?_
    refine held_pure (v := ?_) rfl rfl (by simp [Region.wanted, yielded]) hS ?_ ?_
    rotate_left
    · intro w hw; go_simp; try with_reducible rfl
    try simp only [Act.put, List.setIfInBounds_toArray, List.set_cons_succ, List.set_cons_zero]
    refine held_pure (v := ?_) rfl rfl (by simp [Region.wanted, yielded]) hS ?_ ?_
    rotate_left
    · intro w hw; go_simp; try with_reducible rfl
    try simp only [Act.put, List.setIfInBounds_toArray, List.set_cons_succ, List.set_cons_zero]
    refine held_pure (v := ?_) rfl rfl (by simp [Region.wanted, yielded]) hS ?_ ?_
    rotate_left
    · intro w hw; go_simp; try with_reducible rfl
    try simp only [Act.put, List.setIfInBounds_toArray, List.set_cons_succ, List.set_cons_zero]
    refine held_pure (v := ?_) rfl rfl (by simp [Region.wanted, yielded]) hS ?_ ?_
    rotate_left
    · intro w hw; go_simp; try with_reducible rfl
    try simp only [Act.put, List.setIfInBounds_toArray, List.set_cons_succ, List.set_cons_zero]
    refine held_pure (v := ?_) rfl rfl (by simp [Region.wanted, yielded]) hS ?_ ?_
    rotate_left
    · intro w hw; go_simp; try with_reducible rfl
    try simp only [Act.put, List.setIfInBounds_toArray, List.set_cons_succ, List.set_cons_zero]
    refine held_pure (v := ?_) rfl rfl (by simp [Region.wanted, yielded]) hS ?_ ?_
    rotate_left
    · intro w hw; go_simp; try with_reducible rfl
    try simp only [Act.put, List.setIfInBounds_toArray, List.set_cons_succ, List.set_cons_zero]
    refine held_pure (v := ?_) rfl rfl (by simp [Region.wanted, yielded]) hS ?_ ?_
    rotate_left
    · intro w hw; have c0 := HK0.out w hw; have c1 := HK1.out w hw; clear hw; go_simp; try with_reducible rfl
    try simp only [Act.put, List.setIfInBounds_toArray, List.set_cons_succ, List.set_cons_zero]
    refine held_pure (v := ?_) rfl rfl (by simp [Region.wanted, yielded]) hS ?_ ?_
    rotate_left
    · intro w hw; go_simp; try with_reducible rfl
    try simp only [Act.put, List.setIfInBounds_toArray, List.set_cons_succ, List.set_cons_zero]
    refine held_pure (v := ?_) rfl rfl (by simp [Region.wanted, yielded]) hS ?_ ?_
    rotate_left
    · intro w hw; go_simp; try with_reducible rfl
    try simp only [Act.put, List.setIfInBounds_toArray, List.set_cons_succ, List.set_cons_zero]
    refine held_eff1 rfl (by simp [Region.wanted, yielded]) fun K hK => ?_
    go_simp
    with_reducible refine (copyBytes_any A3 n3 c3 pb _ (HO.out.on hS) (by omega)).mono ?_
    rintro e w4 ⟨A4, c4, rfl, q1, q2, q3, q4⟩
    have HO4 := Lib.hid (own_mono q3 (show w3.heap.size ≤ w3.drew.heap.size from Nat.le_refl _))
    refine held_go hK (by exact bon hS q4) fun hS => ?_
    clear hK K
    try simp only [Act.put, List.setIfInBounds_toArray, List.set_cons_succ, List.set_cons_zero]
    clear q1 q2 q3 q4
    refine held_eff1 rfl (by simp [Region.wanted, yielded]) fun K hK => ?_
    refine wp_append_any _ (.tmp 31) (.tmp 36) 22 rfl w3.heap.size 5 i0 (.int .u8 0) 1 1 Tryz.underlying22 hi0 hz0 hz1 hz2 rfl (by decide) A4 n3 c4 _ rfl HO4.out A mn _ (u8s ys) rfl ((Hry.out.on HB3.out).on hS) (u8s_one _) (by simp only [maxLen]; omega) (by omega) hS.size ?_
    intro A5 c5 w5 r1 r2 r3 r4 r5
    rw [← u8s_append] at r1
    have HO5 := Lib.hid (Reads.of_own r1)
    have R5 := Lib.hid (And.intro r4 r5)
    have hT5 := Lib.hid (hS.trans r2)
    clear r1 r2 r3 r4 r5
    refine held_go hK (by exact hT5.out) fun hS => ?_
    clear hK K
    try simp only [Act.put, List.setIfInBounds_toArray, List.set_cons_succ, List.set_cons_zero]
    refine held_eff1 rfl (by simp [Region.wanted, yielded]) fun K hK => ?_
    go_simp
    with_reducible refine (cget_any A5 (n3 + mn) c5 (pb ++ ys) k nl lc.length _ HO5.out R5.out.1 R5.out.2 (HT3.out.on hS)).mono ?_
    rintro e w6 ⟨hb6, hm6⟩
    rw [Hgp.out] at hm6
    obtain ⟨-, A6, c6, rfl, q1, q2, q3⟩ := hm6
    have HR6 := Lib.hid (Reads.of_own q3)
    refine held_go hK (by exact bon hS hb6) fun hS => ?_
    clear hK K
    try simp only [Act.put, List.setIfInBounds_toArray, List.set_cons_succ, List.set_cons_zero]
    clear hb6 q1 q2 q3
    refine held_pure (v := ?_) rfl rfl (by simp [Region.wanted, yielded]) hS ?_ ?_
    rotate_left
    · intro w hw; go_simp; try with_reducible rfl
    try simp only [Act.put, List.setIfInBounds_toArray, List.set_cons_succ, List.set_cons_zero]
    refine held_pure (v := ?_) rfl rfl (by simp [Region.wanted, yielded]) hS ?_ ?_
    rotate_left
    · intro w hw; go_simp; try with_reducible rfl
    try simp only [Act.put, List.setIfInBounds_toArray, List.set_cons_succ, List.set_cons_zero]
    refine held_pure (v := ?_) rfl rfl (by simp [Region.wanted, yielded]) hS ?_ ?_
    rotate_left
    · intro w hw; go_simp; try with_reducible rfl
    try simp only [Act.put, List.setIfInBounds_toArray, List.set_cons_succ, List.set_cons_zero]
    refine held_pure (v := ?_) rfl rfl (by simp [Region.wanted, yielded]) hS ?_ ?_
    rotate_left
    · intro w hw; go_simp; try with_reducible rfl
    try simp only [Act.put, List.setIfInBounds_toArray, List.set_cons_succ, List.set_cons_zero]
    refine held_pure (v := ?_) rfl rfl (by simp [Region.wanted, yielded]) hS ?_ ?_
    rotate_left
    · intro w hw; go_simp; try with_reducible rfl
    try simp only [Act.put, List.setIfInBounds_toArray, List.set_cons_succ, List.set_cons_zero]
    refine held_pure (v := ?_) rfl rfl (by simp [Region.wanted, yielded]) hS ?_ ?_
    rotate_left
    · intro w hw; go_simp; try with_reducible rfl
    try simp only [Act.put, List.setIfInBounds_toArray, List.set_cons_succ, List.set_cons_zero]
    refine held_pure (v := ?_) rfl rfl (by simp [Region.wanted, yielded]) hS ?_ ?_
    rotate_left
    · intro w hw; go_simp; try with_reducible rfl
    try simp only [Act.put, List.setIfInBounds_toArray, List.set_cons_succ, List.set_cons_zero]
    refine held_end ?_
    have HR2b := Lib.hid (HR2.out.on hS)
    have HBw := Lib.hid (bon HB3.out hS)
    clear hS HK0 HK1 hT5
    go_wp2_with fail
    with_reducible refine (eqRow_yes A6 A2 lc.length c6 lc.length c2 lc lc _ HR6.out HR2b.out (by simp only [maxLen]; omega) rfl).mono ?_
    rintro e w7 ⟨rfl, hb7⟩
    have HB7 := Lib.hid (bon HBw.out hb7)
    clear hb7
    go_wp2_with fail
    with_reducible refine (works_yes _ (HT.out.on HB7.out)).mono ?_
    rintro e w8 ⟨rfl, hb8⟩
    have HB8 := Lib.hid (bon HB7.out hb8)
    clear hb8
    go_wp2
    go_ret
    exact ⟨rfl, HB8.out⟩
  · have hE2 : (putE k nl lc == 0) = false := by simpa using hE
    have hE3 : (putE k nl lc != 0) = true := by simp [hE]
    have hO : putO k nl lc [] = [] := by unfold putO; rw [if_neg hE]
    rw [hO] at o3
    have hn3 := own_nil o3
    subst hn3
    generalize putE k nl lc = E0 at *
    clear hE hO o3 hb3 c40 c41
    go_wp2_with fail
    with_reducible refine (works_yes _ HT3.out).mono ?_
    rintro e w8 ⟨rfl, hb8⟩
    have HB8 := Lib.hid (bon HB3.out hb8)
    clear hb8
    go_wp2
    go_ret
    exact ⟨rfl, HB8.out⟩
end Go.Proofs.YtfgpbnfobpfacaaGreatDoor
