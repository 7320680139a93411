/- The law ColCut, walked. -/
import Derived.Test.YtfgpbnfobpfacaaGreatDoorPart21
set_option linter.unusedVariables false
set_option linter.unusedSimpArgs false
namespace Go.Proofs.YtfgpbnfobpfacaaGreatDoor
open Go.RowKit
set_option maxRecDepth 100000 in
set_option maxHeartbeats 2000000 in
theorem colCut_walk (k : Int) (nl : Bool) (B : Option Addr) (m cb : Nat) (l : List Cl) (at2 : Int) (w : World) (hr2 : Reads w w.heap.size 3 B m (cls l)) (hm : m ≤ cb) (hcb : cb ≤ maxLen) (hok : ClOk l) (ha1 : -9223372036854775808 ≤ at2) (ha2 : at2 ≤ 9223372036854775807) (hT : Tabs w) :
    Calls Tryz.prog 9 #[.agg #[.int .i64 k, .bool nl], .slice B m cb, .int .i64 at2] w fun e w' => e = .returned (.bool true) ∧ Below w.heap.size w w' := by
  have Hok := Lib.hid hok
  have HT := Lib.hid hT
  have hbA := (Below.refl w.heap.size w).alloc (Nat.le_refl _) (.cells #[.int .i64 k, .bool nl] 24)
  have B4 := Lib.hid (Blk.new w 24 #[.int .i64 k, .bool nl])
  have hcl := cutC_len l
  have Hm := Lib.hid (Nat.le_trans hm hcb)
  have Ha := Lib.hid (And.intro ha1 ha2)
  clear hok hT hcb ha1 ha2
  go_enter Tryz.func9, Tryz.ntmps9
  go_wp2_with fail
  with_reducible refine (cutC_any B m cb l _ (hr2.al _) Hm.out Hok.out).mono ?_
  rintro e w2 ⟨A2, c2, rfl, g1, g2, o2, hb2⟩
  have Hok2 := Lib.hid (cutC_ok l Hok.out)
  generalize hin : cutC l = lc at *
  have r2 := own_reads o2
  have hlc : lc.length ≤ 60 := by omega
  have B5 := Lib.hid (B4.out.on hb2)
  have c40 := B5.out.cell 0
  have c41 := B5.out.cell 1
  have HB2 := Lib.hid (bon hbA hb2)
  clear hin hcl hb2 hbA
  go_wp2_with fail
  with_reducible refine (cput_any none 0 0 [] k nl A2 lc.length c2 lc _ Reads.none_ (by omega) r2 (by omega) Hok2.out (HT.out.on HB2.out)).mono ?_
  rintro e w3 ⟨A3, n3, c3, rfl, g3, g4, o3, hb3⟩
  have B6 := Lib.hid (B5.out.on hb3)
  have HB3 := Lib.hid (bon HB2.out hb3)
  have HT3 := Lib.hid (HT.out.on HB3.out)
  have G := Lib.hid (And.intro g3 g4)
  by_cases hE : putE k nl lc = 0
  · obtain ⟨hk, ha⟩ := putE_zero hE
    rw [putO_ok [] hE] at o3
    have hlen : (putB k nl lc []).length = n3 := reads_len (own_reads o3)
    rw [hE]
    by_cases hn0 : n3 = 0
    · subst hn0
      clear hE o3 hb3 c40 c41 ha hk hlen
      go_wp2_with fail
      with_reducible refine (works_yes _ HT3.out).mono ?_
      rintro e w8 ⟨rfl, hb8⟩
      have HB8 := Lib.hid (bon HB3.out hb8)
      clear hb8
      go_wp2
      go_ret
      exact ⟨rfl, HB8.out⟩
    · have hn0b : ((n3 : Int) == 0) = false := by simp; omega
      have Hgp := Lib.hid (fun j (hj : j < n3) => getC_cut k nl lc hk ha (by omega) j (by rw [hlen]; exact hj))
      have HO := Lib.hid (Reads.of_own o3)
      generalize putB k nl lc [] = pb at *
      have hn3m : n3 ≤ 9223372036854775807 := by simp only [maxLen] at g4; omega
      have hc3m : c3 ≤ 9223372036854775807 := by simp only [maxLen] at g4; omega
      clear hE ha hk o3 hb3 c40 c41 hlen r2 g4
      go_wp2
      have hS : Below w3.heap.size w3 w3.drew := (Below.refl _ _).drew
      have HK0 := Lib.hid (show ∀ w', Below w3.heap.size w3 w' → w'.cell? ⟨w.heap.size, 0, none⟩ = some (.int .i64 k) from fun w' h => (B6.out.on h).cell 0)
      have HK1 := Lib.hid (show ∀ w', Below w3.heap.size w3 w' → w'.cell? ⟨w.heap.size, 1, none⟩ = some (.bool nl) from fun w' h => (B6.out.on h).cell 1)
      refine wp_region_keep (fun w' => Below w3.heap.size w3 w') [(0, false), (1, false), (2, false), (3, false), (6, false), (7, false), (8, false), (4, true), (5, false), (9, true), (10, false), (11, false), (12, false), (13, false), (14, false), (15, false), (16, false)] (by kernel_rfl) (by kernel_rfl) (by kernel_rfl) (fun d _ _ _ _ h => by cases d <;> exact h) ?_
      refine held_pure (v := ?_) rfl rfl (by simp [Region.wanted, yielded]) hS ?_ ?_
      rotate_left
      · intro w hw; go_simp; try with_reducible rfl
      try simp only [Act.put, List.setIfInBounds_toArray, List.set_cons_succ, List.set_cons_zero]
      refine held_pure (v := ?_) rfl rfl (by simp [Region.wanted, yielded]) hS ?_ ?_
      rotate_left
      · intro w hw; go_simp; try with_reducible rfl
      try simp only [Act.put, List.setIfInBounds_toArray, List.set_cons_succ, List.set_cons_zero]
      refine held_pure (v := ?_) rfl rfl (by simp [Region.wanted, yielded]) hS ?_ ?_
      rotate_left
      · intro w hw; go_simp; try with_reducible rfl
      try simp only [Act.put, List.setIfInBounds_toArray, List.set_cons_succ, List.set_cons_zero]
      refine held_pure (v := ?_) rfl rfl (by simp [Region.wanted, yielded]) hS ?_ ?_
      rotate_left
      · intro w hw; go_simp; try with_reducible rfl
      try simp only [Act.put, List.setIfInBounds_toArray, List.set_cons_succ, List.set_cons_zero]
      refine held_pure (v := ?_) rfl rfl (by simp [Region.wanted, yielded]) hS ?_ ?_
      rotate_left
      · intro w hw; have c0 := HK0.out w hw; have c1 := HK1.out w hw; clear hw; go_simp; try with_reducible rfl
      try simp only [Act.put, List.setIfInBounds_toArray, List.set_cons_succ, List.set_cons_zero]
      refine held_pure (v := ?_) rfl rfl (by simp [Region.wanted, yielded]) hS ?_ ?_
      rotate_left
      · intro w hw; go_simp; try with_reducible rfl
      try simp only [Act.put, List.setIfInBounds_toArray, List.set_cons_succ, List.set_cons_zero]
      refine held_pure (v := ?_) rfl rfl (by simp [Region.wanted, yielded]) hS ?_ ?_
      rotate_left
      · intro w hw; go_simp; try with_reducible rfl
      try simp only [Act.put, List.setIfInBounds_toArray, List.set_cons_succ, List.set_cons_zero]
      refine held_eff1 rfl (by simp [Region.wanted, yielded]) fun K hK => ?_
      go_simp
      with_reducible refine (bring_any at2 n3 _ Ha.out.1 Ha.out.2 (by omega) (by omega)).mono ?_
      have hjx : ∃ j : Nat, at2 % (n3 : Int) = (j : Int) ∧ j < n3 := by
        have h1 := Int.emod_nonneg at2 (by omega : (n3 : Int) ≠ 0)
        have h2 := Int.emod_lt_of_pos at2 (by omega : (0 : Int) < (n3 : Int))
        exact ⟨(at2 % (n3 : Int)).toNat, by omega, by omega⟩
      obtain ⟨j, hj, hjn⟩ := hjx
      rw [hj]
      rintro e w4 ⟨rfl, rfl⟩
      have Hj := Lib.hid hj
      have hjc : j ≤ c3 := by have := G.out.1; omega
      have d3 : ((j : Nat) : Int).toNat = j := by simp
      have hcut := HO.out.head (k := j) (by omega)
      rw [Nat.mul_one, u8s_take] at hcut
      have Hcut := Lib.hid hcut
      clear hj hcut
      refine held_go hK (by exact hS) fun hS => ?_
      clear hK K
      try simp only [Act.put, List.setIfInBounds_toArray, List.set_cons_succ, List.set_cons_zero]
      refine held_pure (v := ?_) rfl rfl (by simp [Region.wanted, yielded]) hS ?_ ?_
      rotate_left
      · intro w hw; go_simp; try with_reducible rfl
      try simp only [Act.put, List.setIfInBounds_toArray, List.set_cons_succ, List.set_cons_zero]
      refine held_eff1 rfl (by simp [Region.wanted, yielded]) fun K hK => ?_
      go_simp
      with_reducible refine (cget_any A3 j c3 (pb.take j) k nl lc.length _ (Hcut.out.on hS) hjc G.out.2 (HT3.out.on hS)).mono ?_
      rintro e w6 ⟨hb6, hm6⟩
      rw [Hgp.out j hjn] at hm6
      obtain ⟨rfl, -⟩ := hm6
      refine held_go hK (by exact bon hS hb6) fun hS => ?_
      clear hK K
      try simp only [Act.put, List.setIfInBounds_toArray, List.set_cons_succ, List.set_cons_zero]
      clear hb6
      refine held_pure (v := ?_) rfl rfl (by simp [Region.wanted, yielded]) hS ?_ ?_
      rotate_left
      · intro w hw; go_simp; try with_reducible rfl
      try simp only [Act.put, List.setIfInBounds_toArray, List.set_cons_succ, List.set_cons_zero]
      refine held_pure (v := ?_) rfl rfl (by simp [Region.wanted, yielded]) hS ?_ ?_
      rotate_left
      · intro w hw; go_simp; try with_reducible rfl
      try simp only [Act.put, List.setIfInBounds_toArray, List.set_cons_succ, List.set_cons_zero]
      refine held_pure (v := ?_) rfl rfl (by simp [Region.wanted, yielded]) hS ?_ ?_
      rotate_left
      · intro w hw; go_simp; try with_reducible rfl
      try simp only [Act.put, List.setIfInBounds_toArray, List.set_cons_succ, List.set_cons_zero]
      refine held_pure (v := ?_) rfl rfl (by simp [Region.wanted, yielded]) hS ?_ ?_
      rotate_left
      · intro w hw; go_simp; try with_reducible rfl
      try simp only [Act.put, List.setIfInBounds_toArray, List.set_cons_succ, List.set_cons_zero]
      refine held_pure (v := ?_) rfl rfl (by simp [Region.wanted, yielded]) hS ?_ ?_
      rotate_left
      · intro w hw; go_simp; try with_reducible rfl
      try simp only [Act.put, List.setIfInBounds_toArray, List.set_cons_succ, List.set_cons_zero]
      refine held_pure (v := ?_) rfl rfl (by simp [Region.wanted, yielded]) hS ?_ ?_
      rotate_left
      · intro w hw; go_simp; try with_reducible rfl
      try simp only [Act.put, List.setIfInBounds_toArray, List.set_cons_succ, List.set_cons_zero]
      refine held_pure (v := ?_) rfl rfl (by simp [Region.wanted, yielded]) hS ?_ ?_
      rotate_left
      · intro w hw; go_simp; try with_reducible rfl
      try simp only [Act.put, List.setIfInBounds_toArray, List.set_cons_succ, List.set_cons_zero]
      refine held_end ?_
      have HB6 := Lib.hid (bon HB3.out hS)
      clear hS HK0 HK1
      go_wp2_with fail
      with_reducible refine (works_yes _ (HT.out.on HB6.out)).mono ?_
      rintro e w8 ⟨rfl, hb8⟩
      have HB8 := Lib.hid (bon HB6.out hb8)
      clear hb8
      go_wp2
      go_ret
      exact ⟨rfl, HB8.out⟩
  · have hE2 : (putE k nl lc == 0) = false := by simpa using hE
    have hE3 : (putE k nl lc != 0) = true := by simp [hE]
    rw [putO_bad [] hE] at o3
    have hn3 := own_nil o3
    subst hn3
    generalize putE k nl lc = E0 at *
    clear hE o3 hb3 c40 c41
    go_wp2_with fail
    with_reducible refine (works_yes _ HT3.out).mono ?_
    rintro e w8 ⟨rfl, hb8⟩
    have HB8 := Lib.hid (bon HB3.out hb8)
    clear hb8
    go_wp2
    go_ret
    exact ⟨rfl, HB8.out⟩
end Go.Proofs.YtfgpbnfobpfacaaGreatDoor
