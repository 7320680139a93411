/- The law GramTurned, walked. Conditions: none of its own; each lemma states what it asks. -/
import Derived.Test.YtegcbjkikhheiaaGreatDoorGm23
set_option linter.unusedVariables false
set_option linter.unusedSimpArgs false
namespace Go.Proofs.YtegcbjkikhheiaaGreatDoor
open Go.RowKit
set_option maxRecDepth 100000 in
set_option maxHeartbeats 8000000 in
theorem gramTurned_walk (A : Option Addr) (n c : Nat) (l : List Co) (v s : Int) (I : Option Addr) (m d : Nat) (li : List It) (ta tb : Int) (w : World) (hr : Reads w w.heap.size 7 A n (cos l)) (hn : n ≤ c) (hc : c ≤ maxLen) (hok : CoOk l)
    (hv : -9223372036854775808 ≤ v ∧ v ≤ 9223372036854775807) (hs : -9223372036854775808 ≤ s ∧ s ≤ 9223372036854775807) (hi : ItemsAt w w.heap.size I m li) (hm : m ≤ d) (hd : d ≤ maxLen) (hit : ItOk li)
    (hta : -9223372036854775808 ≤ ta ∧ ta ≤ 9223372036854775807) (htb : -9223372036854775808 ≤ tb ∧ tb ≤ 9223372036854775807) (hT : Tab2 w.heap.size w) :
    Calls Tryz.prog 7 #[.slice A n c, .agg #[.int .i64 v, .int .i64 s, .slice I m d], .agg #[.int .i64 ta, .int .i64 tb]] w fun e w' => e = .returned (.bool true) ∧ Below w.heap.size w w' := by
  have Hr := Lib.hid hr
  have HT := Lib.hid hT
  have Hi := Lib.hid hi
  have Hit := Lib.hid hit
  have Hs := Lib.hid hs.2
  have hmm : m ≤ maxLen := Nat.le_trans hm hd
  have HP := Lib.hid (Blk.new w 25 #[.int .i64 v, .int .i64 s, .slice I m d])
  have HB := Lib.hid (bal (Below.refl w.heap.size w) (.cells #[.int .i64 v, .int .i64 s, .slice I m d] 25))
  clear hr hT hi hit hs hv hm hd hok
  have Hta := Lib.hid hta
  have Htb := Lib.hid htb
  clear hta htb
  have HP := Lib.hid (HP.out.alloc (.cells #[.int .i64 ta, .int .i64 tb] 48))
  have HB := Lib.hid (bal HB.out (.cells #[.int .i64 ta, .int .i64 tb] 48))
  have HQ := Lib.hid (Blk.new (w.alloc (.cells #[.int .i64 v, .int .i64 s, .slice I m d] 25)) 48 #[.int .i64 ta, .int .i64 tb])
  rw [show (w.alloc (.cells #[.int .i64 v, .int .i64 s, .slice I m d] 25)).heap.size = w.heap.size + 1 by simp] at HQ
  go_enter Tryz.func7, Tryz.ntmps7
  go_wp2
  generalize hW : (w.alloc (.cells #[.int .i64 v, .int .i64 s, .slice I m d] 25)).alloc (.cells #[.int .i64 ta, .int .i64 tb] 48) = W1 at *
  clear hW
  have HL0 := Lib.hid (show ∀ w', Below W1.heap.size W1 w' → w'.cell? ⟨w.heap.size, 0, none⟩ = some (.int .i64 v) from fun w' h => (HP.out.on h).cell 0)
  have HL1 := Lib.hid (show ∀ w', Below W1.heap.size W1 w' → w'.cell? ⟨w.heap.size, 1, none⟩ = some (.int .i64 s) from fun w' h => (HP.out.on h).cell 1)
  have HL2 := Lib.hid (show ∀ w', Below W1.heap.size W1 w' → w'.cell? ⟨w.heap.size, 2, none⟩ = some (.slice I m d) from fun w' h => (HP.out.on h).cell 2)
  have hS : Below W1.heap.size W1 W1.drew := (Below.refl _ _).drew
  refine wp_region_phase (fun w' => Below W1.heap.size W1 w') [0, 2] [(0, false), (2, false), (1, true), (3, true)] (fun _ => True) [(4, false), (5, true)] (by kernel_rfl) (by kernel_rfl) (by kernel_rfl) (fun d _ _ _ _ h => by cases d <;> exact h) ?_
  refine phase_pure (v := ?_) rfl rfl (by simp [Region.wanted, yielded]) hS ?_ ?_
  rotate_left
  · intro w hw; go_simp; try with_reducible rfl
  try simp only [Act.put, List.setIfInBounds_toArray, List.set_cons_succ, List.set_cons_zero]
  refine phase_pure (v := ?_) rfl rfl (by simp [Region.wanted, yielded]) hS ?_ ?_
  rotate_left
  · intro w hw; have c0 := HL0.out w hw; have c1 := HL1.out w hw; have c2 := HL2.out w hw; clear hw; go_simp; try with_reducible rfl
  try simp only [Act.put, List.setIfInBounds_toArray, List.set_cons_succ, List.set_cons_zero]
  refine phase_eff1 rfl (by simp [Region.wanted, yielded]) fun K hK => ?_
  go_simp
  with_reducible refine (columns18_any A n c l _ (Hr.out.on (bon HB.out hS)) hn hc).mono ?_
  rintro e w2 ⟨A1, k1, c1, rfl, hk1, o1, hb2⟩
  have HS2 := Lib.hid (bon hS hb2)
  have HO := Lib.hid o1
  clear o1 hb2
  refine held_go hK (by exact HS2.out) fun hS => ?_
  clear hK K
  try simp only [Act.put, List.setIfInBounds_toArray, List.set_cons_succ, List.set_cons_zero]
  refine phase_eff1 rfl (by simp [Region.wanted, yielded]) fun K hK => ?_
  go_simp
  with_reducible refine (cut18_any v s I m d li _ (Hi.out.on (bon HB.out HS2.out)) hmm Hit.out).mono ?_
  rintro e w3 ⟨A3, k3, c3, rfl, o3, hb3⟩
  have HS3 := Lib.hid (bon HS2.out hb3)
  have HO := Lib.hid (own_below HO.out hb3)
  have HIo := Lib.hid o3
  clear o3 hb3
  refine held_go hK (by exact HS3.out) fun hS => ?_
  clear hK K
  try simp only [Act.put, List.setIfInBounds_toArray, List.set_cons_succ, List.set_cons_zero]
  refine phase_end ?_
  have HP3 := Lib.hid (HP.out.on HS3.out)
  have HBc := Lib.hid (bon HB.out HS3.out)
  clear hS HL0 HL1 HL2 HS2 HP
  have hS : True := trivial
  refine held_pure (v := ?_) rfl rfl (by simp [Region.wanted, yielded]) hS ?_ ?_
  rotate_left
  · intro w hw; go_simp; try with_reducible rfl
  try simp only [Act.put, List.setIfInBounds_toArray, List.set_cons_succ, List.set_cons_zero]
  have a0 := HP3.out.cell 0
  have a1 := HP3.out.cell 1
  have a2 := HP3.out.cell 2
  have f0 := HP3.out.frozen 0
  have f1 := HP3.out.frozen 1
  have f2 := HP3.out.frozen 2
  refine held_eff1 rfl (by simp [Region.wanted, yielded]) fun K hK => ?_
  go_simp
  clear a0 a1 a2 f0 f1 f2
  obtain ⟨w4, hw4⟩ : ∃ w4, w4 = ((w3.setCell ⟨w.heap.size, 0, none⟩ (.int .i64 v)).setCell ⟨w.heap.size, 1, none⟩ (.int .i64 s)).setCell ⟨w.heap.size, 2, none⟩ (.slice A3 k3 c3) := ⟨_, rfl⟩
  obtain ⟨g1, g2, g3, g4, g5, g6⟩ := box_put HP3.out HIo.out hw4
  have HQ := Lib.hid (g6 (HQ.out.on HS3.out) (by omega))
  rw [← hw4]
  have hk3 : k3 ≤ 30 := by
    have := HIo.out.len
    have := cutl_len li
    omega
  have H := Lib.hid (show LawB w A1 k1 (l.take 40) v s A3 k3 c3 (cutl li) w4 from ⟨HBc.out.trans (g3 _ (Nat.le_refl _)), g1, own_reads (g4 HO.out (by decide)), g2.at_, HT.out.on (HBc.out.trans (g3 _ (Nat.le_refl _))), hk1, hk3, cutl_ok Hit.out, Hs.out⟩)
  generalize l.take 40 = lc at H
  clear hw4 g1 g2 g3 g4 g5 g6 HP3 HO HIo HBc HS3
  refine held_go hK (by exact trivial) fun hS => ?_
  clear hK K
  try simp only [Act.put, List.setIfInBounds_toArray, List.set_cons_succ, List.set_cons_zero]
  refine held_end ?_
  clear HB Hr Hi Hit Hs
  generalize cutl li = lb at H
  have a0 := H.out.box.cell 0
  have a1 := H.out.box.cell 1
  have a2 := H.out.box.cell 2
  go_wp2_with fail
  with_reducible refine (benc_any A1 k1 c1 lc v s A3 k3 c3 lb _ H.out.cols H.out.max1 H.out.items H.out.max2 H.out.baok H.out.ok H.out.tab).mono ?_
  rintro e w5 ⟨hb5, ⟨hE, A5, c5, rfl, ho⟩ | ⟨hE, rfl⟩⟩
  · have hle := ((fits_iff _ _).1 hE).enc_le
    have h4 := encA_four lc (v, s, lb)
    have hcc := own_caps ho
    have htv := fun i x y => @turned_v lc (v, s, lb) hE i x y
    obtain ⟨xs, hxs⟩ : ∃ xs, encA lc (v, s, lb) = xs := ⟨_, rfl⟩
    rw [hxs] at ho hle h4 hcc htv ⊢
    obtain ⟨xl, hxl⟩ : ∃ xl, xs.length = xl := ⟨_, rfl⟩
    rw [hxl] at ho hle hcc h4 ⊢
    have HO := Lib.hid ho
    have HE0 := Lib.hid hE
    have Htv := Lib.hid htv
    have Hcc := Lib.hid hcc
    have Hxl := Lib.hid hxl
    have HB5 := Lib.hid hb5
    have HK := Lib.hid H.out
    have hq4 := HQ.out.lt
    replace HQ := Lib.hid (HQ.out.on hb5)
    replace H := Lib.hid (H.out.on hb5)
    have q0 := HQ.out.cell 0
    have d4 : decide ((xl : Int) < 4) = false := by simp; omega
    clear a0 a1 a2 ho hb5 hE hcc hxl htv hxs
    go_wp2_with fail
    have hm0 := Int.emod_nonneg ta (show (xl : Int) ≠ 0 by omega)
    have hm1 := Int.emod_lt_of_pos ta (show (0 : Int) < (xl : Int) by omega)
    obtain ⟨j, hj⟩ : ∃ j : Nat, ta % (xl : Int) = (j : Int) := ⟨(ta % (xl : Int)).toNat, by omega⟩
    rw [hj] at hm0 hm1
    have hjx : j < xl := by omega
    have Hj := Lib.hid hj
    clear hj hm0 hm1
    with_reducible refine (bring_any ta (xl : Int) _ Hta.out.1 Hta.out.2 (by omega) (by omega)).mono ?_
    rw [Hj.out]
    rintro e w6 ⟨rfl, rfl⟩
    clear q0
    go_wp2
    obtain ⟨g, rfl, hg, -, -, -⟩ := own_at HO.out (by omega)
    have hz0 := Int.emod_nonneg tb (show (255 : Int) ≠ 0 by omega)
    have hz1 := Int.emod_lt_of_pos tb (show (0 : Int) < 255 by omega)
    obtain ⟨z, hz⟩ : ∃ z : Nat, tb % 255 = (z : Int) := ⟨(tb % 255).toNat, by omega⟩
    rw [hz] at hz0 hz1
    have hz255 : z < 255 := by omega
    have Hz := Lib.hid hz
    clear hz hz0 hz1
    obtain ⟨x, hx⟩ : ∃ x, xs[j]? = some x := ⟨_, List.getElem?_eq_getElem (by rw [Hxl.out]; exact hjx)⟩
    obtain ⟨y, hy⟩ : ∃ y, x ^^^ UInt8.ofNat (1 + z) = y := ⟨_, rfl⟩
    have hxy : y ≠ x := by rw [← hy]; exact xor_ne x (1 + z) (by omega) (by omega)
    obtain ⟨r1, r2, r3, r4⟩ := Htv.out j x y hx hxy
    have Hr1 := Lib.hid r1
    have Hr2 := Lib.hid r2
    have Hr3 := Lib.hid r3
    have Hr4 := Lib.hid r4
    have cx1 : w5.cell? ⟨g, j, none⟩ = some (.int .u8 (x.toNat : Int)) := by
      rw [HO.out.cellAt j (by omega)]
      simp [u8s, hx]
    have fx1 := HO.out.frozenAt j
    have HO2 := Lib.hid (HO.out.stored j (.int .u8 (y.toNat : Int))).1
    rw [u8s_set] at HO2
    have hgq : g ≠ w.heap.size + 1 := by omega
    have HQ1 := Lib.hid (HQ.out.cell 1)
    have HB6 := Lib.hid (HB5.out.setCell (p := ⟨g, j, none⟩) hg (.int .u8 (y.toNat : Int)))
    have Hxv := Lib.hid (show bits .xor .u8 (x.toNat : Int) (IntKind.u8.wrap (IntKind.i64.wrap (1 + (z : Int)))) = (y.toNat : Int) by
      rw [← hy]
      rw [show IntKind.u8.wrap (IntKind.i64.wrap (1 + (z : Int))) = ((1 + z : Nat) : Int) by simp [IntKind.wrap, IntKind.signed, IntKind.bits]; omega]
      rw [u8_xor_nat _ _ x.toNat_lt (by omega), UInt8.toNat_xor, ofNat_toNat' _ (by omega)])
    clear hx r1 r2 r3 r4 H HO hy hxy
    have hS : w5.drew.cell? ⟨w.heap.size + 1, 1, none⟩ = some (.int .i64 tb) := HQ1.out
    have HLT : ∀ w' : World, w'.cell? ⟨w.heap.size + 1, 1, none⟩ = some (.int .i64 tb) → w'.cell? ⟨w.heap.size + 1, 1, none⟩ = some (.int .i64 tb) := fun _ h => h
    have HLT := Lib.hid HLT
    have cx1 : w5.drew.cell? ⟨g, j, none⟩ = some (.int .u8 (x.toNat : Int)) := cx1
    have fx1 : w5.drew.frozen? ⟨g, j, none⟩ = false := fx1
    have HS2 := Lib.hid (show (w5.setCell ⟨g, j, none⟩ (.int .u8 (y.toNat : Int))).drew.cell? ⟨w.heap.size + 1, 1, none⟩ = some (.int .i64 tb) from
      (World.cell?_setCell_other w5 _ _ _ (fun e => hgq (congrArg Addr.block e))).trans hS)
    have hjx2 : (j : Int) < (xl : Int) := by omega
    refine wp_region_plan (fun w' => w'.cell? ⟨w.heap.size + 1, 1, none⟩ = some (.int .i64 tb)) (.pure 0 (.pure 1 (.pure 2 (.pure 3 (.pure 4 (.pure 6 (.pure 7 (.fork 5 8 (.eff 8 (.pure 9 (.pure 10 (.pure 11 (.pure 12 (.eff 13 .done)))))) (.pure 9 (.pure 10 (.eff 5 (.pure 11 (.pure 12 (.eff 13 .done)))))))))))))) (by kernel_rfl) (by kernel_rfl) (by kernel_rfl) (fun d _ _ _ _ h => by cases d <;> exact h) ?_
    refine plan_pure (v := ?_) rfl rfl (by simp [Region.wanted, yielded]) hS ?_ ?_
    rotate_left
    · intro w hw; go_simp; try with_reducible rfl
    try simp only [Act.put, List.setIfInBounds_toArray, List.set_cons_succ, List.set_cons_zero]
    refine plan_pure (v := ?_) rfl rfl (by simp [Region.wanted, yielded]) hS ?_ ?_
    rotate_left
    · intro w hw; go_simp; try with_reducible rfl
    try simp only [Act.put, List.setIfInBounds_toArray, List.set_cons_succ, List.set_cons_zero]
    refine plan_pure (v := ?_) rfl rfl (by simp [Region.wanted, yielded]) hS ?_ ?_
    rotate_left
    · intro w hw; go_simp; try with_reducible rfl
    try simp only [Act.put, List.setIfInBounds_toArray, List.set_cons_succ, List.set_cons_zero]
    refine plan_pure (v := ?_) rfl rfl (by simp [Region.wanted, yielded]) hS ?_ ?_
    rotate_left
    · intro w hw; go_simp; try with_reducible rfl
    try simp only [Act.put, List.setIfInBounds_toArray, List.set_cons_succ, List.set_cons_zero]
    refine plan_pure (v := ?_) rfl rfl (by simp [Region.wanted, yielded]) hS ?_ ?_
    rotate_left
    · intro w hw; go_simp; try with_reducible rfl
    try simp only [Act.put, List.setIfInBounds_toArray, List.set_cons_succ, List.set_cons_zero]
    refine plan_pure (v := ?_) rfl rfl (by simp [Region.wanted, yielded]) hS ?_ ?_
    rotate_left
    · intro w hw; go_simp; try with_reducible rfl
    try simp only [Act.put, List.setIfInBounds_toArray, List.set_cons_succ, List.set_cons_zero]
    refine plan_pure (v := ?_) rfl rfl (by simp [Region.wanted, yielded]) hS ?_ ?_
    rotate_left
    · intro w hw; have c0 := HLT.out w hw; clear hw; go_simp; try with_reducible rfl
    try simp only [Act.put, List.setIfInBounds_toArray, List.set_cons_succ, List.set_cons_zero]
    refine plan_fork ?_ ?_
    refine plan_eff1 rfl (by simp [Region.wanted, yielded]) fun K hK => ?_
    go_simp
    refine held_go hK (by exact hS) fun hS => ?_
    clear hK K
    try simp only [Act.put, List.setIfInBounds_toArray, List.set_cons_succ, List.set_cons_zero]
    refine plan_eff1 rfl (by simp [Region.wanted, yielded]) fun K hK => ?_
    go_simp
    with_reducible refine (bring_any tb 255 _ Htb.out.1 Htb.out.2 (by decide) (by decide)).mono ?_
    rw [Hz.out]
    rintro e w7 ⟨rfl, rfl⟩
    refine held_go hK (by exact hS) fun hS => ?_
    clear hK K
    try simp only [Act.put, List.setIfInBounds_toArray, List.set_cons_succ, List.set_cons_zero]
    refine plan_pure (v := ?_) rfl rfl (by simp [Region.wanted, yielded]) hS ?_ ?_
    rotate_left
    · intro w hw; go_simp; try with_reducible rfl
    try simp only [Act.put, List.setIfInBounds_toArray, List.set_cons_succ, List.set_cons_zero]
    refine plan_pure (v := ?_) rfl rfl (by simp [Region.wanted, yielded]) hS ?_ ?_
    rotate_left
    · intro w hw; go_simp; try with_reducible rfl
    try simp only [Act.put, List.setIfInBounds_toArray, List.set_cons_succ, List.set_cons_zero]
    refine plan_pure (v := ?_) rfl rfl (by simp [Region.wanted, yielded]) hS ?_ ?_
    rotate_left
    · intro w hw; go_simp; try with_reducible rfl
    try simp only [Act.put, List.setIfInBounds_toArray, List.set_cons_succ, List.set_cons_zero]
    refine plan_pure (v := ?_) rfl rfl (by simp [Region.wanted, yielded]) hS ?_ ?_
    rotate_left
    · intro w hw; go_simp; try with_reducible rfl
    try simp only [Act.put, List.setIfInBounds_toArray, List.set_cons_succ, List.set_cons_zero]
    rw [Hxv.out]
    refine plan_eff1 rfl (by simp [Region.wanted, yielded]) fun K hK => ?_
    go_simp
    refine held_go hK (by exact HS2.out) fun hS => ?_
    clear hK K
    try simp only [Act.put, List.setIfInBounds_toArray, List.set_cons_succ, List.set_cons_zero]
    rotate_left
    refine plan_eff1 rfl (by simp [Region.wanted, yielded]) fun K hK => ?_
    go_simp
    with_reducible refine (bring_any tb 255 _ Htb.out.1 Htb.out.2 (by decide) (by decide)).mono ?_
    rw [Hz.out]
    rintro e w7 ⟨rfl, rfl⟩
    refine held_go hK (by exact hS) fun hS => ?_
    clear hK K
    try simp only [Act.put, List.setIfInBounds_toArray, List.set_cons_succ, List.set_cons_zero]
    refine plan_pure (v := ?_) rfl rfl (by simp [Region.wanted, yielded]) hS ?_ ?_
    rotate_left
    · intro w hw; go_simp; try with_reducible rfl
    try simp only [Act.put, List.setIfInBounds_toArray, List.set_cons_succ, List.set_cons_zero]
    refine plan_pure (v := ?_) rfl rfl (by simp [Region.wanted, yielded]) hS ?_ ?_
    rotate_left
    · intro w hw; go_simp; try with_reducible rfl
    try simp only [Act.put, List.setIfInBounds_toArray, List.set_cons_succ, List.set_cons_zero]
    refine plan_eff1 rfl (by simp [Region.wanted, yielded]) fun K hK => ?_
    go_simp
    refine held_go hK (by exact hS) fun hS => ?_
    clear hK K
    try simp only [Act.put, List.setIfInBounds_toArray, List.set_cons_succ, List.set_cons_zero]
    refine plan_pure (v := ?_) rfl rfl (by simp [Region.wanted, yielded]) hS ?_ ?_
    rotate_left
    · intro w hw; go_simp; try with_reducible rfl
    try simp only [Act.put, List.setIfInBounds_toArray, List.set_cons_succ, List.set_cons_zero]
    refine plan_pure (v := ?_) rfl rfl (by simp [Region.wanted, yielded]) hS ?_ ?_
    rotate_left
    · intro w hw; go_simp; try with_reducible rfl
    try simp only [Act.put, List.setIfInBounds_toArray, List.set_cons_succ, List.set_cons_zero]
    rw [Hxv.out]
    refine plan_eff1 rfl (by simp [Region.wanted, yielded]) fun K hK => ?_
    go_simp
    refine held_go hK (by exact HS2.out) fun hS => ?_
    clear hK K
    try simp only [Act.put, List.setIfInBounds_toArray, List.set_cons_succ, List.set_cons_zero]
    all_goals
      refine plan_end ?_
      obtain ⟨ys, hys⟩ : ∃ ys, xs.set j y = ys := ⟨_, rfl⟩
      have HO3 := Lib.hid (show (w5.setCell ⟨g, j, none⟩ (.int .u8 (y.toNat : Int))).drew.ownsRow w4.heap.size 5 1 (.slice (some ⟨g, 0, none⟩) xl c5) xl (u8s ys) by rw [← hys]; exact HO2.out)
      have HB7 := Lib.hid (show Below w4.heap.size w4 (w5.setCell ⟨g, j, none⟩ (.int .u8 (y.toNat : Int))).drew from HB6.out.drew)
      have Hr1 := Lib.hid (show whereV lc (v, s, lb) ys = (j : Int) by rw [← hys]; exact Hr1.out)
      have Hr3 := Lib.hid (show matchV lc (v, s, lb) ys = 4 by rw [← hys]; exact Hr3.out)
      have Htk := Lib.hid (show ys.take j = xs.take j by rw [← hys, List.take_set_of_le (Nat.le_refl _)])
      clear hys HO2 HB6 HS2 HLT hS cx1 fx1 Hxv
      generalize (w5.setCell ⟨g, j, none⟩ (.int .u8 (y.toNat : Int))).drew = w8 at *
      have H := Lib.hid (HK.out.on HB7.out)
      have HX := Lib.hid (own_reads HO3.out)
      have HXj := Lib.hid (show Reads w8 w8.heap.size 1 (some ⟨g, 0, none⟩) j (u8s (xs.take j)) by
        have := HX.out.head (k := j) (by omega)
        rwa [Nat.mul_one, u8s_take, Htk.out] at this)
      have hxm : xl ≤ maxLen := Nat.le_trans Hcc.out.1 Hcc.out.2
      have hjm : j ≤ maxLen := by omega
      have hjc : j ≤ c5 := by have := Hcc.out.1; omega
      have hji : (j : Int) ≤ (c5 : Int) := by omega
      have hc63 : c5 ≤ 9223372036854775807 := by have := Hcc.out.2; simp only [maxLen] at this; omega
      clear HK HB7 HO3 Htk
      have a0 := H.out.box.cell 0
      have a1 := H.out.box.cell 1
      have a2 := H.out.box.cell 2
      go_wp2_with fail
      with_reducible refine (gwhere_any A1 k1 c1 lc v s A3 k3 c3 lb (some ⟨g, 0, none⟩) xl c5 ys _ H.out.cols H.out.max1 H.out.items H.out.max2 H.out.sok H.out.ok HX.out hxm H.out.tab).mono ?_
      rw [Hr1.out, HE0.out]
      rintro e w9 ⟨rfl, hb9⟩
      replace H := Lib.hid (H.out.on hb9)
      replace HX := Lib.hid (HX.out.on hb9)
      replace HXj := Lib.hid (HXj.out.on hb9)
      clear hb9 a0 a1 a2
      go_wp2
      have HL0 := Lib.hid (show ∀ w', Below w9.heap.size w9 w' → w'.cell? ⟨w.heap.size, 0, none⟩ = some (.int .i64 v) from fun w' h => (H.out.box.on h).cell 0)
      have HL1 := Lib.hid (show ∀ w', Below w9.heap.size w9 w' → w'.cell? ⟨w.heap.size, 1, none⟩ = some (.int .i64 s) from fun w' h => (H.out.box.on h).cell 1)
      have HL2 := Lib.hid (show ∀ w', Below w9.heap.size w9 w' → w'.cell? ⟨w.heap.size, 2, none⟩ = some (.slice A3 k3 c3) from fun w' h => (H.out.box.on h).cell 2)
      have hS : Below w9.heap.size w9 w9.drew := (Below.refl _ _).drew
      refine wp_region_keep (fun w' => Below w9.heap.size w9 w') [(0, false), (1, false), (2, false), (3, false), (4, false), (5, true), (6, false), (7, false), (8, false), (9, false), (10, false)] (by kernel_rfl) (by kernel_rfl) (by kernel_rfl) (fun d _ _ _ _ h => by cases d <;> exact h) ?_
      refine held_pure (v := ?_) rfl rfl (by simp [Region.wanted, yielded]) hS ?_ ?_
      rotate_left
      · intro w hw; go_simp; try with_reducible rfl
      try simp only [Act.put, List.setIfInBounds_toArray, List.set_cons_succ, List.set_cons_zero]
      refine held_pure (v := ?_) rfl rfl (by simp [Region.wanted, yielded]) hS ?_ ?_
      rotate_left
      · intro w hw; have c0 := HL0.out w hw; have c1 := HL1.out w hw; have c2 := HL2.out w hw; clear hw; go_simp; try with_reducible rfl
      try simp only [Act.put, List.setIfInBounds_toArray, List.set_cons_succ, List.set_cons_zero]
      refine held_pure (v := ?_) rfl rfl (by simp [Region.wanted, yielded]) hS ?_ ?_
      rotate_left
      · intro w hw; go_simp; try with_reducible rfl
      try simp only [Act.put, List.setIfInBounds_toArray, List.set_cons_succ, List.set_cons_zero]
      refine held_pure (v := ?_) rfl rfl (by simp [Region.wanted, yielded]) hS ?_ ?_
      rotate_left
      · intro w hw; go_simp; try with_reducible rfl
      try simp only [Act.put, List.setIfInBounds_toArray, List.set_cons_succ, List.set_cons_zero]
      refine held_pure (v := ?_) rfl rfl (by simp [Region.wanted, yielded]) hS ?_ ?_
      rotate_left
      · intro w hw; go_simp; try with_reducible rfl
      try simp only [Act.put, List.setIfInBounds_toArray, List.set_cons_succ, List.set_cons_zero]
      refine held_eff1 rfl (by simp [Region.wanted, yielded]) fun K hK => ?_
      go_simp
      with_reducible refine (gwhere_any A1 k1 c1 lc v s A3 k3 c3 lb (some ⟨g, 0, none⟩) j c5 (xs.take j) _ (H.out.on hS).cols H.out.max1 (H.out.on hS).items H.out.max2 H.out.sok H.out.ok (HXj.out.on hS) hjm (H.out.on hS).tab).mono ?_
      rw [Hr2.out, HE0.out]
      rintro e w10 ⟨rfl, hb10⟩
      have HS10 := Lib.hid (bon hS hb10)
      clear hb10
      refine held_go hK (by exact HS10.out) fun hS => ?_
      clear hK K
      try simp only [Act.put, List.setIfInBounds_toArray, List.set_cons_succ, List.set_cons_zero]
      refine held_pure (v := ?_) rfl rfl (by simp [Region.wanted, yielded]) hS ?_ ?_
      rotate_left
      · intro w hw; go_simp; try with_reducible rfl
      try simp only [Act.put, List.setIfInBounds_toArray, List.set_cons_succ, List.set_cons_zero]
      refine held_pure (v := ?_) rfl rfl (by simp [Region.wanted, yielded]) hS ?_ ?_
      rotate_left
      · intro w hw; go_simp; try with_reducible rfl
      try simp only [Act.put, List.setIfInBounds_toArray, List.set_cons_succ, List.set_cons_zero]
      refine held_pure (v := ?_) rfl rfl (by simp [Region.wanted, yielded]) hS ?_ ?_
      rotate_left
      · intro w hw; go_simp; try with_reducible rfl
      try simp only [Act.put, List.setIfInBounds_toArray, List.set_cons_succ, List.set_cons_zero]
      refine held_pure (v := ?_) rfl rfl (by simp [Region.wanted, yielded]) hS ?_ ?_
      rotate_left
      · intro w hw; go_simp; try with_reducible rfl
      try simp only [Act.put, List.setIfInBounds_toArray, List.set_cons_succ, List.set_cons_zero]
      refine held_pure (v := ?_) rfl rfl (by simp [Region.wanted, yielded]) hS ?_ ?_
      rotate_left
      · intro w hw; go_simp; try with_reducible rfl
      try simp only [Act.put, List.setIfInBounds_toArray, List.set_cons_succ, List.set_cons_zero]
      refine held_end ?_
      replace H := Lib.hid (H.out.on HS10.out)
      replace HX := Lib.hid (HX.out.on HS10.out)
      replace HXj := Lib.hid (HXj.out.on HS10.out)
      clear HL0 HL1 HL2 HS10 hS
      go_wp2
      have HL0 := Lib.hid (show ∀ w', Below w10.heap.size w10 w' → w'.cell? ⟨w.heap.size, 0, none⟩ = some (.int .i64 v) from fun w' h => (H.out.box.on h).cell 0)
      have HL1 := Lib.hid (show ∀ w', Below w10.heap.size w10 w' → w'.cell? ⟨w.heap.size, 1, none⟩ = some (.int .i64 s) from fun w' h => (H.out.box.on h).cell 1)
      have HL2 := Lib.hid (show ∀ w', Below w10.heap.size w10 w' → w'.cell? ⟨w.heap.size, 2, none⟩ = some (.slice A3 k3 c3) from fun w' h => (H.out.box.on h).cell 2)
      have hS : Below w10.heap.size w10 w10.drew := (Below.refl _ _).drew
      refine wp_region_keep (fun w' => Below w10.heap.size w10 w') [(0, false), (1, false), (2, false), (3, false), (4, false), (5, false), (6, false), (7, false), (8, false), (9, false), (10, false), (11, false), (12, false), (13, false), (14, false), (15, false), (16, false), (17, false), (18, false), (19, false), (20, true), (21, false), (22, false), (23, false), (24, false), (25, false), (26, false), (27, false), (28, false), (29, true), (30, false), (31, false), (32, false), (33, true), (34, false), (35, false)] (by kernel_rfl) (by kernel_rfl) (by kernel_rfl) (fun d _ _ _ _ h => by cases d <;> exact h) ?_
      refine held_pure (v := ?_) rfl rfl (by simp [Region.wanted, yielded]) hS ?_ ?_
      rotate_left
      · intro w hw; go_simp; try with_reducible rfl
      try simp only [Act.put, List.setIfInBounds_toArray, List.set_cons_succ, List.set_cons_zero]
      refine held_pure (v := ?_) rfl rfl (by simp [Region.wanted, yielded]) hS ?_ ?_
      rotate_left
      · intro w hw; go_simp; try with_reducible rfl
      try simp only [Act.put, List.setIfInBounds_toArray, List.set_cons_succ, List.set_cons_zero]
      refine held_pure (v := ?_) rfl rfl (by simp [Region.wanted, yielded]) hS ?_ ?_
      rotate_left
      · intro w hw; go_simp; try with_reducible rfl
      try simp only [Act.put, List.setIfInBounds_toArray, List.set_cons_succ, List.set_cons_zero]
      refine held_pure (v := ?_) rfl rfl (by simp [Region.wanted, yielded]) hS ?_ ?_
      rotate_left
      · intro w hw; go_simp; try with_reducible rfl
      try simp only [Act.put, List.setIfInBounds_toArray, List.set_cons_succ, List.set_cons_zero]
      refine held_pure (v := ?_) rfl rfl (by simp [Region.wanted, yielded]) hS ?_ ?_
      rotate_left
      · intro w hw; go_simp; try with_reducible rfl
      try simp only [Act.put, List.setIfInBounds_toArray, List.set_cons_succ, List.set_cons_zero]
      refine held_pure (v := ?_) rfl rfl (by simp [Region.wanted, yielded]) hS ?_ ?_
      rotate_left
      · intro w hw; go_simp; try with_reducible rfl
      try simp only [Act.put, List.setIfInBounds_toArray, List.set_cons_succ, List.set_cons_zero]
      refine held_pure (v := ?_) rfl rfl (by simp [Region.wanted, yielded]) hS ?_ ?_
      rotate_left
      · intro w hw; go_simp; try with_reducible rfl
      try simp only [Act.put, List.setIfInBounds_toArray, List.set_cons_succ, List.set_cons_zero]
      refine held_pure (v := ?_) rfl rfl (by simp [Region.wanted, yielded]) hS ?_ ?_
      rotate_left
      · intro w hw; go_simp; try with_reducible rfl
      try simp only [Act.put, List.setIfInBounds_toArray, List.set_cons_succ, List.set_cons_zero]
      refine held_pure (v := ?_) rfl rfl (by simp [Region.wanted, yielded]) hS ?_ ?_
      rotate_left
      · intro w hw; go_simp; try with_reducible rfl
      try simp only [Act.put, List.setIfInBounds_toArray, List.set_cons_succ, List.set_cons_zero]
      refine held_pure (v := ?_) rfl rfl (by simp [Region.wanted, yielded]) hS ?_ ?_
      rotate_left
      · intro w hw; go_simp; try with_reducible rfl
      try simp only [Act.put, List.setIfInBounds_toArray, List.set_cons_succ, List.set_cons_zero]
      refine held_pure (v := ?_) rfl rfl (by simp [Region.wanted, yielded]) hS ?_ ?_
      rotate_left
      · intro w hw; go_simp; try with_reducible rfl
      try simp only [Act.put, List.setIfInBounds_toArray, List.set_cons_succ, List.set_cons_zero]
      refine held_pure (v := ?_) rfl rfl (by simp [Region.wanted, yielded]) hS ?_ ?_
      rotate_left
      · intro w hw; go_simp; try with_reducible rfl
      try simp only [Act.put, List.setIfInBounds_toArray, List.set_cons_succ, List.set_cons_zero]
      refine held_pure (v := ?_) rfl rfl (by simp [Region.wanted, yielded]) hS ?_ ?_
      rotate_left
      · intro w hw; go_simp; try with_reducible rfl
      try simp only [Act.put, List.setIfInBounds_toArray, List.set_cons_succ, List.set_cons_zero]
      refine held_pure (v := ?_) rfl rfl (by simp [Region.wanted, yielded]) hS ?_ ?_
      rotate_left
      · intro w hw; go_simp; try with_reducible rfl
      try simp only [Act.put, List.setIfInBounds_toArray, List.set_cons_succ, List.set_cons_zero]
      refine held_pure (v := ?_) rfl rfl (by simp [Region.wanted, yielded]) hS ?_ ?_
      rotate_left
      · intro w hw; go_simp; try with_reducible rfl
      try simp only [Act.put, List.setIfInBounds_toArray, List.set_cons_succ, List.set_cons_zero]
      refine held_pure (v := ?_) rfl rfl (by simp [Region.wanted, yielded]) hS ?_ ?_
      rotate_left
      · intro w hw; go_simp; try with_reducible rfl
      try simp only [Act.put, List.setIfInBounds_toArray, List.set_cons_succ, List.set_cons_zero]
      refine held_pure (v := ?_) rfl rfl (by simp [Region.wanted, yielded]) hS ?_ ?_
      rotate_left
      · intro w hw; go_simp; try with_reducible rfl
      try simp only [Act.put, List.setIfInBounds_toArray, List.set_cons_succ, List.set_cons_zero]
      refine held_pure (v := ?_) rfl rfl (by simp [Region.wanted, yielded]) hS ?_ ?_
      rotate_left
      · intro w hw; go_simp; try with_reducible rfl
      try simp only [Act.put, List.setIfInBounds_toArray, List.set_cons_succ, List.set_cons_zero]
      refine held_pure (v := ?_) rfl rfl (by simp [Region.wanted, yielded]) hS ?_ ?_
      rotate_left
      · intro w hw; have c0 := HL0.out w hw; have c1 := HL1.out w hw; have c2 := HL2.out w hw; clear hw; go_simp; try with_reducible rfl
      try simp only [Act.put, List.setIfInBounds_toArray, List.set_cons_succ, List.set_cons_zero]
      refine held_pure (v := ?_) rfl rfl (by simp [Region.wanted, yielded]) hS ?_ ?_
      rotate_left
      · intro w hw; go_simp; try with_reducible rfl
      try simp only [Act.put, List.setIfInBounds_toArray, List.set_cons_succ, List.set_cons_zero]
      refine held_eff1 rfl (by simp [Region.wanted, yielded]) fun K hK => ?_
      go_simp
      with_reducible refine (gmatch_any A1 k1 c1 lc v s A3 k3 c3 lb (some ⟨g, 0, none⟩) xl c5 ys _ (H.out.on hS).cols H.out.max1 (H.out.on hS).items H.out.max2 H.out.sok H.out.ok (HX.out.on hS) hxm (H.out.on hS).tab).mono ?_
      rw [Hr3.out]
      rintro e w11 ⟨rfl, hb11⟩
      have HS11 := Lib.hid (bon hS hb11)
      clear hb11
      refine held_go hK (by exact HS11.out) fun hS => ?_
      clear hK K
      try simp only [Act.put, List.setIfInBounds_toArray, List.set_cons_succ, List.set_cons_zero]
      refine held_pure (v := ?_) rfl rfl (by simp [Region.wanted, yielded]) hS ?_ ?_
      rotate_left
      · intro w hw; go_simp; try with_reducible rfl
      try simp only [Act.put, List.setIfInBounds_toArray, List.set_cons_succ, List.set_cons_zero]
      refine held_pure (v := ?_) rfl rfl (by simp [Region.wanted, yielded]) hS ?_ ?_
      rotate_left
      · intro w hw; go_simp; try with_reducible rfl
      try simp only [Act.put, List.setIfInBounds_toArray, List.set_cons_succ, List.set_cons_zero]
      refine held_pure (v := ?_) rfl rfl (by simp [Region.wanted, yielded]) hS ?_ ?_
      rotate_left
      · intro w hw; go_simp; try with_reducible rfl
      try simp only [Act.put, List.setIfInBounds_toArray, List.set_cons_succ, List.set_cons_zero]
      refine held_pure (v := ?_) rfl rfl (by simp [Region.wanted, yielded]) hS ?_ ?_
      rotate_left
      · intro w hw; go_simp; try with_reducible rfl
      try simp only [Act.put, List.setIfInBounds_toArray, List.set_cons_succ, List.set_cons_zero]
      refine held_pure (v := ?_) rfl rfl (by simp [Region.wanted, yielded]) hS ?_ ?_
      rotate_left
      · intro w hw; have c0 := HL0.out w hw; have c1 := HL1.out w hw; have c2 := HL2.out w hw; clear hw; go_simp; try with_reducible rfl
      try simp only [Act.put, List.setIfInBounds_toArray, List.set_cons_succ, List.set_cons_zero]
      refine held_pure (v := ?_) rfl rfl (by simp [Region.wanted, yielded]) hS ?_ ?_
      rotate_left
      · intro w hw; go_simp; try with_reducible rfl
      try simp only [Act.put, List.setIfInBounds_toArray, List.set_cons_succ, List.set_cons_zero]
      refine held_pure (v := ?_) rfl rfl (by simp [Region.wanted, yielded]) hS ?_ ?_
      rotate_left
      · intro w hw; go_simp; try with_reducible rfl
      try simp only [Act.put, List.setIfInBounds_toArray, List.set_cons_succ, List.set_cons_zero]
      refine held_pure (v := ?_) rfl rfl (by simp [Region.wanted, yielded]) hS ?_ ?_
      rotate_left
      · intro w hw; go_simp; try with_reducible rfl
      try simp only [Act.put, List.setIfInBounds_toArray, List.set_cons_succ, List.set_cons_zero]
      refine held_eff1 rfl (by simp [Region.wanted, yielded]) fun K hK => ?_
      go_simp
      with_reducible refine (gmatch_any A1 k1 c1 lc v s A3 k3 c3 lb (some ⟨g, 0, none⟩) j c5 (xs.take j) _ (H.out.on hS).cols H.out.max1 (H.out.on hS).items H.out.max2 H.out.sok H.out.ok (HXj.out.on hS) hjm (H.out.on hS).tab).mono ?_
      rw [Hr4.out]
      rintro e w12 ⟨rfl, hb12⟩
      have HS12 := Lib.hid (bon hS hb12)
      clear hb12
      refine held_go hK (by exact HS12.out) fun hS => ?_
      clear hK K
      try simp only [Act.put, List.setIfInBounds_toArray, List.set_cons_succ, List.set_cons_zero]
      refine held_pure (v := ?_) rfl rfl (by simp [Region.wanted, yielded]) hS ?_ ?_
      rotate_left
      · intro w hw; go_simp; try with_reducible rfl
      try simp only [Act.put, List.setIfInBounds_toArray, List.set_cons_succ, List.set_cons_zero]
      refine held_pure (v := ?_) rfl rfl (by simp [Region.wanted, yielded]) hS ?_ ?_
      rotate_left
      · intro w hw; go_simp; try with_reducible rfl
      try simp only [Act.put, List.setIfInBounds_toArray, List.set_cons_succ, List.set_cons_zero]
      refine held_pure (v := ?_) rfl rfl (by simp [Region.wanted, yielded]) hS ?_ ?_
      rotate_left
      · intro w hw; go_simp; try with_reducible rfl
      try simp only [Act.put, List.setIfInBounds_toArray, List.set_cons_succ, List.set_cons_zero]
      refine held_eff1 rfl (by simp [Region.wanted, yielded]) fun K hK => ?_
      go_simp
      with_reducible refine (gworks_yes _ (H.out.on hS).tab).mono ?_
      rintro e w13 ⟨rfl, hb13⟩
      have HS13 := Lib.hid (bon hS hb13)
      clear hb13
      refine held_go hK (by exact HS13.out) fun hS => ?_
      clear hK K
      try simp only [Act.put, List.setIfInBounds_toArray, List.set_cons_succ, List.set_cons_zero]
      refine held_pure (v := ?_) rfl rfl (by simp [Region.wanted, yielded]) hS ?_ ?_
      rotate_left
      · intro w hw; go_simp; try with_reducible rfl
      try simp only [Act.put, List.setIfInBounds_toArray, List.set_cons_succ, List.set_cons_zero]
      refine held_pure (v := ?_) rfl rfl (by simp [Region.wanted, yielded]) hS ?_ ?_
      rotate_left
      · intro w hw; go_simp; try with_reducible rfl
      try simp only [Act.put, List.setIfInBounds_toArray, List.set_cons_succ, List.set_cons_zero]
      refine held_end ?_
      go_wp2
      go_ret
      exact ⟨rfl, bon H.out.below HS13.out⟩
  · replace H := Lib.hid (H.out.on hb5)
    generalize batE lc (v, s, lb) = E at *
    have d1 : (E != 0) = true := by simpa using hE
    clear hb5 hE a0 a1 a2 HQ
    go_wp2_with fail
    with_reducible refine (gworks_yes _ H.out.tab).mono ?_
    rintro e w9 ⟨rfl, hb9⟩
    replace H := Lib.hid (H.out.on hb9)
    clear hb9
    go_wp2
    go_ret
    exact ⟨rfl, H.out.below⟩
end Go.Proofs.YtegcbjkikhheiaaGreatDoor
