/- The law PackReads, walked. -/
import Derived.Test.YtnkkhplddjopnaaPackBoth
set_option linter.unusedVariables false
set_option linter.unusedSimpArgs false
namespace Go.Proofs.Ytnkkhplddjopnaa
open Go.RowKit
set_option maxRecDepth 100000 in
set_option maxHeartbeats 4000000 in
theorem packReads_walk (A0 : Option Addr) (n0 c0 : Nat) (x0 : List UInt8) (A : Option Addr) (n c : Nat) (l : List (Int × Int)) (w : World)
    (hr0 : Reads w w.heap.size 1 A0 n0 (u8s x0)) (hl0 : n0 ≤ c0) (hc0 : c0 ≤ maxLen)
    (hr : Reads w w.heap.size 2 A n (aks l)) (hl : n ≤ c) (hc : c ≤ maxLen) (hok : AkOk l) :
    Calls Try.prog 4 #[.slice A0 n0 c0, .slice A n c] w fun e w' => e = .returned (.bool true) ∧ Below w.heap.size w w' := by
  obtain ⟨base, hbase⟩ : ∃ g, g = w.heap.size := ⟨_, rfl⟩
  have Hz := Lib.hid (Nat.le_of_eq hbase)
  obtain ⟨m, hm⟩ : ∃ m, min n0 300 = m := ⟨_, rfl⟩
  have hmI : min (n0 : Int) 300 = (m : Int) := by omega
  have hm0 : m ≤ n0 := by omega
  have hmc : m ≤ c0 := by omega
  have hm300 : m ≤ 300 := by omega
  have hh := hr0.head hm0
  rw [Nat.mul_one, u8s_take] at hh
  generalize x0.take m = xs at hh
  have hxl := reads_len hh
  have Hxl := Lib.hid (show xs.length ≤ 1099511627776 by omega)
  have Hcopy := Lib.hid (copyBytes_any A0 m c0 xs w hh (by omega))
  have Hok := Lib.hid hok
  have Hm := Lib.hid (show m ≤ 35184372088832 by omega)
  have Hm3 := Lib.hid (show m ≤ 1099511627776 by omega)
  rw [← hbase] at hr ⊢
  have Hr := Lib.hid hr
  clear hm hh hxl hr0 hok hr hm300
  go_enter Try.func4, Try.ntmps4
  go_wp2_with fail
  with_reducible refine (Hcopy.out).mono ?_
  rintro e w1 ⟨A1, c1, rfl, k1, k2, o1, hb1⟩
  rw [← hbase] at o1 hb1
  have hs1 := Nat.le_trans Hz.out hb1.size
  have r1 := own_reads o1
  clear hbase Hcopy
  go_wp2_with fail
  with_reducible refine (pnew2_any A1 m c1 xs _ r1 Hm.out).mono ?_
  rintro e w2 ⟨g1, rfl, hg1, hp, hb2, hfar⟩
  have r2 := r1.on hb2
  go_wp2_with fail
  with_reducible refine (rnew2_any A1 m c1 xs _ r2 Hm.out).mono ?_
  rintro e w3 ⟨g2, rfl, hg2, hq, hb3, hfar2⟩
  have HP := Lib.hid (hp.on hb3)
  have Hp := Lib.hid hp
  have o3 := own_below (own_below o1 hb2) hb3
  have Hgg := Lib.hid (Nat.lt_of_lt_of_le hp.lt hg2)
  have Ho3 := Lib.hid o3
  have Ho1 := Lib.hid o1
  have Hfar := Lib.hid hfar
  have Hfar2 := Lib.hid hfar2
  have Hq := Lib.hid hq
  have Hb1 := Lib.hid hb1
  have Hb2 := Lib.hid hb2
  have Hb3 := Lib.hid hb3
  clear hp hq hfar hfar2 o1 o3 r1 r2 hb1 hb2 hb3
  go_wp2_with fail
  with_reducible refine (spoil2_any A1 m c1 base xs _ Ho3.out Hm3.out).mono ?_
  rintro e w4 ⟨rfl, hsp⟩
  have hs3 : base ≤ w3.heap.size := Nat.le_trans hs1 (Nat.le_trans Hb2.out.size Hb3.out.size)
  have hg1b : base ≤ g1 := Nat.le_trans hs1 hg1
  have hst : RBoth w4 g1 g2 xs 0 0 0 0 ∧ Below base w w4 := by
    have hb13 : Below base w w3 := Hb1.out.trans ((Hb2.out.mono hs1).trans (Hb3.out.mono (Nat.le_trans hs1 Hb2.out.size)))
    rcases hsp with rfl | ⟨k, hk, hgr⟩
    · exact ⟨⟨Hgg.out, HP.out, Hq.out⟩, hb13⟩
    · obtain ⟨hk1, hk2⟩ := Ho1.out.lt k hk
      exact ⟨⟨Hgg.out, Hfar.out _ _ ((below_grown Hb3.out).trans hgr) hk2, Hfar2.out _ _ hgr (Nat.lt_of_lt_of_le hk2 Hb2.out.size)⟩, hb13.trans (grown_under hgr hs3 hk1)⟩
  have hs4 : base ≤ w4.heap.size := Nat.le_trans Hz.out hst.2.size
  obtain ⟨HB, hb⟩ := hst
  clear hsp hs3 hs1 hg1 hg2 HP Hp Hfar Hfar2 Hq Hb1 Hb2 Hb3 Ho1 Ho3 Hgg k1 k2 hmI hm0 hmc Hm Hm3
  go_wp2
  go_loopw [8] (fun i wr => ∃ (k p e : Nat), k ≤ n ∧ k ≤ 40 ∧ i = .int .i64 (k : Int) ∧ RBoth wr g1 g2 xs p e p e ∧ Below base w wr) (fun i _ => n - (intOf i).toNat)
  case atStart => exact ⟨0, 0, 0, Nat.zero_le _, Nat.zero_le _, rfl, HB, hb⟩
  case round =>
    clear HB hb hs4
    obtain ⟨k, p, e, hk, hk40, rfl, HB, hb⟩ := hrel
    by_cases hlt : k < n
    · have d1 : decide ((k : Int) < (n : Int)) = true := by simp; omega
      by_cases hlt4 : k < 40
      · have d2 : decide ((k : Int) < 40) = true := by simp; omega
        have hsz := Nat.le_trans Hz.out hb.size
        obtain ⟨ad, ⟨kind, num⟩, rfl, had, hlk, hcell⟩ := aks_at (Hr.out.below hb) hlt
        obtain ⟨o1, o2, o3, o4⟩ := Hok.out _ (List.mem_of_getElem? hlk)
        simp only [] at o1 o2 o3 o4 hcell
        have e0 := hcell 0 _ rfl
        have e1 := hcell 1 _ rfl
        rw [add_zero3] at e0
        rw [add_pos3 _ _ (by decide)] at e1
        have Hb := Lib.hid hb
        have hc1 := pasked_any g1 xs p e kind num wr HB.p Hxl.out o1 o2 o3 o4
        have Hc2 := Lib.hid (fun w1 (hw : RRd w1 g2 xs p e) => rasked_any g2 xs p e kind num w1 hw Hxl.out o1 o2 o3 o4)
        generalize askA xs p e (kind % 8) num = r at *
        obtain ⟨an, sn, p', e'⟩ := r
        simp only [] at hc1 Hc2
        have Hc1 := Lib.hid hc1
        have HB1 := Lib.hid HB
        clear hlk hcell hc1 HB hb
        go_wp2_with fail
        with_reducible refine Hc1.out.mono ?_
        rintro e w5 hw
        obtain ⟨rfl, hb5, HB2⟩ := HB1.out.one hw hsz hg1b
        replace e0 := (hb5.cell (p := ad.add (k * 2)) (by rw [block_of_add]; exact had)).trans e0
        replace e1 := (hb5.cell (p := ⟨(ad.add (k * 2)).block, (ad.add (k * 2)).off + 1, none⟩) (by show (ad.add (k * 2)).block < base; rw [block_of_add]; exact had)).trans e1
        have hsz5 := Nat.le_trans hsz hb5.size
        have HB5 := Lib.hid HB2
        have Hb5 := Lib.hid hb5
        clear hw HB2 HB1 hb5
        go_wp2_with fail
        with_reducible refine (Hc2.out _ HB5.out.r).mono ?_
        rintro e w6 hw
        obtain ⟨rfl, hb6, HB6⟩ := HB5.out.two hw hsz5 hg1b
        clear hw e0 e1
        have H6 := Lib.hid HB6
        have Hb6 := Lib.hid ((Hb.out.trans Hb5.out).trans hb6)
        have hcs := HB6.r.cells
        have HL1 := Lib.hid (show ∀ w', Below w6.heap.size w6 w' → w'.cell? ⟨g2, 1, none⟩ = some (.int .i64 (p' : Int)) from fun w' h => (h.cell (p := ⟨g2, 1, none⟩) HB6.r.lt).trans hcs.1)
        have HL2 := Lib.hid (show ∀ w', Below w6.heap.size w6 w' → w'.cell? ⟨g2, 2, none⟩ = some (.int .i64 (e' : Int)) from fun w' h => (h.cell (p := ⟨g2, 2, none⟩) HB6.r.lt).trans hcs.2.1)
        clear hb6 HB6 hcs Hb Hb5 HB5 hsz hsz5 o1 o2 o3 o4 Hc1 Hc2
        go_wp2
        have hS : Below w6.heap.size w6 w6.drew := (Below.refl _ _).drew
        refine wp_region_keep (fun w' => Below w6.heap.size w6 w') [(0, false), (1, false), (2, false), (3, false), (4, false), (5, false), (6, false), (7, false), (8, false), (9, false), (11, false), (12, false), (13, false), (14, false), (10, true), (15, false), (16, false), (17, false), (18, false), (20, false), (21, false), (22, false), (23, false), (19, true), (24, false), (25, false), (26, false), (27, false), (29, false), (28, true), (30, true), (31, false), (32, false), (33, false), (34, false), (36, false), (35, true), (37, true), (38, false), (39, false)] (by kernel_rfl) (by kernel_rfl) (by kernel_rfl) (fun d _ _ _ _ h => by cases d <;> exact h) ?_
        refine held_pure (v := ?_) rfl rfl (by simp [Region.wanted, yielded]) hS ?_ ?_
        rotate_left
        · intro w hw; go_simp; try with_reducible rfl
        try simp only [Act.put, List.setIfInBounds_toArray, List.set_cons_succ, List.set_cons_zero]
        refine held_pure (v := ?_) rfl rfl (by simp [Region.wanted, yielded]) hS ?_ ?_
        rotate_left
        · intro w hw; go_simp; try with_reducible rfl
        try simp only [Act.put, List.setIfInBounds_toArray, List.set_cons_succ, List.set_cons_zero]
        refine held_pure (v := ?_) rfl rfl (by simp [Region.wanted, yielded]) hS ?_ ?_
        rotate_left
        · intro w hw; go_simp; try with_reducible rfl
        try simp only [Act.put, List.setIfInBounds_toArray, List.set_cons_succ, List.set_cons_zero]
        refine held_pure (v := ?_) rfl rfl (by simp [Region.wanted, yielded]) hS ?_ ?_
        rotate_left
        · intro w hw; go_simp; try with_reducible rfl
        try simp only [Act.put, List.setIfInBounds_toArray, List.set_cons_succ, List.set_cons_zero]
        refine held_pure (v := ?_) rfl rfl (by simp [Region.wanted, yielded]) hS ?_ ?_
        rotate_left
        · intro w hw; go_simp; try with_reducible rfl
        try simp only [Act.put, List.setIfInBounds_toArray, List.set_cons_succ, List.set_cons_zero]
        refine held_pure (v := ?_) rfl rfl (by simp [Region.wanted, yielded]) hS ?_ ?_
        rotate_left
        · intro w hw; go_simp; try with_reducible rfl
        try simp only [Act.put, List.setIfInBounds_toArray, List.set_cons_succ, List.set_cons_zero]
        refine held_pure (v := ?_) rfl rfl (by simp [Region.wanted, yielded]) hS ?_ ?_
        rotate_left
        · intro w hw; go_simp; try with_reducible rfl
        try simp only [Act.put, List.setIfInBounds_toArray, List.set_cons_succ, List.set_cons_zero]
        refine held_pure (v := ?_) rfl rfl (by simp [Region.wanted, yielded]) hS ?_ ?_
        rotate_left
        · intro w hw; go_simp; try with_reducible rfl
        try simp only [Act.put, List.setIfInBounds_toArray, List.set_cons_succ, List.set_cons_zero]
        refine held_pure (v := ?_) rfl rfl (by simp [Region.wanted, yielded]) hS ?_ ?_
        rotate_left
        · intro w hw; go_simp; try with_reducible rfl
        try simp only [Act.put, List.setIfInBounds_toArray, List.set_cons_succ, List.set_cons_zero]
        refine held_pure (v := ?_) rfl rfl (by simp [Region.wanted, yielded]) hS ?_ ?_
        rotate_left
        · intro w hw; go_simp; try with_reducible rfl
        try simp only [Act.put, List.setIfInBounds_toArray, List.set_cons_succ, List.set_cons_zero]
        refine held_pure (v := ?_) rfl rfl (by simp [Region.wanted, yielded]) hS ?_ ?_
        rotate_left
        · intro w hw; go_simp; try with_reducible rfl
        try simp only [Act.put, List.setIfInBounds_toArray, List.set_cons_succ, List.set_cons_zero]
        refine held_pure (v := ?_) rfl rfl (by simp [Region.wanted, yielded]) hS ?_ ?_
        rotate_left
        · intro w hw; go_simp; try with_reducible rfl
        try simp only [Act.put, List.setIfInBounds_toArray, List.set_cons_succ, List.set_cons_zero]
        refine held_pure (v := ?_) rfl rfl (by simp [Region.wanted, yielded]) hS ?_ ?_
        rotate_left
        · intro w hw; go_simp; try with_reducible rfl
        try simp only [Act.put, List.setIfInBounds_toArray, List.set_cons_succ, List.set_cons_zero]
        refine held_pure (v := ?_) rfl rfl (by simp [Region.wanted, yielded]) hS ?_ ?_
        rotate_left
        · intro w hw; have c0 := HL2.out w hw; clear hw; go_simp; try with_reducible rfl
        try simp only [Act.put, List.setIfInBounds_toArray, List.set_cons_succ, List.set_cons_zero]
        refine held_eff1 rfl (by simp [Region.wanted, yielded]) fun K hK => ?_
        go_simp
        with_reducible refine (perr_any g1 xs p' e' _ (H6.out.p.on hS)).mono ?_
        rintro e w' ⟨rfl, rfl⟩
        refine held_go hK (by exact hS) fun hS => ?_
        clear hK K
        try simp only [Act.put, List.setIfInBounds_toArray, List.set_cons_succ, List.set_cons_zero]
        refine held_pure (v := ?_) rfl rfl (by simp [Region.wanted, yielded]) hS ?_ ?_
        rotate_left
        · intro w hw; go_simp; try with_reducible rfl
        try simp only [Act.put, List.setIfInBounds_toArray, List.set_cons_succ, List.set_cons_zero]
        refine held_pure (v := ?_) rfl rfl (by simp [Region.wanted, yielded]) hS ?_ ?_
        rotate_left
        · intro w hw; go_simp; try with_reducible rfl
        try simp only [Act.put, List.setIfInBounds_toArray, List.set_cons_succ, List.set_cons_zero]
        refine held_pure (v := ?_) rfl rfl (by simp [Region.wanted, yielded]) hS ?_ ?_
        rotate_left
        · intro w hw; go_simp; try with_reducible rfl
        try simp only [Act.put, List.setIfInBounds_toArray, List.set_cons_succ, List.set_cons_zero]
        refine held_pure (v := ?_) rfl rfl (by simp [Region.wanted, yielded]) hS ?_ ?_
        rotate_left
        · intro w hw; go_simp; try with_reducible rfl
        try simp only [Act.put, List.setIfInBounds_toArray, List.set_cons_succ, List.set_cons_zero]
        refine held_pure (v := ?_) rfl rfl (by simp [Region.wanted, yielded]) hS ?_ ?_
        rotate_left
        · intro w hw; go_simp; try with_reducible rfl
        try simp only [Act.put, List.setIfInBounds_toArray, List.set_cons_succ, List.set_cons_zero]
        refine held_pure (v := ?_) rfl rfl (by simp [Region.wanted, yielded]) hS ?_ ?_
        rotate_left
        · intro w hw; go_simp; try with_reducible rfl
        try simp only [Act.put, List.setIfInBounds_toArray, List.set_cons_succ, List.set_cons_zero]
        refine held_pure (v := ?_) rfl rfl (by simp [Region.wanted, yielded]) hS ?_ ?_
        rotate_left
        · intro w hw; go_simp; try with_reducible rfl
        try simp only [Act.put, List.setIfInBounds_toArray, List.set_cons_succ, List.set_cons_zero]
        refine held_pure (v := ?_) rfl rfl (by simp [Region.wanted, yielded]) hS ?_ ?_
        rotate_left
        · intro w hw; have c0 := HL1.out w hw; clear hw; go_simp; try with_reducible rfl
        try simp only [Act.put, List.setIfInBounds_toArray, List.set_cons_succ, List.set_cons_zero]
        refine held_eff1 rfl (by simp [Region.wanted, yielded]) fun K hK => ?_
        go_simp
        with_reducible refine (pat_any g1 xs p' e' _ (H6.out.p.on hS)).mono ?_
        rintro e w' ⟨rfl, rfl⟩
        refine held_go hK (by exact hS) fun hS => ?_
        clear hK K
        try simp only [Act.put, List.setIfInBounds_toArray, List.set_cons_succ, List.set_cons_zero]
        refine held_pure (v := ?_) rfl rfl (by simp [Region.wanted, yielded]) hS ?_ ?_
        rotate_left
        · intro w hw; go_simp; try with_reducible rfl
        try simp only [Act.put, List.setIfInBounds_toArray, List.set_cons_succ, List.set_cons_zero]
        refine held_pure (v := ?_) rfl rfl (by simp [Region.wanted, yielded]) hS ?_ ?_
        rotate_left
        · intro w hw; go_simp; try with_reducible rfl
        try simp only [Act.put, List.setIfInBounds_toArray, List.set_cons_succ, List.set_cons_zero]
        refine held_pure (v := ?_) rfl rfl (by simp [Region.wanted, yielded]) hS ?_ ?_
        rotate_left
        · intro w hw; go_simp; try with_reducible rfl
        try simp only [Act.put, List.setIfInBounds_toArray, List.set_cons_succ, List.set_cons_zero]
        refine held_pure (v := ?_) rfl rfl (by simp [Region.wanted, yielded]) hS ?_ ?_
        rotate_left
        · intro w hw; go_simp; try with_reducible rfl
        try simp only [Act.put, List.setIfInBounds_toArray, List.set_cons_succ, List.set_cons_zero]
        refine held_pure (v := ?_) rfl rfl (by simp [Region.wanted, yielded]) hS ?_ ?_
        rotate_left
        · intro w hw; go_simp; try with_reducible rfl
        try simp only [Act.put, List.setIfInBounds_toArray, List.set_cons_succ, List.set_cons_zero]
        refine held_eff1 rfl (by simp [Region.wanted, yielded]) fun K hK => ?_
        go_simp
        with_reducible refine (pleft_any g1 xs p' e' _ (H6.out.p.on hS)).mono ?_
        rintro e w' ⟨rfl, rfl⟩
        refine held_go hK (by exact hS) fun hS => ?_
        clear hK K
        try simp only [Act.put, List.setIfInBounds_toArray, List.set_cons_succ, List.set_cons_zero]
        refine held_eff1 rfl (by simp [Region.wanted, yielded]) fun K hK => ?_
        go_simp
        with_reducible refine (rleft_any g2 xs p' e' _ (H6.out.r.on hS)).mono ?_
        rintro e w7 ⟨rfl, hb7⟩
        refine held_go hK (by exact bon hS hb7) fun hS => ?_
        clear hK K
        try simp only [Act.put, List.setIfInBounds_toArray, List.set_cons_succ, List.set_cons_zero]
        refine held_pure (v := ?_) rfl rfl (by simp [Region.wanted, yielded]) hS ?_ ?_
        rotate_left
        · intro w hw; go_simp; try with_reducible rfl
        try simp only [Act.put, List.setIfInBounds_toArray, List.set_cons_succ, List.set_cons_zero]
        refine held_pure (v := ?_) rfl rfl (by simp [Region.wanted, yielded]) hS ?_ ?_
        rotate_left
        · intro w hw; go_simp; try with_reducible rfl
        try simp only [Act.put, List.setIfInBounds_toArray, List.set_cons_succ, List.set_cons_zero]
        refine held_pure (v := ?_) rfl rfl (by simp [Region.wanted, yielded]) hS ?_ ?_
        rotate_left
        · intro w hw; go_simp; try with_reducible rfl
        try simp only [Act.put, List.setIfInBounds_toArray, List.set_cons_succ, List.set_cons_zero]
        refine held_pure (v := ?_) rfl rfl (by simp [Region.wanted, yielded]) hS ?_ ?_
        rotate_left
        · intro w hw; go_simp; try with_reducible rfl
        try simp only [Act.put, List.setIfInBounds_toArray, List.set_cons_succ, List.set_cons_zero]
        refine held_pure (v := ?_) rfl rfl (by simp [Region.wanted, yielded]) hS ?_ ?_
        rotate_left
        · intro w hw; go_simp; try with_reducible rfl
        try simp only [Act.put, List.setIfInBounds_toArray, List.set_cons_succ, List.set_cons_zero]
        refine held_eff1 rfl (by simp [Region.wanted, yielded]) fun K hK => ?_
        go_simp
        with_reducible refine (pend_any g1 xs p' e' _ (H6.out.p.on hS)).mono ?_
        rintro e w' ⟨rfl, rfl⟩
        refine held_go hK (by exact hS) fun hS => ?_
        clear hK K
        try simp only [Act.put, List.setIfInBounds_toArray, List.set_cons_succ, List.set_cons_zero]
        refine held_eff1 rfl (by simp [Region.wanted, yielded]) fun K hK => ?_
        go_simp
        with_reducible refine (rend_any g2 xs p' e' _ (H6.out.r.on hS)).mono ?_
        rintro e w8 ⟨rfl, hb8⟩
        refine held_go hK (by exact bon hS hb8) fun hS => ?_
        clear hK K
        try simp only [Act.put, List.setIfInBounds_toArray, List.set_cons_succ, List.set_cons_zero]
        refine held_pure (v := ?_) rfl rfl (by simp [Region.wanted, yielded]) hS ?_ ?_
        rotate_left
        · intro w hw; go_simp; try with_reducible rfl
        try simp only [Act.put, List.setIfInBounds_toArray, List.set_cons_succ, List.set_cons_zero]
        refine held_pure (v := ?_) rfl rfl (by simp [Region.wanted, yielded]) hS ?_ ?_
        rotate_left
        · intro w hw; go_simp; try with_reducible rfl
        try simp only [Act.put, List.setIfInBounds_toArray, List.set_cons_succ, List.set_cons_zero]
        refine held_end ?_
        have hb9 := Hb6.out.trans (hS.mono (Nat.le_trans Hz.out Hb6.out.size))
        have HB9 := H6.out.on hS
        clear hS HL1 HL2
        go_wp2
        go_roundw
        case rel => exact ⟨k + 1, p', e', by omega, by omega, by go_num, HB9, hb9⟩
        case measure => simp [intOf]; omega
      · have d2 : decide ((k : Int) < 40) = false := by simp; omega
        clear HB
        have Hb := Lib.hid hb
        have hsz := Nat.le_trans Hz.out hb.size
        clear hb
        go_wp2_with fail
        with_reducible refine (works_any _).mono ?_
        rintro e w7 ⟨rfl, hb7⟩
        go_wp2
        go_ret
        exact ⟨rfl, Hb.out.trans (hb7.mono hsz)⟩
    · have d1 : decide ((k : Int) < (n : Int)) = false := by simp; omega
      clear HB
      have Hb := Lib.hid hb
      have hsz := Nat.le_trans Hz.out hb.size
      clear hb
      go_wp2_with fail
      with_reducible refine (works_any _).mono ?_
      rintro e w7 ⟨rfl, hb7⟩
      go_wp2
      go_ret
      exact ⟨rfl, Hb.out.trans (hb7.mono hsz)⟩
end Go.Proofs.Ytnkkhplddjopnaa
