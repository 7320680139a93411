/- Part 5 of the walks, merged: each text under its own heading. Conditions: none of its own; each lemma states what it asks. -/
import Derived.Test.YtegcbjkikhheiaaGreatDoorGn4
set_option linter.unusedVariables false
set_option linter.unusedSimpArgs false
namespace Go.Proofs.YtegcbjkikhheiaaGreatDoor
open Go.RowKit
set_option maxRecDepth 100000 in
set_option maxHeartbeats 2000000 in
theorem rcheck17_any (A : Option Addr) (n c : Nat) (cs : List Co) (v s : Int) (I : Option Addr) (m d : Nat) (l : List It) (w : World) (hr : Reads w w.heap.size 7 A n (cos cs)) (hn : n ≤ maxLen) (hi : ItemsAt w w.heap.size I m l) (hm : m ≤ maxLen) (hok : ItOk l) :
    Calls Tryz.prog 58 #[.slice A n c, .agg #[.int .i64 v, .int .i64 s, .slice I m d]] w fun e w' => e = .returned (.int .i64 (batE cs (v, s, l))) ∧ Below w.heap.size w w' := by
  have Hr := Lib.hid hr
  have Hi := Lib.hid hi
  have Hok := Lib.hid hok
  have Hl := Lib.hid hi.len
  have Hn := Lib.hid hn
  have Hm := Lib.hid hm
  have hm63 : m ≤ 9223372036854775807 := by simp only [maxLen] at hm; omega
  have B1 := Lib.hid (Blk.new w 25 #[.int .i64 v, .int .i64 s, .slice I m d])
  have HB := Lib.hid ((Below.refl _ w).alloc (Nat.le_refl _) (.cells #[.int .i64 v, .int .i64 s, .slice I m d] 25))
  clear hr hi hok hn hm
  go_enter Tryz.func58, Tryz.ntmps58
  go_wp2_with fail
  with_reducible refine (rmayC_any A n c cs _ (Hr.out.on HB.out) Hn.out).mono ?_
  rintro e w1 ⟨rfl, hb1⟩
  have B1 := Lib.hid (B1.out.on hb1)
  have HB := Lib.hid (bon HB.out hb1)
  clear hb1
  have c0 := B1.out.cell 0
  have c1 := B1.out.cell 1
  have c2 := B1.out.cell 2
  by_cases hb : baB cs (v, s, l) = true
  · have hbb := hb
    unfold baB at hbb
    simp only [Bool.and_eq_true, decide_eq_true_eq] at hbb
    obtain ⟨hmay, hv0, hv1, hs0⟩ := hbb
    have HE0 := Lib.hid (show batE cs (v, s, l) = if 1048576 < l.length then 5 else itemsE cs l by unfold batE; rw [if_pos hb])
    rw [hmay]
    have d1 : decide (v < 0) = false := by simpa using hv0
    have d2 : decide (2147483647 < v) = false := by simpa using hv1
    have d3 : decide (s < 0) = false := by simpa using hs0
    clear hmay hb
    by_cases hM : m ≤ 1048576
    · have d4 : decide ((1048576 : Int) < (m : Int)) = false := by simp; omega
      have d5 : decide (1048576 < m) = false := by simp; omega
      have HE0 := Lib.hid (show batE cs (v, s, l) = itemsE cs l by rw [HE0.out, if_neg (by rw [Hl.out]; omega)])
      go_wp2
      clear c0 c1 c2 d1 d2 d3 hv0 hv1 hs0
      go_loopw [5] (fun i wr => ∃ k : Nat, k ≤ m ∧ i = .int .i64 (k : Int) ∧ Hid (itemsE cs l = itemsE cs (l.drop k)) ∧ Hid (Blk wr w.heap.size 25 #[.int .i64 v, .int .i64 s, .slice I m d]) ∧ Hid (Below w.heap.size w wr)) (fun i _ => m - (intOf i).toNat)
      case atStart => exact ⟨0, Nat.zero_le _, rfl, Lib.hid rfl, B1, HB⟩
      case round =>
        obtain ⟨k, hk, rfl, HE, BL, HL⟩ := hrel
        have c2 := BL.out.cell 2
        by_cases hlt : k < m
        · obtain ⟨ad, A', c', it, rfl, hbk, hit, h0, h1, hrow, hc1, hc2⟩ := (Hi.out.below HL.out).at_ hlt
          have HD := Lib.hid (itemsE_drop cs l k it hit)
          have Hrow := Lib.hid (hrow.more HL.out.size)
          have Hc := Lib.hid (Nat.le_trans hc1 hc2)
          have HitK := Lib.hid (Hok.out it (List.mem_of_getElem? hit)).1
          have hki : (k : Int) < (m : Int) := by omega
          have hlt1 := World.block_lt_of_cell? _ _ h1
          clear hit hrow hc1 hc2
          generalize hrl : it.1.length = rl at *
          clear hrl
          go_wp2_with fail
          with_reducible refine (rrow_any A n c cs A' rl c' it.1 _ (Hr.out.on HL.out) Hrow.out Hc.out HitK.out).mono ?_
          rintro e w3 ⟨rfl, hb3⟩
          have HB3 := Lib.hid (bon HL.out hb3)
          have B3 := Lib.hid (BL.out.on hb3)
          have h1' := (hb3.cell (p := ⟨(ad.add (k * 2)).block, (ad.add (k * 2)).off + 1, none⟩) hlt1).trans h1
          clear hb3 h0 h1 hbk c2
          by_cases hz : rowE cs it.1 = 0
          · have HD := Lib.hid (show itemsE cs (l.drop k) = if it.2 = 0 then 172 else itemsE cs (l.drop (k + 1)) by rw [HD.out, if_pos hz])
            generalize rowE cs it.1 = E0 at hz ⊢
            subst hz
            have c2 := B3.out.cell 2
            by_cases hw0 : it.2 = 0
            · have HX := Lib.hid (show batE cs (v, s, l) = 172 by rw [HE0.out, HE.out, HD.out, if_pos hw0])
              generalize it.2 = W0 at *
              subst hw0
              go_wp2
              go_ret
              exact ⟨by rw [HX.out]; rfl, HB3.out⟩
            · have HX := Lib.hid (show itemsE cs l = itemsE cs (l.drop (k + 1)) by rw [HE.out, HD.out, if_neg hw0])
              have dw : (it.2 == 0) = false := by simpa using hw0
              generalize it.2 = W0 at *
              clear hw0
              go_wp2
              go_roundw
              case rel => exact ⟨k + 1, by omega, by go_num, HX, B3, HB3⟩
              case measure => simp [intOf]; omega
          · have HX := Lib.hid (show rowE cs it.1 = batE cs (v, s, l) by rw [HE0.out, HE.out, HD.out, if_neg hz])
            rw [HX.out] at hz ⊢
            have hzb : (batE cs (v, s, l) != 0) = true := by simpa using hz
            clear hz
            go_wp2
            go_ret
            exact ⟨rfl, HB3.out⟩
        · obtain rfl : m = k := by omega
          have HE1 := Lib.hid (show batE cs (v, s, l) = 0 by rw [HE0.out, HE.out, List.drop_of_length_le (by rw [Hl.out]; exact Nat.le_refl _)]; rfl)
          go_wp2
          go_ret
          exact ⟨by rw [HE1.out]; rfl, HL.out⟩
    · have d4 : decide ((1048576 : Int) < (m : Int)) = true := by simp; omega
      have d5 : decide (1048576 < m) = true := by simp; omega
      have HE1 := Lib.hid (show batE cs (v, s, l) = 5 by rw [HE0.out, if_pos (by rw [Hl.out]; omega)])
      go_wp2
      go_ret
      exact ⟨by rw [HE1.out]; rfl, HB.out⟩
  · have HE1 := Lib.hid (show batE cs (v, s, l) = 2 by unfold batE; rw [if_neg hb])
    unfold baB at hb
    simp only [Bool.and_eq_true, decide_eq_true_eq] at hb
    cases hmay : mayCs cs with
    | false =>
      clear hb hmay
      go_wp2
      go_ret
      exact ⟨by rw [HE1.out]; rfl, HB.out⟩
    | true =>
      by_cases hv0 : 0 ≤ v
      · have d1 : decide (v < 0) = false := by simpa using hv0
        by_cases hv1 : v ≤ 2147483647
        · have d2 : decide (2147483647 < v) = false := by simpa using hv1
          have hs0 : ¬ 0 ≤ s := fun h => hb ⟨hmay, hv0, hv1, h⟩
          have d3 : decide (s < 0) = true := by simpa using hs0
          clear hb hmay hv0 hv1 hs0
          go_wp2
          go_ret
          exact ⟨by rw [HE1.out]; rfl, HB.out⟩
        · have d2 : decide (2147483647 < v) = true := by simpa using hv1
          clear hb hmay hv0 hv1
          go_wp2
          go_ret
          exact ⟨by rw [HE1.out]; rfl, HB.out⟩
      · have d1 : decide (v < 0) = true := by simpa using hv0
        clear hb hmay hv0
        go_wp2
        go_ret
        exact ⟨by rw [HE1.out]; rfl, HB.out⟩
set_option maxRecDepth 100000 in
set_option maxHeartbeats 1000000 in
theorem eqItems_any (A B : Option Addr) (n c m d : Nat) (l1 l2 : List It) (w : World) (h1 : ItemsAt w w.heap.size A n l1) (h2 : ItemsAt w w.heap.size B m l2) (hn : n ≤ maxLen) :
    Calls Tryz.prog 29 #[.slice A n c, .slice B m d] w fun e w' => e = .returned (.bool (decide (l1 = l2))) ∧ Below w.heap.size w w' := by
  have H1 := Lib.hid h1
  have H2 := Lib.hid h2
  have Hl1 := Lib.hid h1.len
  have Hl2 := Lib.hid h2.len
  have hn63 : n ≤ 9223372036854775807 := by simp only [maxLen] at hn; omega
  clear h1 h2 hn
  by_cases hnm : m = n
  · subst hnm
    go_enter Tryz.func29, Tryz.ntmps29
    go_wp2
    go_loopw [5] (fun i wr => ∃ j : Nat, j ≤ m ∧ i = .int .i64 (j : Int) ∧ Hid (l1.take j = l2.take j) ∧ Hid (Below w.heap.size w wr)) (fun i _ => m - (intOf i).toNat)
    case atStart => exact ⟨0, Nat.zero_le _, rfl, Lib.hid rfl, Lib.hid (Below.refl _ _)⟩
    case round =>
      obtain ⟨j, hj, rfl, Htk, HB⟩ := hrel
      by_cases hlt : j < m
      · obtain ⟨ad, A', c', it, rfl, hbk, hx, a0, a1, r1, rc1, rc2⟩ := (H1.out.below HB.out).at_ hlt
        obtain ⟨ad', A'', c'', it', rfl, hbk', hx', b0, b1, r2, -, -⟩ := (H2.out.below HB.out).at_ hlt
        have HA0 := Lib.hid (show ∀ w', Below wr.heap.size wr w' → w'.cell? (ad.add (j * 2)) = some (.slice A' it.1.length c') from fun w' h => (h.cell (World.block_lt_of_cell? _ _ a0)).trans a0)
        have HA1 := Lib.hid (show ∀ w', Below wr.heap.size wr w' → w'.cell? ⟨(ad.add (j * 2)).block, (ad.add (j * 2)).off + 1, none⟩ = some (.int .i64 it.2) from fun w' h => (h.cell (World.block_lt_of_cell? _ _ a1)).trans a1)
        have HB0 := Lib.hid (show ∀ w', Below wr.heap.size wr w' → w'.cell? (ad'.add (j * 2)) = some (.slice A'' it'.1.length c'') from fun w' h => (h.cell (World.block_lt_of_cell? _ _ b0)).trans b0)
        have HB1 := Lib.hid (show ∀ w', Below wr.heap.size wr w' → w'.cell? ⟨(ad'.add (j * 2)).block, (ad'.add (j * 2)).off + 1, none⟩ = some (.int .i64 it'.2) from fun w' h => (h.cell (World.block_lt_of_cell? _ _ b1)).trans b1)
        have R1 := Lib.hid (r1.more HB.out.size)
        have R2 := Lib.hid (r2.more HB.out.size)
        have Hrc := Lib.hid (Nat.le_trans rc1 rc2)
        have Hx := Lib.hid hx
        have Hx' := Lib.hid hx'
        have hji : (j : Int) < (m : Int) := by omega
        have hS : Below wr.heap.size wr wr.drew := (Below.refl _ _).drew
        clear hx hx' hbk hbk' r1 r2 rc1 rc2 a0 a1 b0 b1
        obtain ⟨r, v⟩ := it
        obtain ⟨r', v'⟩ := it'
        simp only at HA0 HA1 HB0 HB1 R1 R2 Hrc
        generalize r.length = rl at *
        generalize r'.length = rl' at *
        go_wp2
        by_cases hv : v = v'
        · subst hv
          have dv : (v != v) = false := by simp
          refine wp_region_keep (fun w' => Below wr.heap.size wr w') [(0, false), (1, false), (2, false), (3, false), (4, false), (5, false), (6, false), (7, false), (8, false), (9, false), (10, false), (11, false), (12, false), (13, false), (14, false), (15, false), (16, false), (17, false), (18, false), (19, false), (20, false), (21, false), (22, true), (23, false), (24, false)] (by kernel_rfl) (by kernel_rfl) (by kernel_rfl) (fun d _ _ _ _ h => by cases d <;> exact h) ?_
          iterate 4
            refine held_pure (v := ?_) rfl rfl (by simp [Region.wanted, yielded]) hS ?_ ?_
            rotate_left
            · intro w hw; go_simp; try with_reducible rfl
            try simp only [Act.put, List.setIfInBounds_toArray, List.set_cons_succ, List.set_cons_zero]
          refine held_pure (v := ?_) rfl rfl (by simp [Region.wanted, yielded]) hS ?_ ?_
          rotate_left
          · intro w hw; have c0 := HA1.out w hw; clear hw; go_simp; try with_reducible rfl
          try simp only [Act.put, List.setIfInBounds_toArray, List.set_cons_succ, List.set_cons_zero]
          iterate 4
            refine held_pure (v := ?_) rfl rfl (by simp [Region.wanted, yielded]) hS ?_ ?_
            rotate_left
            · intro w hw; go_simp; try with_reducible rfl
            try simp only [Act.put, List.setIfInBounds_toArray, List.set_cons_succ, List.set_cons_zero]
          refine held_pure (v := ?_) rfl rfl (by simp [Region.wanted, yielded]) hS ?_ ?_
          rotate_left
          · intro w hw; have c0 := HB1.out w hw; clear hw; go_simp; try with_reducible rfl
          try simp only [Act.put, List.setIfInBounds_toArray, List.set_cons_succ, List.set_cons_zero]
          iterate 6
            refine held_pure (v := ?_) rfl rfl (by simp [Region.wanted, yielded]) hS ?_ ?_
            rotate_left
            · intro w hw; go_simp; try with_reducible rfl
            try simp only [Act.put, List.setIfInBounds_toArray, List.set_cons_succ, List.set_cons_zero]
          refine held_pure (v := ?_) rfl rfl (by simp [Region.wanted, yielded]) hS ?_ ?_
          rotate_left
          · intro w hw; have c0 := HA0.out w hw; clear hw; go_simp; try with_reducible rfl
          try simp only [Act.put, List.setIfInBounds_toArray, List.set_cons_succ, List.set_cons_zero]
          iterate 4
            refine held_pure (v := ?_) rfl rfl (by simp [Region.wanted, yielded]) hS ?_ ?_
            rotate_left
            · intro w hw; go_simp; try with_reducible rfl
            try simp only [Act.put, List.setIfInBounds_toArray, List.set_cons_succ, List.set_cons_zero]
          refine held_pure (v := ?_) rfl rfl (by simp [Region.wanted, yielded]) hS ?_ ?_
          rotate_left
          · intro w hw; have c0 := HB0.out w hw; clear hw; go_simp; try with_reducible rfl
          try simp only [Act.put, List.setIfInBounds_toArray, List.set_cons_succ, List.set_cons_zero]
          refine held_eff1 rfl (by simp [Region.wanted, yielded]) fun K hK => ?_
          go_simp
          with_reducible refine (eqRow_any A' A'' rl c' rl' c'' r r' _ (R1.out.on hS) (R2.out.on hS) Hrc.out).mono ?_
          rintro e w5 ⟨rfl, hb5⟩
          have HB5 := Lib.hid (bon HB.out (bon hS hb5))
          refine held_go hK (by exact bon hS hb5) fun hS => ?_
          clear hK K
          try simp only [Act.put, List.setIfInBounds_toArray, List.set_cons_succ, List.set_cons_zero]
          clear hb5
          iterate 2
            refine held_pure (v := ?_) rfl rfl (by simp [Region.wanted, yielded]) hS ?_ ?_
            rotate_left
            · intro w hw; go_simp; try with_reducible rfl
            try simp only [Act.put, List.setIfInBounds_toArray, List.set_cons_succ, List.set_cons_zero]
          refine held_end ?_
          clear hS
          by_cases hc : r = r'
          · have Htk2 := Lib.hid (show l1.take (j + 1) = l2.take (j + 1) by rw [List.take_add_one, List.take_add_one, Hx.out, Hx'.out, Htk.out, hc])
            rw [decide_eq_true hc]
            clear hc
            go_wp2
            go_roundw
            case rel => exact ⟨j + 1, by omega, by go_num, Htk2, HB5⟩
            case measure => simp [intOf]; omega
          · have Hne := Lib.hid (show decide (l1 = l2) = false from decide_eq_false (fun h => hc (by subst h; have := Option.some.inj (Hx.out.symm.trans Hx'.out); cases this; rfl)))
            rw [decide_eq_false hc]
            clear hc
            go_wp2
            go_ret
            exact ⟨by rw [Hne.out]; rfl, HB5.out⟩
        · have dv : (v != v') = true := by simpa using hv
          have Hne := Lib.hid (show decide (l1 = l2) = false from decide_eq_false (fun h => hv (by subst h; have := Option.some.inj (Hx.out.symm.trans Hx'.out); cases this; rfl)))
          clear hv
          refine wp_region_keep (fun w' => Below wr.heap.size wr w') [(0, false), (1, false), (2, false), (3, false), (4, false), (5, false), (6, false), (7, false), (8, false), (9, false), (10, false), (11, false), (12, false), (13, false), (14, false), (15, false), (16, false), (17, false), (18, false), (19, false), (20, false), (21, false), (22, false), (23, false), (24, false)] (by kernel_rfl) (by kernel_rfl) (by kernel_rfl) (fun d _ _ _ _ h => by cases d <;> exact h) ?_
          iterate 4
            refine held_pure (v := ?_) rfl rfl (by simp [Region.wanted, yielded]) hS ?_ ?_
            rotate_left
            · intro w hw; go_simp; try with_reducible rfl
            try simp only [Act.put, List.setIfInBounds_toArray, List.set_cons_succ, List.set_cons_zero]
          refine held_pure (v := ?_) rfl rfl (by simp [Region.wanted, yielded]) hS ?_ ?_
          rotate_left
          · intro w hw; have c0 := HA1.out w hw; clear hw; go_simp; try with_reducible rfl
          try simp only [Act.put, List.setIfInBounds_toArray, List.set_cons_succ, List.set_cons_zero]
          iterate 4
            refine held_pure (v := ?_) rfl rfl (by simp [Region.wanted, yielded]) hS ?_ ?_
            rotate_left
            · intro w hw; go_simp; try with_reducible rfl
            try simp only [Act.put, List.setIfInBounds_toArray, List.set_cons_succ, List.set_cons_zero]
          refine held_pure (v := ?_) rfl rfl (by simp [Region.wanted, yielded]) hS ?_ ?_
          rotate_left
          · intro w hw; have c0 := HB1.out w hw; clear hw; go_simp; try with_reducible rfl
          try simp only [Act.put, List.setIfInBounds_toArray, List.set_cons_succ, List.set_cons_zero]
          iterate 2
            refine held_pure (v := ?_) rfl rfl (by simp [Region.wanted, yielded]) hS ?_ ?_
            rotate_left
            · intro w hw; go_simp; try with_reducible rfl
            try simp only [Act.put, List.setIfInBounds_toArray, List.set_cons_succ, List.set_cons_zero]
          refine held_off rfl rfl (by simp [Region.wanted, yielded, undef]) hS ?_
          simp only [Act.put, List.setIfInBounds_toArray, List.set_cons_succ, List.set_cons_zero]
          refine held_off rfl rfl (by simp [Region.wanted, yielded, undef]) hS ?_
          simp only [Act.put, List.setIfInBounds_toArray, List.set_cons_succ, List.set_cons_zero]
          refine held_off rfl rfl (by simp [Region.wanted, yielded, undef]) hS ?_
          simp only [Act.put, List.setIfInBounds_toArray, List.set_cons_succ, List.set_cons_zero]
          refine held_off rfl rfl (by simp [Region.wanted, yielded, undef]) hS ?_
          simp only [Act.put, List.setIfInBounds_toArray, List.set_cons_succ, List.set_cons_zero]
          refine held_off rfl rfl (by simp [Region.wanted, yielded, undef]) hS ?_
          simp only [Act.put, List.setIfInBounds_toArray, List.set_cons_succ, List.set_cons_zero]
          refine held_off rfl rfl (by simp [Region.wanted, yielded, undef]) hS ?_
          simp only [Act.put, List.setIfInBounds_toArray, List.set_cons_succ, List.set_cons_zero]
          refine held_off rfl rfl (by simp [Region.wanted, yielded, undef]) hS ?_
          simp only [Act.put, List.setIfInBounds_toArray, List.set_cons_succ, List.set_cons_zero]
          refine held_off rfl rfl (by simp [Region.wanted, yielded, undef]) hS ?_
          simp only [Act.put, List.setIfInBounds_toArray, List.set_cons_succ, List.set_cons_zero]
          refine held_off rfl rfl (by simp [Region.wanted, yielded, undef]) hS ?_
          simp only [Act.put, List.setIfInBounds_toArray, List.set_cons_succ, List.set_cons_zero]
          refine held_off rfl rfl (by simp [Region.wanted, yielded, undef]) hS ?_
          simp only [Act.put, List.setIfInBounds_toArray, List.set_cons_succ, List.set_cons_zero]
          refine held_off rfl rfl (by simp [Region.wanted, yielded, undef]) hS ?_
          simp only [Act.put, List.setIfInBounds_toArray, List.set_cons_succ, List.set_cons_zero]
          refine held_off rfl rfl (by simp [Region.wanted, yielded, undef]) hS ?_
          simp only [Act.put, List.setIfInBounds_toArray, List.set_cons_succ, List.set_cons_zero]
          refine held_pure (v := ?_) rfl rfl (by simp [Region.wanted, yielded]) hS ?_ ?_
          rotate_left
          · intro w hw; go_simp; try with_reducible rfl
          try simp only [Act.put, List.setIfInBounds_toArray, List.set_cons_succ, List.set_cons_zero]
          refine held_end ?_
          have HB5 := Lib.hid (bon HB.out hS)
          clear hS
          go_wp2
          go_ret
          exact ⟨by rw [Hne.out]; rfl, HB5.out⟩
      · obtain rfl : m = j := by omega
        have He := Lib.hid (show decide (l1 = l2) = true by
          have := Htk.out
          rw [List.take_of_length_le (by rw [Hl1.out]; exact Nat.le_refl _), List.take_of_length_le (by rw [Hl2.out]; exact Nat.le_refl _)] at this
          exact decide_eq_true this)
        go_wp2
        go_ret
        exact ⟨by rw [He.out]; rfl, HB.out⟩
  · have hne2 : ((n : Int) != (m : Int)) = true := by simp; omega
    have hne3 : (n != m) = true := by simp; omega
    have Hne := Lib.hid (show decide (l1 = l2) = false from decide_eq_false (fun h => hnm (by rw [← Hl1.out, ← Hl2.out, h])))
    go_enter Tryz.func29, Tryz.ntmps29
    go_wp2
    go_ret
    exact ⟨by rw [Hne.out]; rfl, Below.refl _ _⟩
end Go.Proofs.YtegcbjkikhheiaaGreatDoor
namespace Go.Proofs.YtegcbjkikhheiaaGreatDoor
open Go.RowKit
structure WlkK (w : World) (g : Nat) (X : Option Addr) (xn xc : Nat) (xs : List UInt8) (v s : Int) (I : Option Addr) (m d : Nat) (out : List UInt8) (wr : World) : Prop where
  wk : Wk wr g X xn xc xs out
  box : Blk wr w.heap.size 25 #[.int .i64 v, .int .i64 s, .slice I m d]
  below : Below w.heap.size w wr
  le : w.heap.size ≤ g
section
variable {w wr w' : World} {g xn xc m d : Nat} {X I : Option Addr} {xs out o2 : List UInt8} {v s : Int} {e : Ending}
theorem WlkK.step (h : WlkK w g X xn xc xs v s I m d out wr) (hp : WalkP g X xn xc xs out o2 wr e w') : WlkK w g X xn xc xs v s I m d (out ++ o2) w' :=
  ⟨hp.2.1, h.box.other hp.2.2 (h.box.ne h.wk.blk (by decide)), h.below.trans (Below.by_ hp.2.2 h.below.size h.le), h.le⟩
theorem WlkK.on (h : WlkK w g X xn xc xs v s I m d out wr) (hb : Below wr.heap.size wr w') : WlkK w g X xn xc xs v s I m d out w' := ⟨h.wk.on hb, h.box.on hb, bon h.below hb, h.le⟩
end
theorem wk_new (w : World) (X : Option Addr) (xn xc : Nat) (xs : List UInt8) (hx : Reads w w.heap.size 1 X xn (u8s xs)) (hxn : xn ≤ maxLen) (g : Nat) (hg : g = w.heap.size) : Wk (w.alloc (.cells #[.slice X xn xc, .int .i64 0, .int .i64 0, .bool false, .int .u32 0] 93)) g X xn xc xs [] := by
  subst hg
  refine ⟨?_, hx.alloc (Nat.le_refl _) _, hxn⟩
  rw [crcS_nil]
  exact Blk.new _ _ _
theorem body_parts (cs : List Co) (V S m : Nat) (li : List It) (hm : li.length = m) : preB cs ((V : Int), (S : Int), li) 0 = [] ++ [77] ++ [83] ++ [1] ++ leb V ++ leb S ++ leb m := by
  rw [preB_zero]
  unfold headB
  simp [hm]
theorem row_in {cs : List Co} {b : Ba} (hf : Fits cs b) {k : Nat} (hk : k < cs.length) : ∀ it ∈ b.2.2, k < it.1.length := fun it hit => by rw [hf.row hit]; exact hk
theorem col_ok {li : List It} {k : Nat} (hok : ItOk li) (hrow : ∀ it ∈ li, k < it.1.length) : ClOk (someC (colC li k)) := by
  intro c hc
  have h1 := (List.mem_filter.1 hc).1
  obtain ⟨it, hit, rfl⟩ := List.mem_map.1 h1
  have h2 := hrow it hit
  rw [List.getElem?_eq_getElem h2]
  exact (hok it hit).1 _ (List.getElem_mem h2)
set_option maxRecDepth 100000 in
set_option maxHeartbeats 8000000 in
theorem rwalk_any (A : Option Addr) (n c : Nat) (cs : List Co) (v s : Int) (I : Option Addr) (m d : Nat) (li : List It) (X : Option Addr) (xn xc : Nat) (xs : List UInt8) (w : World) (hr : Reads w w.heap.size 7 A n (cos cs)) (hi : ItemsAt w w.heap.size I m li) (hx : Reads w w.heap.size 1 X xn (u8s xs)) (hxn : xn ≤ maxLen) (hf : Fits cs (v, s, li)) (hs : s ≤ 9223372036854775807) (hok : ItOk li) :
    Calls Tryz.prog 59 #[.slice A n c, .agg #[.int .i64 v, .int .i64 s, .slice I m d], .slice X xn xc] w fun e w' => ∃ g, e = .returned (.pointer (some ⟨g, 0, none⟩)) ∧ Wk w' g X xn xc xs (encA cs (v, s, li)) ∧ Below w.heap.size w w' := by
  have HC := Lib.hid hr
  have HI := Lib.hid hi
  have Hf := Lib.hid hf
  have Hok := Lib.hid hok
  have hnl := cos_len hr
  have Hnl := Lib.hid hnl
  have hml := hi.len
  have Hml := Lib.hid hml
  have hn32 : n ≤ 32 := by have := (mayCs_len hf.may).2; omega
  have hm20 : m ≤ 1048576 := by have := hf.rows; simp only at this; omega
  have hv0 := hf.v0
  have hv1 := hf.v1
  have hs0 := hf.s0
  simp only at hv0 hv1 hs0
  obtain ⟨V, hV, hVl⟩ : ∃ V : Nat, v = (V : Int) ∧ V ≤ 2147483647 := ⟨v.toNat, by omega, by omega⟩
  obtain ⟨S, hS, hSl⟩ : ∃ S : Nat, s = (S : Int) ∧ S ≤ 9223372036854775807 := ⟨s.toNat, by omega, by omega⟩
  subst hV hS
  have Hp0 := Lib.hid (body_parts cs V S m li hml)
  have H := Lib.hid (show WlkK w (w.heap.size + 1) X xn xc xs (V : Int) (S : Int) I m d [] ((w.alloc (.cells #[.int .i64 (V : Int), .int .i64 (S : Int), .slice I m d] 25)).alloc (.cells #[.slice X xn xc, .int .i64 0, .int .i64 0, .bool false, .int .u32 0] 93)) from
    ⟨wk_new _ X xn xc xs (hx.al _) hxn _ (by simp), (Blk.new w _ _).alloc _, bal (bal (Below.refl _ _) _) _, Nat.le_succ _⟩)
  have hlv := leb_le V
  have hls := leb_le S
  have hlm := leb_le m
  clear hr hi hx hf hok hnl hml hs hv0 hv1 hs0
  go_enter Tryz.func59, Tryz.ntmps59
  go_wp2_with fail
  generalize (w.alloc (.cells #[.int .i64 (V : Int), .int .i64 (S : Int), .slice I m d] 25)).alloc (.cells #[.slice X xn xc, .int .i64 0, .int .i64 0, .bool false, .int .u32 0] 93) = W0 at *
  refine (ris_any (w.heap.size + 1) X xn xc xs _ 77 _ (by rfl) _ H.out.wk (by simp)).mono ?_
  intro e w1 hp
  obtain rfl := hp.1
  replace H := Lib.hid (H.out.step hp)
  clear hp
  go_wp2_with fail
  refine (ris_any (w.heap.size + 1) X xn xc xs _ 83 _ (by rfl) _ H.out.wk (by simp)).mono ?_
  intro e w2 hp
  obtain rfl := hp.1
  replace H := Lib.hid (H.out.step hp)
  clear hp
  go_wp2_with fail
  refine (ris_any (w.heap.size + 1) X xn xc xs _ 1 _ (by rfl) _ H.out.wk (by simp)).mono ?_
  intro e w3 hp
  obtain rfl := hp.1
  replace H := Lib.hid (H.out.step hp)
  clear hp
  have p0 := H.out.box.cell 0
  go_wp2_with fail
  refine (rnumber_any (w.heap.size + 1) X xn xc xs _ V _ (by first | rfl | (simp only [IntKind.wrap_u64]; omega)) (by omega) _ H.out.wk (by simp)).mono ?_
  intro e w4 hp
  obtain rfl := hp.1
  replace H := Lib.hid (H.out.step hp)
  clear hp p0
  have p1 := H.out.box.cell 1
  go_wp2_with fail
  refine (rnumber_any (w.heap.size + 1) X xn xc xs _ S _ (by first | rfl | (simp only [IntKind.wrap_u64]; omega)) (by omega) _ H.out.wk (by simp; omega)).mono ?_
  intro e w5 hp
  obtain rfl := hp.1
  replace H := Lib.hid (H.out.step hp)
  clear hp p1
  have p2 := H.out.box.cell 2
  go_wp2_with fail
  refine (rnumber_any (w.heap.size + 1) X xn xc xs _ m _ (by first | rfl | (simp only [IntKind.wrap_u64]; omega)) (by omega) _ H.out.wk (by simp; omega)).mono ?_
  intro e w6 hp
  obtain rfl := hp.1
  replace H := Lib.hid (H.out.step hp)
  clear hp p2
  rw [← Hp0.out] at H
  clear Hp0 hlv hls hlm
  obtain ⟨b, hb⟩ : ∃ b : Ba, ((V : Int), (S : Int), li) = b := ⟨_, rfl⟩
  have hb2 : b.2.2 = li := by rw [← hb]
  rw [hb] at H Hf
  have Hb2 := Lib.hid hb2
  have Hb := Lib.hid hb
  clear hb2 hb
  go_wp2
  go_loopw [8] (fun ix wr => ∃ j : Nat, j ≤ n ∧ ix = .int .i64 (j : Int) ∧ Hid (WlkK w (w.heap.size + 1) X xn xc xs (V : Int) (S : Int) I m d (preB cs b j) wr)) (fun ix _ => n - (intOf ix).toNat)
  case atStart => exact ⟨0, Nat.zero_le _, rfl, H⟩
  case round =>
    clear H
    obtain ⟨j, hj, rfl, H⟩ := hrel
    by_cases hjn : j < n
    · have d1 : decide ((j : Int) < (n : Int)) = true := by simp; omega
      have e1 : (j : Int) < (n : Int) := by omega
      have hS : wr.grownBy wr.drew (some (w.heap.size + 1)) := grown_drew _ _
      obtain ⟨ad, co, rfl, hbk, hco, hat⟩ := cos_at (HC.out.below H.out.below) hjn
      obtain ⟨i0, nm, kk, nl, u0, x0, s0⟩ := co
      have hmk := mayCs_at Hf.out.may hco
      simp only at hmk
      have hk15 : kk = 1 ∨ kk = 2 ∨ kk = 3 ∨ kk = 4 ∨ kk = 5 := by
        obtain ⟨h1, h5⟩ : 1 ≤ kk ∧ kk ≤ 5 := by simpa [mayK] using hmk
        omega
      have hcolc := Hf.out.col hco
      simp only at hcolc
      have hszs := some_sizes hmk hcolc
      have hrow := row_in Hf.out (k := j) (by rw [Hnl.out]; exact hjn)
      have hok := col_ok (k := j) (by rw [Hb2.out]; exact Hok.out) hrow
      have hnx := preB_succ cs b j _ hco
      simp only at hnx
      have happ : preB cs b (j + 1) = preB cs b j ++ putB kk nl (colC li j) [] := by rw [hnx, Hb2.out]; simp [putB]
      have hple := Hf.out.preB_le (j + 1) (by rw [Hnl.out]; exact hjn)
      rw [happ, List.length_append] at hple
      rw [Hb2.out] at hcolc hszs hrow hok
      have hrl : ∀ it ∈ li, it.1.length ≤ 1048576 := fun it hit => by
        have := Hf.out.row (it := it) (by rw [Hb2.out]; exact hit)
        rw [this, Hnl.out]
        omega
      have Hcall := Lib.hid (fun W hW hI => rcolumn_any (w.heap.size + 1) X xn xc xs (preB cs b j) kk nl I m d li j W hW hI hm20 hrow hrl hk15 (fun s hs => by obtain ⟨c, hc, rfl⟩ := List.mem_map.1 hs; exact Nat.le_trans (hszs c hc) (by decide)) hok (by omega))
      have Happ := Lib.hid happ
      have q2 := hat.c2
      have q3 := hat.c3
      simp only at q2 q3
      have hblk : ad.block < w.heap.size := hbk
      have HL2 := Lib.hid (show ∀ w', wr.grownBy w' (some (w.heap.size + 1)) → w'.cell? ⟨(ad.add (j * 7)).block, (ad.add (j * 7)).off + 2, none⟩ = some (.int .i64 kk) from fun w' h => (World.cell?_of_block (w := wr) (h.block _ (by rw [block_of_add]; exact Nat.lt_of_lt_of_le hblk H.out.below.size) (by rw [block_of_add]; intro e; injection e with e; omega))).trans q2)
      have HL3 := Lib.hid (show ∀ w', wr.grownBy w' (some (w.heap.size + 1)) → w'.cell? ⟨(ad.add (j * 7)).block, (ad.add (j * 7)).off + 3, none⟩ = some (.bool nl) from fun w' h => (World.cell?_of_block (w := wr) (h.block _ (by rw [block_of_add]; exact Nat.lt_of_lt_of_le hblk H.out.below.size) (by rw [block_of_add]; intro e; injection e with e; omega))).trans q3)
      have HM2 := Lib.hid (show ∀ w', wr.grownBy w' (some (w.heap.size + 1)) → w'.cell? ⟨w.heap.size, 2, none⟩ = some (.slice I m d) from fun w' h => (World.cell?_of_block (w := wr) (h.block _ H.out.box.lt (by intro e; have e2 : w.heap.size = w.heap.size + 1 := (by injection e); omega))).trans (H.out.box.cell 2))
      clear hat hbk hco hmk hk15 hcolc hszs hrow hok hnx happ hple hrl q2 q3 hblk
      go_wp2
      refine wp_region_keep (fun w' => wr.grownBy w' (some (w.heap.size + 1))) [(0, false), (1, false), (2, false), (3, false), (4, false), (5, false), (6, false), (7, false), (8, false), (9, true)] (by kernel_rfl) (by kernel_rfl) (by kernel_rfl) (fun d _ _ _ _ h => by cases d <;> exact h) ?_
      iterate 5
        refine held_pure (v := ?_) rfl rfl (by simp [Region.wanted, yielded]) hS ?_ ?_
        rotate_left
        · intro w hw; go_simp; try with_reducible rfl
        try simp only [Act.put, List.setIfInBounds_toArray, List.set_cons_succ, List.set_cons_zero]
      refine held_pure (v := ?_) rfl rfl (by simp [Region.wanted, yielded]) hS ?_ ?_
      rotate_left
      · intro w hw; have c0 := HL2.out w hw; have c1 := HL3.out w hw; clear hw; go_simp; try with_reducible rfl
      try simp only [Act.put, List.setIfInBounds_toArray, List.set_cons_succ, List.set_cons_zero]
      refine held_pure (v := ?_) rfl rfl (by simp [Region.wanted, yielded]) hS ?_ ?_
      rotate_left
      · intro w hw; go_simp; try with_reducible rfl
      try simp only [Act.put, List.setIfInBounds_toArray, List.set_cons_succ, List.set_cons_zero]
      refine held_pure (v := ?_) rfl rfl (by simp [Region.wanted, yielded]) hS ?_ ?_
      rotate_left
      · intro w hw; have c0 := HM2.out w hw; clear hw; go_simp; try with_reducible rfl
      try simp only [Act.put, List.setIfInBounds_toArray, List.set_cons_succ, List.set_cons_zero]
      refine held_pure (v := ?_) rfl rfl (by simp [Region.wanted, yielded]) hS ?_ ?_
      rotate_left
      · intro w hw; go_simp; try with_reducible rfl
      try simp only [Act.put, List.setIfInBounds_toArray, List.set_cons_succ, List.set_cons_zero]
      refine held_eff1 rfl (by simp [Region.wanted, yielded]) fun K hK => ?_
      go_simp
      with_reducible refine (Hcall.out _ H.out.wk.drew ((HI.out.below H.out.below).more (Nat.le_succ _)).drew).mono ?_
      intro e w7 hp
      obtain rfl := hp.1
      have H2 := (H.out.on (show Below wr.heap.size wr wr.drew from (Below.refl _ _).drew)).step hp
      rw [← Happ.out] at H2
      replace H := Lib.hid H2
      have HS7 := Lib.hid (grown_trans (grown_drew wr (some (w.heap.size + 1))) hp.2.2)
      clear hp H2
      refine held_go hK (by exact HS7.out) fun hS => ?_
      clear hK K
      try simp only [Act.put, List.setIfInBounds_toArray, List.set_cons_succ, List.set_cons_zero]
      refine held_end ?_
      clear HL2 HL3 HM2 HS7 Hcall Happ hS
      go_wp2
      go_roundw
      case rel => exact ⟨j + 1, hjn, by go_num, H⟩
      case measure => simp [intOf]; omega
    · obtain rfl : j = n := by omega
      have d1 : decide ((j : Int) < (j : Int)) = false := by simp
      have hpw : preB cs b j = preW cs b 0 := by rw [preW_zero, Hnl.out]
      rw [hpw] at H
      clear hpw
      go_wp2
      go_loopw [9] (fun ix wr => ∃ i : Nat, i ≤ m ∧ ix = .int .i64 (i : Int) ∧ Hid (WlkK w (w.heap.size + 1) X xn xc xs (V : Int) (S : Int) I m d (preW cs b i) wr)) (fun ix _ => m - (intOf ix).toNat)
      case atStart => exact ⟨0, Nat.zero_le _, rfl, H⟩
      case round =>
        clear H d1
        obtain ⟨i, hi, rfl, H⟩ := hrel
        have p2 := H.out.box.cell 2
        by_cases him : i < m
        · have d1 : decide ((i : Int) < (m : Int)) = true := by simp; omega
          have e1 : (i : Int) < (m : Int) := by omega
          obtain ⟨ad, A', c', it, rfl, -, hit, -, h1, -, -, -⟩ := (HI.out.below H.out.below).at_ him
          have hx := (Hok.out it (List.mem_of_getElem? hit)).2
          have Hst := Lib.hid (preW_succ cs b i it (by rw [Hb2.out]; exact hit))
          have hle := Hf.out.preW_le i
          generalize it.2 = wt at *
          clear hit
          go_wp2_with fail
          refine (rzigzag_any (w.heap.size + 1) X xn xc xs _ wt hx.1 hx.2 _ H.out.wk (by omega)).mono ?_
          intro e w7 hp
          obtain rfl := hp.1
          have H2 := H.out.step hp
          rw [← Hst.out] at H2
          replace H := Lib.hid H2
          clear hp H2 p2 h1 hx hle
          go_wp2
          go_roundw
          case rel => exact ⟨i + 1, him, by go_num, H⟩
          case measure => simp [intOf]; omega
        · obtain rfl : i = m := by omega
          have d1 : decide ((i : Int) < (i : Int)) = false := by simp
          have hpe : preW cs b i = bodyB cs b := by rw [← Hml.out, ← Hb2.out]; exact preW_end cs b
          rw [hpe] at H
          have HE := Lib.hid (show encA cs b = bodyB cs b ++ sumB (crcS (bodyB cs b)) from rfl)
          have hle := Hf.out.body_le
          obtain ⟨bb, hbb⟩ : ∃ bb, bodyB cs b = bb := ⟨_, rfl⟩
          rw [hbb] at H HE hle
          obtain ⟨sm, hsm⟩ : ∃ sm, crcS bb = sm := ⟨_, rfl⟩
          have hsl : sm < 4294967296 := by rw [← hsm]; exact crcS_lt _
          rw [hsm] at HE
          have q4 : wr.cell? ⟨w.heap.size + 1, 4, none⟩ = some (.int .u32 (sm : Int)) := by rw [← hsm]; exact H.out.wk.blk.cell 4
          clear hpe hbb hsm
          go_wp2_with fail
          with_reducible refine (rbytes_any sm hsl _).mono ?_
          rintro e w7 ⟨g7, rfl, hg7, ho7, hb7⟩
          have HO := Lib.hid ho7
          replace H := Lib.hid (H.out.on hb7)
          clear ho7 hb7 hg7 q4 p2
          go_wp2
          go_loopw [11] (fun ix wr => ∃ q : Nat, q ≤ 4 ∧ ix = .int .i64 (q : Int) ∧ Hid (WlkK w (w.heap.size + 1) X xn xc xs (V : Int) (S : Int) I i d (bb ++ (sumB sm).take q) wr) ∧ Hid (∃ bs, wr.ownsRow bs 5 1 (.slice (some ⟨g7, 0, none⟩) 4 4) 4 (u8s (sumB sm)))) (fun ix _ => 4 - (intOf ix).toNat)
          case atStart => exact ⟨0, by omega, rfl, Lib.hid (by rw [List.take_zero, List.append_nil]; exact H.out), Lib.hid ⟨_, HO.out⟩⟩
          case round =>
            clear H d1 HO
            obtain ⟨q, hq, rfl, H, HO⟩ := hrel
            by_cases hq4 : q < 4
            · have d1 : decide ((q : Int) < 4) = true := by simp; omega
              have e1 : (q : Int) < 4 := by omega
              obtain ⟨bs, ho⟩ := HO.out
              obtain ⟨x, hx⟩ : ∃ x, (sumB sm)[q]? = some x := ⟨_, List.getElem?_eq_getElem (by rw [sumB_len]; exact hq4)⟩
              have c1 : wr.cell? ⟨g7, q, none⟩ = some (.int .u8 (x.toNat : Int)) := by
                rw [ho.cellAt q (by omega)]
                simp [u8s, hx]
              have Hst := Lib.hid (show (sumB sm).take (q + 1) = (sumB sm).take q ++ [x] by rw [List.take_add_one, hx]; rfl)
              have Ho := Lib.hid ho
              clear hx ho HO
              go_wp2_with fail
              refine (ris_any (w.heap.size + 1) X xn xc xs _ x _ rfl _ H.out.wk (by rw [List.length_append, List.length_take]; omega)).mono ?_
              intro e w8 hp
              obtain rfl := hp.1
              have H2 := H.out.step hp
              rw [List.append_assoc, ← Hst.out] at H2
              have HO2 := Lib.hid (show ∃ bs, w8.ownsRow bs 5 1 (.slice (some ⟨g7, 0, none⟩) 4 4) 4 (u8s (sumB sm)) from ⟨bs, own_grown Ho.out H.out.wk.blk (by decide) hp.2.2⟩)
              replace H := Lib.hid H2
              clear hp H2 c1 Ho
              go_wp2
              go_roundw
              case rel => exact ⟨q + 1, hq4, by go_num, H, HO2⟩
              case measure => simp [intOf]; omega
            · obtain rfl : q = 4 := by omega
              have d1 : decide ((4 : Int) < 4) = false := by simp
              rw [List.take_of_length_le (by rw [sumB_len]; exact Nat.le_refl _), ← HE.out, ← Hb.out] at H
              go_wp2
              go_ret
              exact ⟨_, rfl, H.out.wk, H.out.below⟩
end Go.Proofs.YtegcbjkikhheiaaGreatDoor
namespace Go.Proofs.YtegcbjkikhheiaaGreatDoor
open Go.RowKit
set_option maxRecDepth 100000 in
set_option maxHeartbeats 2000000 in
theorem rgsize_any (A : Option Addr) (n c : Nat) (cs : List Co) (v s : Int) (I : Option Addr) (m d : Nat) (li : List It) (w : World) (hr : Reads w w.heap.size 7 A n (cos cs)) (hn : n ≤ maxLen) (hi : ItemsAt w w.heap.size I m li) (hm : m ≤ maxLen) (hs : s ≤ 9223372036854775807) (hok : ItOk li) :
    Calls Tryz.prog 25 #[.slice A n c, .agg #[.int .i64 v, .int .i64 s, .slice I m d]] w fun e w' => e = .returned (.tuple #[.int .i64 (sizeV cs (v, s, li)), .int .i64 (batE cs (v, s, li))]) ∧ Below w.heap.size w w' := by
  have Hr := Lib.hid hr
  have Hi := Lib.hid hi
  have Hok := Lib.hid hok
  have HP := Lib.hid (Blk.new w 25 #[.int .i64 v, .int .i64 s, .slice I m d])
  have HB := Lib.hid (bal (Below.refl w.heap.size w) (.cells #[.int .i64 v, .int .i64 s, .slice I m d] 25))
  have p0 := HP.out.cell 0
  have p1 := HP.out.cell 1
  have p2 := HP.out.cell 2
  clear hr hi hok
  go_enter Tryz.func25, Tryz.ntmps25
  go_wp2_with fail
  with_reducible refine (rcheck17_any A n c cs v s I m d li _ (Hr.out.on HB.out) hn (Hi.out.on HB.out) hm Hok.out).mono ?_
  rintro e w1 ⟨rfl, hb1⟩
  replace HP := Lib.hid (HP.out.on hb1)
  replace HB := Lib.hid (bon HB.out hb1)
  clear hb1 p0 p1 p2
  have p0 := HP.out.cell 0
  have p1 := HP.out.cell 1
  have p2 := HP.out.cell 2
  by_cases hE : batE cs (v, s, li) = 0
  · have Hf := Lib.hid ((fits_iff _ _).1 hE)
    have Hsv := Lib.hid (sizeV_ok hE)
    have HE0 := Lib.hid hE
    rw [hE]
    clear hE
    go_wp2_with fail
    with_reducible refine (rwalk_any A n c cs v s I m d li none 0 0 [] _ (Hr.out.on HB.out) (Hi.out.on HB.out) Reads.none_ (by decide) Hf.out hs Hok.out).mono ?_
    rintro e w2 ⟨g, rfl, hw, hb2⟩
    have q2 := hw.blk.cell 2
    have HB2 := Lib.hid (bon HB.out hb2)
    clear hw hb2 p0 p1 p2
    go_wp2
    go_ret2
    rw [Hsv.out, HE0.out]
    exact ⟨rfl, HB2.out⟩
  · have Hsv := Lib.hid (sizeV_no hE)
    obtain ⟨E, hEE⟩ : ∃ E, batE cs (v, s, li) = E := ⟨_, rfl⟩
    rw [hEE] at hE ⊢
    have HEE := Lib.hid hEE
    have d1 : (E != 0) = true := by simpa using hE
    clear hE hEE
    go_wp2
    go_ret2
    rw [Hsv.out, HEE.out]
    exact ⟨rfl, HB.out⟩
set_option maxRecDepth 100000 in
set_option maxHeartbeats 2000000 in
theorem rgwhere_any (A : Option Addr) (n c : Nat) (cs : List Co) (v s : Int) (I : Option Addr) (m d : Nat) (li : List It) (X : Option Addr) (xn xc : Nat) (xs : List UInt8) (w : World) (hr : Reads w w.heap.size 7 A n (cos cs)) (hn : n ≤ maxLen) (hi : ItemsAt w w.heap.size I m li) (hm : m ≤ maxLen) (hs : s ≤ 9223372036854775807) (hok : ItOk li)
    (hx : Reads w w.heap.size 1 X xn (u8s xs)) (hxn : xn ≤ maxLen) :
    Calls Tryz.prog 27 #[.slice A n c, .agg #[.int .i64 v, .int .i64 s, .slice I m d], .slice X xn xc] w fun e w' => e = .returned (.tuple #[.int .i64 (whereV cs (v, s, li) xs), .int .i64 (batE cs (v, s, li))]) ∧ Below w.heap.size w w' := by
  have Hx := Lib.hid hx
  clear hx
  have Hr := Lib.hid hr
  have Hi := Lib.hid hi
  have Hok := Lib.hid hok
  have HP := Lib.hid (Blk.new w 25 #[.int .i64 v, .int .i64 s, .slice I m d])
  have HB := Lib.hid (bal (Below.refl w.heap.size w) (.cells #[.int .i64 v, .int .i64 s, .slice I m d] 25))
  have p0 := HP.out.cell 0
  have p1 := HP.out.cell 1
  have p2 := HP.out.cell 2
  clear hr hi hok
  go_enter Tryz.func27, Tryz.ntmps27
  go_wp2_with fail
  with_reducible refine (rcheck17_any A n c cs v s I m d li _ (Hr.out.on HB.out) hn (Hi.out.on HB.out) hm Hok.out).mono ?_
  rintro e w1 ⟨rfl, hb1⟩
  replace HP := Lib.hid (HP.out.on hb1)
  replace HB := Lib.hid (bon HB.out hb1)
  clear hb1 p0 p1 p2
  have p0 := HP.out.cell 0
  have p1 := HP.out.cell 1
  have p2 := HP.out.cell 2
  by_cases hE : batE cs (v, s, li) = 0
  · have Hf := Lib.hid ((fits_iff _ _).1 hE)
    have Hsv := Lib.hid (whereV_ok hE xs)
    have HE0 := Lib.hid hE
    rw [hE]
    clear hE
    go_wp2_with fail
    with_reducible refine (rwalk_any A n c cs v s I m d li X xn xc xs _ (Hr.out.on HB.out) (Hi.out.on HB.out) (Hx.out.on HB.out) hxn Hf.out hs Hok.out).mono ?_
    rintro e w2 ⟨g, rfl, hw, hb2⟩
    have q1 := hw.blk.cell 1
    have HB2 := Lib.hid (bon HB.out hb2)
    clear hw hb2 p0 p1 p2
    go_wp2
    go_ret2
    rw [Hsv.out, HE0.out]
    exact ⟨rfl, HB2.out⟩
  · have Hsv := Lib.hid (whereV_no hE xs)
    obtain ⟨E, hEE⟩ : ∃ E, batE cs (v, s, li) = E := ⟨_, rfl⟩
    rw [hEE] at hE ⊢
    have HEE := Lib.hid hEE
    have d1 : (E != 0) = true := by simpa using hE
    clear hE hEE
    go_wp2
    go_ret2
    rw [Hsv.out, HEE.out]
    exact ⟨rfl, HB.out⟩
set_option maxRecDepth 100000 in
set_option maxHeartbeats 2000000 in
theorem rgmatch_any (A : Option Addr) (n c : Nat) (cs : List Co) (v s : Int) (I : Option Addr) (m d : Nat) (li : List It) (X : Option Addr) (xn xc : Nat) (xs : List UInt8) (w : World) (hr : Reads w w.heap.size 7 A n (cos cs)) (hn : n ≤ maxLen) (hi : ItemsAt w w.heap.size I m li) (hm : m ≤ maxLen) (hs : s ≤ 9223372036854775807) (hok : ItOk li)
    (hx : Reads w w.heap.size 1 X xn (u8s xs)) (hxn : xn ≤ maxLen) :
    Calls Tryz.prog 28 #[.slice A n c, .agg #[.int .i64 v, .int .i64 s, .slice I m d], .slice X xn xc] w fun e w' => e = .returned (.int .i64 (matchV cs (v, s, li) xs)) ∧ Below w.heap.size w w' := by
  have Hx := Lib.hid hx
  have hxl : xs.length = xn := by have := hx.1; simpa [u8s] using this
  clear hx
  have Hr := Lib.hid hr
  have Hi := Lib.hid hi
  have Hok := Lib.hid hok
  have HP := Lib.hid (Blk.new w 25 #[.int .i64 v, .int .i64 s, .slice I m d])
  have HB := Lib.hid (bal (Below.refl w.heap.size w) (.cells #[.int .i64 v, .int .i64 s, .slice I m d] 25))
  have p0 := HP.out.cell 0
  have p1 := HP.out.cell 1
  have p2 := HP.out.cell 2
  clear hr hi hok
  go_enter Tryz.func28, Tryz.ntmps28
  go_wp2_with fail
  with_reducible refine (rcheck17_any A n c cs v s I m d li _ (Hr.out.on HB.out) hn (Hi.out.on HB.out) hm Hok.out).mono ?_
  rintro e w1 ⟨rfl, hb1⟩
  replace HP := Lib.hid (HP.out.on hb1)
  replace HB := Lib.hid (bon HB.out hb1)
  clear hb1 p0 p1 p2
  have p0 := HP.out.cell 0
  have p1 := HP.out.cell 1
  have p2 := HP.out.cell 2
  by_cases hE : batE cs (v, s, li) = 0
  · have Hf := Lib.hid ((fits_iff _ _).1 hE)
    have Hmv := Lib.hid (matchV_ok hE xs)
    have hle := ((fits_iff _ _).1 hE).enc_le
    have hl1 := lcp_le1 (encA cs (v, s, li)) xs
    have hl2 := lcp_le2 (encA cs (v, s, li)) xs
    have Hyes := Lib.hid (match_yes (cs := cs) (b := (v, s, li)) (xs := xs))
    have Hno := Lib.hid (match_no (cs := cs) (b := (v, s, li)) (xs := xs))
    rw [hE]
    clear hE
    go_wp2_with fail
    with_reducible refine (rwalk_any A n c cs v s I m d li X xn xc xs _ (Hr.out.on HB.out) (Hi.out.on HB.out) (Hx.out.on HB.out) hxn Hf.out hs Hok.out).mono ?_
    rintro e w2 ⟨g, rfl, hw, hb2⟩
    have q1 := hw.blk.cell 1
    have q3 := hw.blk.cell 3
    have HB2 := Lib.hid (bon HB.out hb2)
    clear hw hb2 p0 p1 p2
    obtain ⟨a, ha⟩ : ∃ a, lcp (encA cs (v, s, li)) xs = a := ⟨_, rfl⟩
    obtain ⟨b, hb⟩ : ∃ b, (encA cs (v, s, li)).length = b := ⟨_, rfl⟩
    rw [ha, hb] at q3
    rw [ha] at q1
    rw [ha, hb, hxl] at Hyes Hno
    rw [ha, hb] at hl1
    rw [ha, hxl] at hl2
    clear ha hb hle
    by_cases h1 : a < b
    · have HY := Lib.hid (Hyes.out (by omega))
      rw [decide_eq_true h1] at q3
      clear Hyes Hno
      go_wp2
      go_ret
      exact ⟨by rw [Hmv.out, if_neg HY.out]; rfl, HB2.out⟩
    · rw [decide_eq_false h1] at q3
      by_cases h2 : a < xn
      · have HY := Lib.hid (Hyes.out (.inl h2))
        have d1 : decide ((a : Int) < (xn : Int)) = true := by simp; omega
        clear Hyes Hno
        go_wp2
        go_ret
        exact ⟨by rw [Hmv.out, if_neg HY.out]; rfl, HB2.out⟩
      · have HY := Lib.hid (Hno.out (by omega))
        have d1 : decide ((a : Int) < (xn : Int)) = false := by simp; omega
        clear Hyes Hno
        go_wp2
        go_ret
        exact ⟨by rw [Hmv.out, if_pos HY.out]; rfl, HB2.out⟩
  · have Hmv := Lib.hid (matchV_no hE xs)
    obtain ⟨E, hEE⟩ : ∃ E, batE cs (v, s, li) = E := ⟨_, rfl⟩
    rw [hEE] at hE Hmv ⊢
    have d1 : (E != 0) = true := by simpa using hE
    clear hE hEE
    go_wp2
    go_ret
    exact ⟨by rw [Hmv.out]; rfl, HB.out⟩
end Go.Proofs.YtegcbjkikhheiaaGreatDoor
