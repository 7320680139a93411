/- Part 19 of the walks, merged: each text under its own heading. Conditions: none of its own; each lemma states what it asks. -/
import Derived.Test.YtdajddkbkbnoiaaGreatDoorBr18
import Derived.Deep.Fields
import Derived.Lib.LaidIn
import Derived.Lib.LaidU8T
import GoSem.PinnedTables
set_option linter.unusedVariables false
set_option linter.unusedSimpArgs false
namespace Go.Proofs.YtdajddkbkbnoiaaGreatDoor
open Go.RowKit
set_option maxRecDepth 100000 in
set_option maxHeartbeats 2000000 in
theorem rget_any (B : Option Addr) (m cb : Nat) (xs : List UInt8) (k : Int) (nl : Bool) (n : Int) (w : World) (hr : Reads w w.heap.size 1 B m (u8s xs)) (hm : m ≤ cb) (hc : cb ≤ maxLen) (hn1 : -9223372036854775808 ≤ n) (hn2 : n ≤ 9223372036854775807) :
    Calls Tryz.prog 75 #[.slice B m cb, .agg #[.int .i64 k, .bool nl], .int .i64 n] w (GotC3 (getC k nl xs n) w) := by
  obtain ⟨j0, hj0, hk0, hj1, hk2⟩ := info_parts cell_info
  have Hr := Lib.hid hr
  have Hmc := Lib.hid (And.intro hm hc)
  have Hxl := Lib.hid (show xs.length = m from reads_len hr)
  have B4 := Lib.hid (Blk.new w 58 #[.int .i64 k, .bool nl])
  clear hr hm hc
  go_enter Tryz.func75, Tryz.ntmps75
  go_wp2_with fail
  with_reducible refine (rmay_any k nl _).mono ?_
  rintro e w1 ⟨rfl, hb1⟩
  have HB := Lib.hid (bon ((Below.refl _ w).alloc (Nat.le_refl _) (.cells #[.int .i64 k, .bool nl] 58)) hb1)
  replace B4 := Lib.hid (B4.out.on hb1)
  clear hb1
  cases hmk : mayK k with
  | false =>
    have HE := Lib.hid (show getC k nl xs n = .error 2 by unfold getC; rw [if_pos hmk])
    go_wp2
    go_ret3
    rw [HE.out]
    exact ⟨HB.out, rfl, by decide⟩
  | true =>
    obtain ⟨hk1, hk5⟩ : 1 ≤ k ∧ k ≤ 5 := by simpa [mayK] using hmk
    by_cases hn0 : n < 0
    · have d1 : decide (n < 0) = true := decide_eq_true hn0
      have HE := Lib.hid (show getC k nl xs n = .error 6 by unfold getC; rw [if_neg (by simp [hmk]), if_pos (.inl hn0)])
      go_wp2
      go_ret3
      rw [HE.out]
      exact ⟨HB.out, rfl, by decide⟩
    · have d1 : decide (n < 0) = false := decide_eq_false hn0
      by_cases hn1' : 1048576 < n
      · have d2 : decide (1048576 < n) = true := decide_eq_true hn1'
        have HE := Lib.hid (show getC k nl xs n = .error 6 by unfold getC; rw [if_neg (by simp [hmk]), if_pos (.inr hn1')])
        go_wp2
        go_ret3
        rw [HE.out]
        exact ⟨HB.out, rfl, by decide⟩
      · have d2 : decide (1048576 < n) = false := decide_eq_false hn1'
        have hgc : getC k nl xs n = if nl = false then getB k xs n else if (unpackL xs n).2.2 = 0 then
            (match getB k (xs.drop (unpackL xs n).2.1) (countL (unpackL xs n).1 : Int) with
              | .ok (l, s) => .ok (mergeL (unpackL xs n).1 l, (unpackL xs n).2.1 + s)
              | .error e => .error e)
          else .error (unpackL xs n).2.2 := by
          unfold getC
          rw [if_neg (by simp [hmk]), if_neg (by omega)]
          rfl
        have Hgc := Lib.hid hgc
        obtain ⟨N, rfl⟩ : ∃ N : Nat, n = (N : Int) := ⟨n.toNat, by omega⟩
        have HN := Lib.hid (show N ≤ 1048576 by omega)
        have c40 := B4.out.cell 0
        have c41 := B4.out.cell 1
        clear hgc hn0 hn1'
        cases nl with
        | false =>
          have hgc2 := Hgc.out
          rw [if_pos rfl] at hgc2
          have Hgc := Lib.hid hgc2
          clear hgc2
          go_wp2_with fail
          with_reducible refine (rsome_any k B m cb xs N _ ((Hr.out.below HB.out).more HB.out.size) Hmc.out.1 Hmc.out.2 HN.out hk1 hk5).mono ?_
          rintro e w3 ⟨hb3, hm3⟩
          have HB := Lib.hid (HB.out.trans (hb3.mono HB.out.size))
          have HBw := Lib.hid (show w.heap.size ≤ w1.heap.size from B4.out.lt |> Nat.le_of_lt)
          rcases hg : getB k xs (N : Int) with er | ⟨l, s⟩
          · rw [hg] at hm3
            obtain ⟨rfl, he⟩ := hm3
            have HE := Lib.hid (Hgc.out.trans hg)
            clear hg hb3
            go_wp2
            go_ret3
            rw [HE.out]
            exact ⟨HB.out, rfl, he⟩
          · rw [hg] at hm3
            obtain ⟨q1, A7, c7, rfl, q2, q3, q4⟩ := hm3
            have HE := Lib.hid (Hgc.out.trans hg)
            have Q := Lib.hid (And.intro q1 (And.intro q2 (And.intro q3 q4)))
            clear hg hb3 q1 q2 q3 q4
            go_wp2
            go_ret3
            rw [HE.out]
            exact ⟨HB.out, Q.out.1, A7, c7, rfl, Q.out.2.1, Q.out.2.2.1, own_mono Q.out.2.2.2 HBw.out⟩
        | true =>
          have hgc2 := Hgc.out
          rw [if_neg (by simp)] at hgc2
          have Hgc := Lib.hid hgc2
          clear hgc2
          go_wp2_with fail
          with_reducible refine (refmunpack_any B m cb xs N _ ((Hr.out.below HB.out).more HB.out.size) Hmc.out.1 Hmc.out.2 (by have := HN.out; omega) (by have := HN.out; omega)).mono ?_
          rintro e w3 ⟨AT, cT, rfl, q1, q2, q3, q4⟩
          have hlen0 : (unpackL xs (N : Int)).2.2 = 0 → (unpackL xs (N : Int)).1.length = N := by
            rcases unpackL_only xs (N : Int) with ⟨l, t, e, hh, -⟩ | ⟨e, h, hh, -⟩
            · rw [e]; intro _; simp only; omega
            · rw [h]; intro h0; exact absurd h0 hh
          have hsz0 := (unpackL_size xs (N : Int)).1
          rw [Hxl.out] at hsz0
          generalize unpackL xs (N : Int) = r at *
          obtain ⟨bl, sz, er⟩ := r
          simp only at q1 q2 q3 q4 hlen0 hsz0 Hgc
          have B4 := Lib.hid (B4.out.on q4)
          have HB := Lib.hid (HB.out.trans (q4.mono HB.out.size))
          by_cases he : er = 0
          · subst he
            have hgc2 := Hgc.out
            simp only [if_true] at hgc2
            have Hgc := Lib.hid hgc2
            have HbN := Lib.hid (hlen0 rfl)
            have HL := Lib.hid q3
            have Q1 := Lib.hid (And.intro q1 q2)
            have hcl : countL bl ≤ 1048576 := Nat.le_trans (countL_le bl) (by rw [HbN.out]; exact HN.out)
            have Hcl := Lib.hid hcl
            clear hgc2 hlen0 q1 q2 q3 q4 hcl c40 c41
            go_wp2
            have hS : Below w3.heap.size w3 w3.drew := (Below.refl _ _).drew
            have HK := Lib.hid (show ∀ w', Below w3.heap.size w3 w' → w'.cell? ⟨w.heap.size, 0, none⟩ = some (.int .i64 k) from fun w' h => (B4.out.on h).cell 0)
            have hcut := ((Hr.out.below HB.out).more HB.out.size).cut (k := sz) hsz0 Hmc.out.1
            rw [Nat.mul_one, u8s_drop] at hcut
            have hcm : cb ≤ 9223372036854775807 := by have := Hmc.out.2; simp only [maxLen] at this; omega
            have hmc1 := Hmc.out.1
            obtain ⟨A2, hA2⟩ : ∃ A2, (if cb = sz then B else Option.map (fun x => x.add sz) B) = A2 := ⟨_, rfl⟩
            rw [hA2] at hcut
            have Hcut := Lib.hid hcut
            have d1' : ((sz : Nat) : Int).toNat = sz := by simp
            clear hcut
            refine wp_region_keep (fun w' => Below w3.heap.size w3 w') [(0, false), (1, false), (2, false), (3, false), (4, false), (5, false), (6, true), (7, true), (8, false), (9, false), (10, false), (11, false), (12, false), (13, false), (14, false)] (by kernel_rfl) (by kernel_rfl) (by kernel_rfl) (fun d _ _ _ _ h => by cases d <;> exact h) ?_
            iterate 4
              refine held_pure (v := ?_) rfl rfl (by simp [Region.wanted, yielded]) hS ?_ ?_
              rotate_left
              · intro w hw; go_simp; try with_reducible rfl
              try simp only [Act.put, List.setIfInBounds_toArray, List.set_cons_succ, List.set_cons_zero]
            refine held_pure (v := ?_) rfl rfl (by simp [Region.wanted, yielded]) hS ?_ ?_
            rotate_left
            · intro w hw; have c0 := HK.out w hw; clear hw; go_simp; try with_reducible rfl
            try simp only [Act.put, List.setIfInBounds_toArray, List.set_cons_succ, List.set_cons_zero]
            refine held_pure (v := ?_) rfl rfl (by simp [Region.wanted, yielded]) hS ?_ ?_
            rotate_left
            · intro w hw; go_simp; try with_reducible rfl
            try simp only [Act.put, List.setIfInBounds_toArray, List.set_cons_succ, List.set_cons_zero]
            clear hA2
            refine held_eff1 rfl (by simp [Region.wanted, yielded]) fun K hK => ?_
            go_simp
            with_reducible refine (refmcount_any AT bl.length cT bl _ (HL.out.on hS) Q1.out.1 Q1.out.2).mono ?_
            rintro e w5 ⟨rfl, rfl⟩
            refine held_go hK (by exact hS) fun hS => ?_
            clear hK K
            try simp only [Act.put, List.setIfInBounds_toArray, List.set_cons_succ, List.set_cons_zero]
            refine held_eff1 rfl (by simp [Region.wanted, yielded]) fun K hK => ?_
            go_simp
            with_reducible refine (rsome_any k A2 (m - sz) (cb - sz) (xs.drop sz) (countL bl) _ (Hcut.out.on hS) (by omega) (by have := Hmc.out.2; omega) Hcl.out hk1 hk5).mono ?_
            rintro e w7 ⟨hb7, hm7⟩
            rcases hg : getB k (xs.drop sz) (countL bl : Int) with er | ⟨l, s⟩
            · rw [hg] at hm7
              obtain ⟨rfl, he⟩ := hm7
              have HE := Lib.hid (show getC k true xs (N : Int) = .error er by rw [Hgc.out, hg]; simp)
              have hne : ((er : Int) == 0) = false := by simp; omega
              have hne2 : ((er : Int) != 0) = true := by simp; omega
              clear hg
              refine held_go hK (by exact bon hS hb7) fun hS => ?_
              clear hK K
              try simp only [Act.put, List.setIfInBounds_toArray, List.set_cons_succ, List.set_cons_zero]
              clear hb7
              iterate 7
                refine held_pure (v := ?_) rfl rfl (by simp [Region.wanted, yielded]) hS ?_ ?_
                rotate_left
                · intro w hw; go_simp; try with_reducible rfl
                try simp only [Act.put, List.setIfInBounds_toArray, List.set_cons_succ, List.set_cons_zero]
              refine held_end ?_
              go_wp2
              go_ret3
              rw [HE.out]
              exact ⟨HB.out.trans (hS.mono HB.out.size), rfl, he⟩
            · rw [hg] at hm7
              obtain ⟨q3, A7, c7, rfl, q5, q6, q7⟩ := hm7
              have HE := Lib.hid (show getC k true xs (N : Int) = .ok (mergeL bl l, sz + s) by rw [Hgc.out, hg]; simp)
              have hgo := getB_only k hk1 hk5 _ _ l s hg
              have Hlen := Lib.hid hgo.1
              have Hsm := Lib.hid (show s ≤ m - sz by have := hgo.2.2.1; rw [List.length_drop, Hxl.out] at this; exact this)
              have HR := Lib.hid (Reads.of_own q7)
              have Q3 := Lib.hid q3
              clear hg hgo q3 q5 q6 q7
              refine held_go hK (by exact bon hS hb7) fun hS => ?_
              clear hK K
              try simp only [Act.put, List.setIfInBounds_toArray, List.set_cons_succ, List.set_cons_zero]
              clear hb7
              iterate 7
                refine held_pure (v := ?_) rfl rfl (by simp [Region.wanted, yielded]) hS ?_ ?_
                rotate_left
                · intro w hw; go_simp; try with_reducible rfl
                try simp only [Act.put, List.setIfInBounds_toArray, List.set_cons_succ, List.set_cons_zero]
              refine held_end ?_
              obtain ⟨b2, hb2⟩ : ∃ b2, b2 = w7.heap.size := ⟨_, rfl⟩
              have HL := Lib.hid (show Reads w7 b2 1 AT bl.length (bls bl) by rw [hb2]; exact HL.out.on hS)
              have HR := Lib.hid (show Reads w7 b2 3 A7 l.length (cls l) by rw [hb2]; exact HR.out)
              have HB := Lib.hid (HB.out.trans (hS.mono HB.out.size))
              have Hwb := Lib.hid (show w.heap.size ≤ b2 by rw [hb2]; exact HB.out.size)
              have Hb2 := Lib.hid (show b2 ≤ w7.heap.size by omega)
              have hN2 := HN.out
              clear hS hb2 HK
              go_wp2
              go_loopw [15, 16, 17] (fun v kk i wr => ∃ (j : Nat) (A9 : Option Addr) (c9 : Nat), j ≤ N ∧ v = .slice A9 j c9 ∧ kk = .int .i64 ((countL (bl.take j) : Nat) : Int) ∧ i = .int .i64 (j : Int) ∧ Hid (wr.ownsRow b2 60 3 (.slice A9 j c9) j (cls (mergeL (bl.take j) l))) ∧ Hid (Reads wr b2 1 AT bl.length (bls bl)) ∧ Hid (Reads wr b2 3 A7 l.length (cls l)) ∧ Hid (b2 ≤ wr.heap.size) ∧ Hid (Below w.heap.size w wr)) (fun _ _ i _ => N - (intOf i).toNat)
              case atStart => exact ⟨0, none, 0, Nat.zero_le _, rfl, by simp [countL], rfl, Lib.hid (by simpa [mergeL, cls] using World.ownsRow_nil _ _ _ _), HL, HR, Hb2, HB⟩
              case round =>
                obtain ⟨j, A9, c9, hj, rfl, rfl, rfl, HO, HL, HR, Hb2, HB⟩ := hrel
                by_cases hlt : j < N
                · obtain ⟨ad, u, rfl, hbk, hu, hcell⟩ := HL.out.at_ (show j < bl.length by have := HbN.out; omega)
                  obtain ⟨is, hx, rfl⟩ := bls_get _ _ _ hu
                  have Hx := Lib.hid hx
                  have hms := mergeL_step bl l j is hx (by rw [Hlen.out]; exact Nat.le_refl _)
                  have Hms := Lib.hid hms
                  have hjb : j < bl.length := by have := HbN.out; omega
                  have hs1 : j + 1 ≤ maxLen := by simp only [maxLen]; omega
                  have hs2 : (j + 1) * 32 ≤ 70368744177664 := by omega
                  have hct := count_step bl j is hx
                  have hle := countL_append (bl.take (j + 1)) (bl.drop (j + 1))
                  rw [List.take_append_drop] at hle
                  obtain ⟨cj, hcj⟩ : ∃ cj, cj = countL (bl.take j) := ⟨_, rfl⟩
                  rw [← hcj] at hct Hms ⊢
                  have hcc := Hcl.out
                  have hll := Hlen.out
                  clear hu hx hbk hms hcj
                  cases is with
                  | false =>
                    simp only [Bool.false_eq_true, if_false, Nat.add_zero] at hct
                    have Hct := Lib.hid hct
                    have HM := Lib.hid (show mergeL (bl.take (j + 1)) l = mergeL (bl.take j) l ++ [(true, 0, ⟨#[]⟩)] by rw [Hms.out]; rfl)
                    clear hct hle hll
                    go_wp2_with (at_builtin
                                 refine wpList_append_any _ rfl (.tmp 81) (.tmp 83) 63 rfl b2 60 j0 (.agg #[.bool false, .int .i64 0, .string ⟨#[]⟩]) 3 32 Tryz.underlying63 hj0 hk0 hj1 hk2 rfl (by decide) A9 j c9 _ rfl (own_below HO.out ((Below.refl _ wr).alloc (Nat.le_refl _) (.cells #[.bool true, .int .i64 0, .string ⟨#[]⟩] 60))) (some ⟨_, 0, none⟩) 1 1 (cls [(true, 0, ⟨#[]⟩)]) rfl (by exact reads_cellb _ _ (by simp) _ _ _) (cls_one _) hs1 hs2 (Nat.le_trans Hb2.out (by simp)) ?_
                                 intro A8 c8 w8 r1 r2 r3 r4 r5
                                 have R1 := Lib.hid r1
                                 have R2 := Lib.hid r2
                                 clear r1 r2 r3 r4 r5)
                    have HX := Lib.hid (show w8.ownsRow b2 60 3 (.slice A8 (j + 1) c8) (j + 1) (cls (mergeL (bl.take (j + 1)) l)) by rw [HM.out, cls_append]; exact R1.out)
                    have HL := Lib.hid ((HL.out.alloc Hb2.out (.cells #[.bool true, .int .i64 0, .string ⟨#[]⟩] 60)).below R2.out)
                    have HR := Lib.hid ((HR.out.alloc Hb2.out (.cells #[.bool true, .int .i64 0, .string ⟨#[]⟩] 60)).below R2.out)
                    have HB := Lib.hid ((HB.out.alloc HB.out.size (.cells #[.bool true, .int .i64 0, .string ⟨#[]⟩] 60)).trans (R2.out.mono Hwb.out))
                    have Hb2 := Lib.hid (show b2 ≤ w8.heap.size from Nat.le_trans (Nat.le_trans Hb2.out (by simp)) R2.out.size)
                    go_roundw
                    case rel => exact ⟨j + 1, A8, c8, by omega, rfl, by first | (rw [Hct.out]; done) | (rw [Hct.out]; go_num), by go_num, HX, HL, HR, Hb2, HB⟩
                    case measure => simp [intOf]; omega
                  | true =>
                    simp only [if_true] at hct
                    have hcl2 : cj < l.length := by omega
                    have hcli : (cj : Int) < (l.length : Int) := by omega
                    have Hct := Lib.hid hct
                    obtain ⟨ad2, u2, m2, s2, hA7, hbk2, hx2, h0, h1, h2⟩ := cls_at HR.out hcl2
                    have HA7 := Lib.hid hA7
                    subst hA7
                    have HM := Lib.hid (show mergeL (bl.take (j + 1)) l = mergeL (bl.take j) l ++ [(u2, m2, s2)] by rw [Hms.out, hx2]; rfl)
                    have hcb : cj < 1048576 := by omega
                    clear hct hle hll hx2 hbk2
                    go_wp2_with (at_builtin
                                 refine wpList_append_any _ rfl (.tmp 72) (.tmp 77) 63 rfl b2 60 j0 (.agg #[.bool false, .int .i64 0, .string ⟨#[]⟩]) 3 32 Tryz.underlying63 hj0 hk0 hj1 hk2 rfl (by decide) A9 j c9 _ rfl (own_below HO.out ((Below.refl _ wr).alloc (Nat.le_refl _) (.cells #[.bool u2, .int .i64 m2, .string s2] 60))) (some ⟨_, 0, none⟩) 1 1 (cls [(u2, m2, s2)]) rfl (by exact reads_cellb _ _ (by simp) _ _ _) (cls_one _) hs1 hs2 (Nat.le_trans Hb2.out (by simp)) ?_
                                 intro A8 c8 w8 r1 r2 r3 r4 r5
                                 have R1 := Lib.hid r1
                                 have R2 := Lib.hid r2
                                 clear r1 r2 r3 r4 r5)
                    have HX := Lib.hid (show w8.ownsRow b2 60 3 (.slice A8 (j + 1) c8) (j + 1) (cls (mergeL (bl.take (j + 1)) l)) by rw [HM.out, cls_append]; exact R1.out)
                    have HL := Lib.hid ((HL.out.alloc Hb2.out (.cells #[.bool u2, .int .i64 m2, .string s2] 60)).below R2.out)
                    have HR := Lib.hid ((HR.out.alloc Hb2.out (.cells #[.bool u2, .int .i64 m2, .string s2] 60)).below R2.out)
                    have HB := Lib.hid ((HB.out.alloc HB.out.size (.cells #[.bool u2, .int .i64 m2, .string s2] 60)).trans (R2.out.mono Hwb.out))
                    have Hb2 := Lib.hid (show b2 ≤ w8.heap.size from Nat.le_trans (Nat.le_trans Hb2.out (by simp)) R2.out.size)
                    go_roundw
                    case rel => exact ⟨j + 1, A8, c8, by omega, rfl, by first | (rw [Hct.out]; done) | (rw [Hct.out]; go_num), by go_num, HX, HL, HR, Hb2, HB⟩
                    case measure => simp [intOf]; omega
                · obtain rfl : j = N := by omega
                  have Hml := Lib.hid (show (mergeL bl l).length = bl.length from mergeL_len bl l (by rw [Hlen.out]; exact Nat.le_refl _))
                  have hsm := Hsm.out
                  obtain ⟨q, hq⟩ : ∃ q, q = sz + s := ⟨_, rfl⟩
                  have hqm : q ≤ m := by omega
                  have hmm : m ≤ 9223372036854775807 := by omega
                  have hsum : (sz : Int) + (s : Int) = (q : Int) := by omega
                  have Hq := Lib.hid hq
                  clear hq hsm
                  go_wp2
                  go_ret3
                  rw [HE.out]
                  have ho := HO.out
                  rw [List.take_of_length_le (by have := HbN.out; omega)] at ho
                  obtain ⟨p1, p2⟩ := own_caps ho
                  have hlj : (mergeL bl l).length = j := by rw [Hml.out, HbN.out]
                  have hq2 := Hq.out
                  subst hq2
                  exact ⟨HB.out, by rw [hlj]; exact hN2, A9, c9, by rw [hlj]; rfl, by rw [hlj]; exact p1, p2, by rw [hlj]; exact own_mono ho Hwb.out⟩
          · have HE := Lib.hid (show getC k true xs (N : Int) = .error er by rw [Hgc.out, if_neg he])
            have hne : ((er : Int) == 0) = false := by simp; omega
            have hne2 : ((er : Int) != 0) = true := by simp; omega
            clear q1 q2 q3 q4 hlen0 hsz0
            go_wp2
            go_ret3
            rw [HE.out]
            exact ⟨HB.out, rfl, he⟩
end Go.Proofs.YtdajddkbkbnoiaaGreatDoor
namespace Go.Proofs.YtdajddkbkbnoiaaGreatDoor
open Go.RowKit Go.Deep Go.ChangeShapes Go.WideShapes Go.Shelf Go.Lib
theorem cells_of {H : Type} {enc : TypeId × Value → H} {w : World} {held : Bool} {a : Option Addr} {len cap : Nat} {d : DataW H} {p : List MemPlace} (h : DataW.Trod enc Tryz.prog w 0 (fun _ => true) held 63 (.slice a len cap) d p) :
    ∃ xs : List Cl, Reads w w.heap.size 3 a len (cls xs) ∧ len ≤ cap ∧ cap ≤ maxLen ∧ ClOk xs := by
  haveI : Inhabited Cl := ⟨(false, 0, ⟨#[]⟩)⟩
  refine structs_of 3 (fun c : Cl => [.bool c.1, .int .i64 c.2.1, .string c.2.2]) (fun c => -9223372036854775808 ≤ c.2.1 ∧ c.2.1 ≤ 9223372036854775807 ∧ c.2.2.size ≤ maxLen) (by decide) (fun _ => rfl)
    Tryz.underlying63 (by kernel_rfl) (fun n cs y hy => ?_) h
  obtain ⟨m, hl, hc⟩ := struct_cells Tryz.underlying60 (by kernel_rfl) (by kernel_rfl) hy
  match cs, hl with
  | [v0, v1, v2], _ =>
    obtain ⟨y0, g0⟩ := hc 0 _ _ rfl rfl
    obtain ⟨y1, g1⟩ := hc 1 _ _ rfl rfl
    obtain ⟨y2, g2⟩ := hc 2 _ _ rfl rfl
    obtain ⟨u, e0, -⟩ := DataW.trod_bool Tryz.underlying4 g0
    obtain ⟨k, e1, _, b1⟩ := DataW.trod_int Tryz.underlying2 g1
    obtain ⟨s, e2, _, b2⟩ := DataW.trod_string Tryz.underlying9 g2
    cases e0
    cases e1
    cases e2
    exact ⟨(u, k, s), rfl, (bounds_i64 b1).1, (bounds_i64 b1).2, b2⟩
theorem type_of {H : Type} {enc : TypeId × Value → H} {w : World} {held : Bool} {cs : Array Value} {d : DataW H} {p : List MemPlace} (h : DataW.Trod enc Tryz.prog w 0 (fun _ => true) held 58 (.agg cs) d p) :
    ∃ (k : Int) (nl : Bool), cs = #[.int .i64 k, .bool nl] ∧ -9223372036854775808 ≤ k ∧ k ≤ 9223372036854775807 := by
  obtain ⟨fuel, hf⟩ := h
  obtain ⟨m, hl, hc⟩ := struct_cells Tryz.underlying58 (by kernel_rfl) (by kernel_rfl) hf
  obtain ⟨cl, hcl⟩ : ∃ cl, cl = cs.toList := ⟨_, rfl⟩
  have hcs : cs = cl.toArray := by rw [hcl]
  have hcells : (Value.agg cs).cells = cs := rfl
  rw [hcells, ← hcl] at hl hc
  match cl, hl with
  | [v0, v1], _ =>
    obtain ⟨y0, g0⟩ := hc 0 _ _ rfl rfl
    obtain ⟨y1, g1⟩ := hc 1 _ _ rfl rfl
    obtain ⟨k, e0, _, b0⟩ := DataW.trod_int Tryz.underlying3 g0
    obtain ⟨u, e1, -⟩ := DataW.trod_bool Tryz.underlying4 g1
    cases e0
    cases e1
    exact ⟨k, u, hcs, (bounds_i64 b0).1, (bounds_i64 b0).2⟩
theorem first_eq : Pinned.utf8First = firstData := by kernel_rfl
theorem tabs_of {w : World} (h1 : VarReads Tryz.prog w "unicode/utf8.first" firstData) (h2 : VarReads Tryz.prog w "unicode/utf8.acceptRanges" acceptData) : Tabs w :=
  utf8Tabs_of_readsT (U8Types.of196 Tryz.laysValid) ⟨by kernel_rfl, by kernel_rfl, by kernel_rfl, by kernel_rfl, by kernel_rfl, by kernel_rfl, by kernel_rfl⟩ h1 h2
end Go.Proofs.YtdajddkbkbnoiaaGreatDoor
namespace Go.Proofs.YtdajddkbkbnoiaaGreatDoor
open Go.RowKit
theorem putO_ok {k : Int} {nl : Bool} {l : List Cl} (xs : List UInt8) (h : putE k nl l = 0) : putO k nl l xs = putB k nl l xs := by unfold putO; rw [if_pos h]
theorem putE_ok {k : Int} {nl : Bool} {l : List Cl} (hk : mayK k = true) (ha : allC k nl l = true) : putE k nl l = 0 := by simp [putE, hk, ha]
end Go.Proofs.YtdajddkbkbnoiaaGreatDoor
