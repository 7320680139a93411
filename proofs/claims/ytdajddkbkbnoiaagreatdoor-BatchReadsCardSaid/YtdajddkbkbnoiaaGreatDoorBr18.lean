/- Part 18 of the walks, merged: each text under its own heading. Conditions: none of its own; each lemma states what it asks. -/
import Derived.Test.YtdajddkbkbnoiaaGreatDoorBr17
set_option linter.unusedVariables false
set_option linter.unusedSimpArgs false
namespace Go.Proofs.YtdajddkbkbnoiaaGreatDoor
open Go.RowKit
set_option maxRecDepth 100000 in
theorem rsum_any (A : Option Addr) (n c : Nat) (xs : List UInt8) (w : World) (hr : Reads w w.heap.size 1 A n (u8s xs)) (hn : n ≤ maxLen) :
    Calls Tryz.prog 85 #[.slice A n c] w fun e w' => e = .returned (.int .u32 ((crcS xs : Nat) : Int)) ∧ w = w' := by
  have cU : Calls Tryz.prog 128 #[.int .u32 0, .slice A n c] w _ := rupdate_any 0 (by decide) A n c xs w hr hn
  have CU := Lib.hid cU
  clear hr cU
  go_enter Tryz.func85, Tryz.ntmps85
  go_wp2_with fail
  with_reducible refine CU.out.mono ?_
  rintro e w1 ⟨rfl, rfl⟩
  go_wp2
  go_ret
  exact ⟨rfl, rfl⟩
theorem col_info : (Tryz.prog.info? 62).map (fun i => (i.zero, i.size, i.bytes)) = some (some (.agg #[.int .i64 0, .string ⟨#[]⟩, .int .i64 0, .bool false, .bool false, .int .i64 0, .string ⟨#[]⟩]), 7, 72) := by kernel_rfl
set_option maxRecDepth 100000 in
set_option maxHeartbeats 400000 in
theorem copyCols_any (A : Option Addr) (n c : Nat) (l : List Co) (w : World) (hr : Reads w w.heap.size 7 A n (cos l)) (hn : n ≤ 1048576) :
    Calls Tryz.prog 19 #[.slice A n c] w fun e w' => ∃ A' c', e = .returned (.slice A' n c') ∧ n ≤ c' ∧ c' ≤ maxLen ∧ w'.ownsRow w.heap.size 62 7 (.slice A' n c') n (cos l) ∧ Below w.heap.size w w' := by
  obtain ⟨i0, hi0, hz0, hz1, hz2⟩ := info_parts col_info
  go_enter Tryz.func19, Tryz.ntmps19
  go_wp2_with (at_builtin
               refine wpList_append_any _ rfl (.tmp 4) (.tmp 5) 22 rfl w.heap.size 62 i0 (.agg #[.int .i64 0, .string ⟨#[]⟩, .int .i64 0, .bool false, .bool false, .int .i64 0, .string ⟨#[]⟩]) 7 72 Tryz.underlying22 hi0 hz0 hz1 hz2 rfl (by decide) none 0 0 [] rfl (World.ownsRow_nil _ _ _ _) A n c (cos l) rfl hr (cos_one l) (by simp only [maxLen]; omega) (by omega) (Nat.le_refl _) ?_
               intro A2 c2 w2 hown2 hb2 hg2 hc2 hm2
               simp only [Nat.zero_add, List.nil_append] at hown2 hc2)
  go_ret
  exact ⟨A2, c2, by simp, hc2, hm2, hown2, hb2⟩
set_option maxRecDepth 100000 in
set_option maxHeartbeats 1000000 in
theorem rmayC_any (A : Option Addr) (n c : Nat) (cs : List Co) (w : World) (hr : Reads w w.heap.size 7 A n (cos cs)) (hn : n ≤ maxLen) :
    Calls Tryz.prog 73 #[.slice A n c] w fun e w' => e = .returned (.bool (mayCs cs)) ∧ Below w.heap.size w w' := by
  have Hr := Lib.hid hr
  have Hl := Lib.hid (cos_len hr)
  have hn63 : n ≤ 9223372036854775807 := by simp only [maxLen] at hn; omega
  clear hr hn
  go_enter Tryz.func73, Tryz.ntmps73
  go_wp2
  go_loopw [3] (fun i wr => ∃ k : Nat, k ≤ n ∧ i = .int .i64 (k : Int) ∧ Hid (∀ j c, j < k → cs[j]? = some c → oddC c = false) ∧ Hid (Below w.heap.size w wr)) (fun i _ => n - (intOf i).toNat)
  case atStart => exact ⟨0, Nat.zero_le _, rfl, Lib.hid (fun j c h => by omega), Lib.hid (Below.refl _ _)⟩
  case round =>
    obtain ⟨k, hk, rfl, HN, HB⟩ := hrel
    by_cases hlt : k < n
    · obtain ⟨ad, co, rfl, hbk, hco, hat⟩ := cos_at (Hr.out.below HB.out) hlt
      have h2 := hat.c2
      have h3 := hat.c3
      have Hco := Lib.hid hco
      have hki : (k : Int) < (n : Int) := by omega
      clear hco hat
      go_wp2_with fail
      with_reducible refine (rmay_any co.2.2.1 co.2.2.2.1 _).mono ?_
      rintro e w1 ⟨rfl, hb1⟩
      have HB2 := Lib.hid (bon HB.out hb1)
      clear hb1 h2 h3 hbk
      cases hm : mayK co.2.2.1 with
      | true =>
        have HN2 := Lib.hid (show ∀ j c, j < k + 1 → cs[j]? = some c → oddC c = false from fun j c hj hc => by
          rcases Nat.lt_or_ge j k with h | h
          · exact HN.out j c h hc
          · obtain rfl : j = k := by omega
            rw [Hco.out] at hc
            cases hc
            simp [oddC, hm])
        clear hm
        go_wp2
        go_roundw
        case rel => exact ⟨k + 1, by omega, by go_num, HN2, HB2⟩
        case measure => simp [intOf]; omega
      | false =>
        have HE := Lib.hid (show mayCs cs = false by
          have h1 : cs.any oddC = true := List.any_eq_true.2 ⟨co, List.mem_of_getElem? Hco.out, by simp [oddC, hm]⟩
          rw [mayCs_eq, h1]
          simp)
        clear hm
        go_wp2
        go_ret
        exact ⟨by rw [HE.out]; rfl, HB2.out⟩
    · obtain rfl : n = k := by omega
      have HE := Lib.hid (show mayCs cs = decide (1 ≤ n ∧ n ≤ 32) by
        have h1 : cs.any oddC = false := by
          rw [List.any_eq_false]
          intro c hc
          obtain ⟨j, hj⟩ := List.getElem?_of_mem hc
          have := HN.out j c (by have := (List.getElem?_eq_some_iff.1 hj).1; rw [Hl.out] at this; exact this) hj
          simp [this]
        rw [mayCs_eq, h1, Hl.out]
        simp)
      by_cases h1 : 1 ≤ n
      · by_cases h2 : n ≤ 32
        · have d1 : decide ((1 : Int) ≤ (n : Int)) = true := by simp; omega
          have d2 : decide ((n : Int) ≤ 32) = true := by simp; omega
          have HE := Lib.hid (show mayCs cs = true by rw [HE.out]; simp [h1, h2])
          go_wp2
          go_ret
          exact ⟨by rw [HE.out]; rfl, HB.out⟩
        · have d1 : decide ((1 : Int) ≤ (n : Int)) = true := by simp; omega
          have d2 : decide ((n : Int) ≤ 32) = false := by simp; omega
          have HE := Lib.hid (show mayCs cs = false by rw [HE.out]; simp [h2])
          go_wp2
          go_ret
          exact ⟨by rw [HE.out]; rfl, HB.out⟩
      · have d1 : decide ((1 : Int) ≤ (n : Int)) = false := by simp; omega
        have HE := Lib.hid (show mayCs cs = false by rw [HE.out]; simp [h1])
        go_wp2
        go_ret
        exact ⟨by rw [HE.out]; rfl, HB.out⟩
end Go.Proofs.YtdajddkbkbnoiaaGreatDoor
namespace Go.Proofs.YtdajddkbkbnoiaaGreatDoor
open Go.RowKit
set_option maxRecDepth 100000 in
set_option maxHeartbeats 1000000 in
theorem eqItems_any (A B : Option Addr) (n c m d : Nat) (l1 l2 : List It) (w : World) (h1 : ItemsAt w w.heap.size A n l1) (h2 : ItemsAt w w.heap.size B m l2) (hn : n ≤ maxLen) :
    Calls Tryz.prog 36 #[.slice A n c, .slice B m d] w fun e w' => e = .returned (.bool (decide (l1 = l2))) ∧ Below w.heap.size w w' := by
  have H1 := Lib.hid h1
  have H2 := Lib.hid h2
  have Hl1 := Lib.hid h1.len
  have Hl2 := Lib.hid h2.len
  have hn63 : n ≤ 9223372036854775807 := by simp only [maxLen] at hn; omega
  clear h1 h2 hn
  by_cases hnm : m = n
  · subst hnm
    go_enter Tryz.func36, Tryz.ntmps36
    go_wp2
    go_loopw [5] (fun i wr => ∃ j : Nat, j ≤ m ∧ i = .int .i64 (j : Int) ∧ Hid (l1.take j = l2.take j) ∧ Hid (Below w.heap.size w wr)) (fun i _ => m - (intOf i).toNat)
    case atStart => exact ⟨0, Nat.zero_le _, rfl, Lib.hid rfl, Lib.hid (Below.refl _ _)⟩
    case round =>
      obtain ⟨j, hj, rfl, Htk, HB⟩ := hrel
      by_cases hlt : j < m
      · obtain ⟨ad, A', c', it, rfl, hbk, hx, a0, a1, r1, rc1, rc2⟩ := (H1.out.below HB.out).at_ hlt
        obtain ⟨ad', A'', c'', it', rfl, hbk', hx', b0, b1, r2, -, -⟩ := (H2.out.below HB.out).at_ hlt
        have HA0 := Lib.hid (show ∀ w', Below wr.heap.size wr w' → w'.cell? (ad.add (j * 2)) = some (.slice A' it.1.length c') from fun w' h => (h.cell (World.block_lt_of_cell? _ _ a0)).trans a0)
        have HA1 := Lib.hid (show ∀ w', Below wr.heap.size wr w' → w'.cell? ⟨(ad.add (j * 2)).block, (ad.add (j * 2)).off + 1, none⟩ = some (.int .i64 it.2) from fun w' h => (h.cell (World.block_lt_of_cell? _ _ a1)).trans a1)
        have HB0 := Lib.hid (show ∀ w', Below wr.heap.size wr w' → w'.cell? (ad'.add (j * 2)) = some (.slice A'' it'.1.length c'') from fun w' h => (h.cell (World.block_lt_of_cell? _ _ b0)).trans b0)
        have HB1 := Lib.hid (show ∀ w', Below wr.heap.size wr w' → w'.cell? ⟨(ad'.add (j * 2)).block, (ad'.add (j * 2)).off + 1, none⟩ = some (.int .i64 it'.2) from fun w' h => (h.cell (World.block_lt_of_cell? _ _ b1)).trans b1)
        have R1 := Lib.hid (r1.more HB.out.size)
        have R2 := Lib.hid (r2.more HB.out.size)
        have Hrc := Lib.hid (Nat.le_trans rc1 rc2)
        have Hx := Lib.hid hx
        have Hx' := Lib.hid hx'
        have hji : (j : Int) < (m : Int) := by omega
        have hS : Below wr.heap.size wr wr.drew := (Below.refl _ _).drew
        clear hx hx' hbk hbk' r1 r2 rc1 rc2 a0 a1 b0 b1
        obtain ⟨r, v⟩ := it
        obtain ⟨r', v'⟩ := it'
        simp only at HA0 HA1 HB0 HB1 R1 R2 Hrc
        generalize r.length = rl at *
        generalize r'.length = rl' at *
        go_wp2
        by_cases hv : v = v'
        · subst hv
          have dv : (v != v) = false := by simp
          refine wp_region_keep (fun w' => Below wr.heap.size wr w') [(0, false), (1, false), (2, false), (3, false), (4, false), (5, false), (6, false), (7, false), (8, false), (9, false), (10, false), (11, false), (12, false), (13, false), (14, false), (15, false), (16, false), (17, false), (18, false), (19, false), (20, false), (21, false), (22, true), (23, false), (24, false)] (by kernel_rfl) (by kernel_rfl) (by kernel_rfl) (fun d _ _ _ _ h => by cases d <;> exact h) ?_
          iterate 4
            refine held_pure (v := ?_) rfl rfl (by simp [Region.wanted, yielded]) hS ?_ ?_
            rotate_left
            · intro w hw; go_simp; try with_reducible rfl
            try simp only [Act.put, List.setIfInBounds_toArray, List.set_cons_succ, List.set_cons_zero]
          refine held_pure (v := ?_) rfl rfl (by simp [Region.wanted, yielded]) hS ?_ ?_
          rotate_left
          · intro w hw; have c0 := HA1.out w hw; clear hw; go_simp; try with_reducible rfl
          try simp only [Act.put, List.setIfInBounds_toArray, List.set_cons_succ, List.set_cons_zero]
          iterate 4
            refine held_pure (v := ?_) rfl rfl (by simp [Region.wanted, yielded]) hS ?_ ?_
            rotate_left
            · intro w hw; go_simp; try with_reducible rfl
            try simp only [Act.put, List.setIfInBounds_toArray, List.set_cons_succ, List.set_cons_zero]
          refine held_pure (v := ?_) rfl rfl (by simp [Region.wanted, yielded]) hS ?_ ?_
          rotate_left
          · intro w hw; have c0 := HB1.out w hw; clear hw; go_simp; try with_reducible rfl
          try simp only [Act.put, List.setIfInBounds_toArray, List.set_cons_succ, List.set_cons_zero]
          iterate 6
            refine held_pure (v := ?_) rfl rfl (by simp [Region.wanted, yielded]) hS ?_ ?_
            rotate_left
            · intro w hw; go_simp; try with_reducible rfl
            try simp only [Act.put, List.setIfInBounds_toArray, List.set_cons_succ, List.set_cons_zero]
          refine held_pure (v := ?_) rfl rfl (by simp [Region.wanted, yielded]) hS ?_ ?_
          rotate_left
          · intro w hw; have c0 := HA0.out w hw; clear hw; go_simp; try with_reducible rfl
          try simp only [Act.put, List.setIfInBounds_toArray, List.set_cons_succ, List.set_cons_zero]
          iterate 4
            refine held_pure (v := ?_) rfl rfl (by simp [Region.wanted, yielded]) hS ?_ ?_
            rotate_left
            · intro w hw; go_simp; try with_reducible rfl
            try simp only [Act.put, List.setIfInBounds_toArray, List.set_cons_succ, List.set_cons_zero]
          refine held_pure (v := ?_) rfl rfl (by simp [Region.wanted, yielded]) hS ?_ ?_
          rotate_left
          · intro w hw; have c0 := HB0.out w hw; clear hw; go_simp; try with_reducible rfl
          try simp only [Act.put, List.setIfInBounds_toArray, List.set_cons_succ, List.set_cons_zero]
          refine held_eff1 rfl (by simp [Region.wanted, yielded]) fun K hK => ?_
          go_simp
          with_reducible refine (eqRow_any A' A'' rl c' rl' c'' r r' _ (R1.out.on hS) (R2.out.on hS) Hrc.out).mono ?_
          rintro e w5 ⟨rfl, hb5⟩
          have HB5 := Lib.hid (bon HB.out (bon hS hb5))
          refine held_go hK (by exact bon hS hb5) fun hS => ?_
          clear hK K
          try simp only [Act.put, List.setIfInBounds_toArray, List.set_cons_succ, List.set_cons_zero]
          clear hb5
          iterate 2
            refine held_pure (v := ?_) rfl rfl (by simp [Region.wanted, yielded]) hS ?_ ?_
            rotate_left
            · intro w hw; go_simp; try with_reducible rfl
            try simp only [Act.put, List.setIfInBounds_toArray, List.set_cons_succ, List.set_cons_zero]
          refine held_end ?_
          clear hS
          by_cases hc : r = r'
          · have Htk2 := Lib.hid (show l1.take (j + 1) = l2.take (j + 1) by rw [List.take_add_one, List.take_add_one, Hx.out, Hx'.out, Htk.out, hc])
            rw [decide_eq_true hc]
            clear hc
            go_wp2
            go_roundw
            case rel => exact ⟨j + 1, by omega, by go_num, Htk2, HB5⟩
            case measure => simp [intOf]; omega
          · have Hne := Lib.hid (show decide (l1 = l2) = false from decide_eq_false (fun h => hc (by subst h; have := Option.some.inj (Hx.out.symm.trans Hx'.out); cases this; rfl)))
            rw [decide_eq_false hc]
            clear hc
            go_wp2
            go_ret
            exact ⟨by rw [Hne.out]; rfl, HB5.out⟩
        · have dv : (v != v') = true := by simpa using hv
          have Hne := Lib.hid (show decide (l1 = l2) = false from decide_eq_false (fun h => hv (by subst h; have := Option.some.inj (Hx.out.symm.trans Hx'.out); cases this; rfl)))
          clear hv
          refine wp_region_keep (fun w' => Below wr.heap.size wr w') [(0, false), (1, false), (2, false), (3, false), (4, false), (5, false), (6, false), (7, false), (8, false), (9, false), (10, false), (11, false), (12, false), (13, false), (14, false), (15, false), (16, false), (17, false), (18, false), (19, false), (20, false), (21, false), (22, false), (23, false), (24, false)] (by kernel_rfl) (by kernel_rfl) (by kernel_rfl) (fun d _ _ _ _ h => by cases d <;> exact h) ?_
          iterate 4
            refine held_pure (v := ?_) rfl rfl (by simp [Region.wanted, yielded]) hS ?_ ?_
            rotate_left
            · intro w hw; go_simp; try with_reducible rfl
            try simp only [Act.put, List.setIfInBounds_toArray, List.set_cons_succ, List.set_cons_zero]
          refine held_pure (v := ?_) rfl rfl (by simp [Region.wanted, yielded]) hS ?_ ?_
          rotate_left
          · intro w hw; have c0 := HA1.out w hw; clear hw; go_simp; try with_reducible rfl
          try simp only [Act.put, List.setIfInBounds_toArray, List.set_cons_succ, List.set_cons_zero]
          iterate 4
            refine held_pure (v := ?_) rfl rfl (by simp [Region.wanted, yielded]) hS ?_ ?_
            rotate_left
            · intro w hw; go_simp; try with_reducible rfl
            try simp only [Act.put, List.setIfInBounds_toArray, List.set_cons_succ, List.set_cons_zero]
          refine held_pure (v := ?_) rfl rfl (by simp [Region.wanted, yielded]) hS ?_ ?_
          rotate_left
          · intro w hw; have c0 := HB1.out w hw; clear hw; go_simp; try with_reducible rfl
          try simp only [Act.put, List.setIfInBounds_toArray, List.set_cons_succ, List.set_cons_zero]
          iterate 2
            refine held_pure (v := ?_) rfl rfl (by simp [Region.wanted, yielded]) hS ?_ ?_
            rotate_left
            · intro w hw; go_simp; try with_reducible rfl
            try simp only [Act.put, List.setIfInBounds_toArray, List.set_cons_succ, List.set_cons_zero]
          refine held_off rfl rfl (by simp [Region.wanted, yielded, undef]) hS ?_
          simp only [Act.put, List.setIfInBounds_toArray, List.set_cons_succ, List.set_cons_zero]
          refine held_off rfl rfl (by simp [Region.wanted, yielded, undef]) hS ?_
          simp only [Act.put, List.setIfInBounds_toArray, List.set_cons_succ, List.set_cons_zero]
          refine held_off rfl rfl (by simp [Region.wanted, yielded, undef]) hS ?_
          simp only [Act.put, List.setIfInBounds_toArray, List.set_cons_succ, List.set_cons_zero]
          refine held_off rfl rfl (by simp [Region.wanted, yielded, undef]) hS ?_
          simp only [Act.put, List.setIfInBounds_toArray, List.set_cons_succ, List.set_cons_zero]
          refine held_off rfl rfl (by simp [Region.wanted, yielded, undef]) hS ?_
          simp only [Act.put, List.setIfInBounds_toArray, List.set_cons_succ, List.set_cons_zero]
          refine held_off rfl rfl (by simp [Region.wanted, yielded, undef]) hS ?_
          simp only [Act.put, List.setIfInBounds_toArray, List.set_cons_succ, List.set_cons_zero]
          refine held_off rfl rfl (by simp [Region.wanted, yielded, undef]) hS ?_
          simp only [Act.put, List.setIfInBounds_toArray, List.set_cons_succ, List.set_cons_zero]
          refine held_off rfl rfl (by simp [Region.wanted, yielded, undef]) hS ?_
          simp only [Act.put, List.setIfInBounds_toArray, List.set_cons_succ, List.set_cons_zero]
          refine held_off rfl rfl (by simp [Region.wanted, yielded, undef]) hS ?_
          simp only [Act.put, List.setIfInBounds_toArray, List.set_cons_succ, List.set_cons_zero]
          refine held_off rfl rfl (by simp [Region.wanted, yielded, undef]) hS ?_
          simp only [Act.put, List.setIfInBounds_toArray, List.set_cons_succ, List.set_cons_zero]
          refine held_off rfl rfl (by simp [Region.wanted, yielded, undef]) hS ?_
          simp only [Act.put, List.setIfInBounds_toArray, List.set_cons_succ, List.set_cons_zero]
          refine held_off rfl rfl (by simp [Region.wanted, yielded, undef]) hS ?_
          simp only [Act.put, List.setIfInBounds_toArray, List.set_cons_succ, List.set_cons_zero]
          refine held_pure (v := ?_) rfl rfl (by simp [Region.wanted, yielded]) hS ?_ ?_
          rotate_left
          · intro w hw; go_simp; try with_reducible rfl
          try simp only [Act.put, List.setIfInBounds_toArray, List.set_cons_succ, List.set_cons_zero]
          refine held_end ?_
          have HB5 := Lib.hid (bon HB.out hS)
          clear hS
          go_wp2
          go_ret
          exact ⟨by rw [Hne.out]; rfl, HB5.out⟩
      · obtain rfl : m = j := by omega
        have He := Lib.hid (show decide (l1 = l2) = true by
          have := Htk.out
          rw [List.take_of_length_le (by rw [Hl1.out]; exact Nat.le_refl _), List.take_of_length_le (by rw [Hl2.out]; exact Nat.le_refl _)] at this
          exact decide_eq_true this)
        go_wp2
        go_ret
        exact ⟨by rw [He.out]; rfl, HB.out⟩
  · have hne2 : ((n : Int) != (m : Int)) = true := by simp; omega
    have hne3 : (n != m) = true := by simp; omega
    have Hne := Lib.hid (show decide (l1 = l2) = false from decide_eq_false (fun h => hnm (by rw [← Hl1.out, ← Hl2.out, h])))
    go_enter Tryz.func36, Tryz.ntmps36
    go_wp2
    go_ret
    exact ⟨by rw [Hne.out]; rfl, Below.refl _ _⟩
end Go.Proofs.YtdajddkbkbnoiaaGreatDoor
namespace Go.Proofs.YtdajddkbkbnoiaaGreatDoor
open Go.RowKit
theorem intsB_le (l : List Cl) : (intsB l).length ≤ 10 * l.length := by
  induction l with
  | nil => simp [intsB]
  | cons c l ih =>
    have := leb_le (zig c.2.1)
    simp only [intsB, List.flatMap_cons, List.length_append, List.length_cons] at *
    omega
theorem rawsB_le (l : List Cl) (h : ∀ c ∈ l, c.2.2.size ≤ 1024) : (rawsB l).length ≤ 1034 * l.length := by
  induction l with
  | nil => simp [rawsB]
  | cons c l ih =>
    have h1 := leb_le c.2.2.size
    have h2 := h c (by simp)
    have h3 := ih (fun x hx => h x (by simp [hx]))
    have h4 : c.2.2.data.toList.length = c.2.2.size := by rw [Array.length_toList]; rfl
    simp only [rawsB, List.flatMap_cons, List.length_append, List.length_cons] at *
    omega
theorem putB_leB (k : Int) (nl : Bool) (l : List Cl) (hk : mayK k = true) (ha : allC k nl l = true) : (putB k nl l []).length ≤ 10 + 1046 * l.length := by
  have hs := some_sizes hk ha
  have hl : (someC l).length ≤ l.length := List.length_filter_le _ _
  have h1 : ((if nl then packL (l.map fun c => !c.1) else [] : List UInt8)).length ≤ l.length := by
    split
    · have := packL_le (l.map fun c => !c.1)
      simpa using this
    · simp
  have h2 : (bareB k (someC l)).length ≤ 10 + 1044 * l.length := by
    unfold bareB
    split
    · have := packL_le ((someC l).map fun c => c.2.1 == 1)
      simp only [List.length_map] at this
      omega
    · split
      · have := putD_le ((someC l).map fun c => c.2.2) (fun s hs2 => by
          obtain ⟨c, hc, rfl⟩ := List.mem_map.1 hs2
          exact hs c hc)
        simp only [List.length_map] at this
        omega
      · split
        · have := rawsB_le (someC l) hs
          omega
        · have := intsB_le (someC l)
          omega
  unfold putB
  simp only [List.nil_append, List.length_append]
  omega
theorem Fits.colB_le {cs : List Co} {b : Ba} (h : Fits cs b) (k : Nat) : (colB cs b.2.2 k).length ≤ 10 + 1046 * b.2.2.length := by
  unfold colB
  split
  · rename_i c hc
    have := putB_leB c.2.2.1 c.2.2.2.1 (colC b.2.2 k) (mayCs_at h.may hc) (h.col hc)
    simpa [colC] using this
  · simp
theorem Fits.colsB_le {cs : List Co} {b : Ba} (h : Fits cs b) (j : Nat) : (colsB cs b.2.2 j).length ≤ j * (10 + 1046 * b.2.2.length) := by
  induction j with
  | zero => simp [colsB]
  | succ j ih =>
    have := h.colB_le j
    rw [colsB_succ, List.length_append, Nat.succ_mul]
    omega
theorem headB_le (v s : Int) (n : Nat) : (headB v s n).length ≤ 33 := by
  have h1 := leb_le v.toNat
  have h2 := leb_le s.toNat
  have h3 := leb_le n
  simp only [headB, List.length_append, List.length_cons, List.length_nil]
  omega
theorem wsB_le (l : List It) : (wsB l).length ≤ 10 * l.length := by
  induction l with
  | nil => simp [wsB]
  | cons c l ih =>
    have := leb_le (zig c.2)
    simp only [wsB, List.flatMap_cons, List.length_append, List.length_cons] at *
    omega
theorem mayCs_len {cs : List Co} (h : mayCs cs = true) : 1 ≤ cs.length ∧ cs.length ≤ 32 := by
  unfold mayCs at h
  simp only [Bool.and_eq_true, decide_eq_true_eq] at h
  exact h.1
def preB (cs : List Co) (b : Ba) (j : Nat) : List UInt8 := headB b.1 b.2.1 b.2.2.length ++ colsB cs b.2.2 j
theorem preB_zero (cs : List Co) (b : Ba) : preB cs b 0 = headB b.1 b.2.1 b.2.2.length := by simp [preB, colsB]
theorem preB_succ (cs : List Co) (b : Ba) (j : Nat) (c : Co) (h : cs[j]? = some c) : preB cs b (j + 1) = putB c.2.2.1 c.2.2.2.1 (colC b.2.2 j) (preB cs b j) := by
  unfold preB
  rw [colsB_succ, ← List.append_assoc]
  unfold colB
  rw [h]
  unfold putB
  simp
theorem Fits.preB_le {cs : List Co} {b : Ba} (h : Fits cs b) (j : Nat) (hj : j ≤ cs.length) : (preB cs b j).length ≤ 40000000000 := by
  have h1 := h.colsB_le j
  have h2 := headB_le b.1 b.2.1 b.2.2.length
  have h3 := (mayCs_len h.may).2
  have h4 := h.rows
  have h5 : j * (10 + 1046 * b.2.2.length) ≤ 32 * (10 + 1046 * 1048576) := Nat.mul_le_mul (by omega) (by omega)
  unfold preB
  rw [List.length_append]
  omega
def preW (cs : List Co) (b : Ba) (i : Nat) : List UInt8 := preB cs b cs.length ++ wsB (b.2.2.take i)
theorem preW_zero (cs : List Co) (b : Ba) : preW cs b 0 = preB cs b cs.length := by simp [preW, wsB]
theorem preW_succ (cs : List Co) (b : Ba) (i : Nat) (it : It) (h : b.2.2[i]? = some it) : preW cs b (i + 1) = preW cs b i ++ leb (zig it.2) := by
  unfold preW wsB
  rw [List.take_add_one, h]
  simp
theorem preW_end (cs : List Co) (b : Ba) : preW cs b b.2.2.length = bodyB cs b := by
  unfold preW preB bodyB
  rw [List.take_length, List.append_assoc]
theorem Fits.preW_le {cs : List Co} {b : Ba} (h : Fits cs b) (i : Nat) : (preW cs b i).length ≤ 50000000000 := by
  have h1 := h.preB_le cs.length (Nat.le_refl _)
  have h2 := wsB_le (b.2.2.take i)
  have h3 := h.rows
  have h4 : (b.2.2.take i).length ≤ b.2.2.length := List.length_take_le' _ _
  unfold preW
  rw [List.length_append]
  omega
theorem Fits.body_le {cs : List Co} {b : Ba} (h : Fits cs b) : (bodyB cs b).length ≤ 50000000000 := by
  rw [← preW_end]
  exact h.preW_le _
end Go.Proofs.YtdajddkbkbnoiaaGreatDoor
namespace Go.Proofs.YtdajddkbkbnoiaaGreatDoor
open Go.RowKit
set_option maxRecDepth 100000 in
set_option maxHeartbeats 2000000 in
theorem rsome1_any (B : Option Addr) (m cb : Nat) (xs : List UInt8) (n : Int) (w : World) (hr : Reads w w.heap.size 1 B m (u8s xs)) (hm : m ≤ cb) (hc : cb ≤ maxLen) (hn1 : -9223372036854775808 ≤ n) (hn2 : n ≤ 9223372036854775807) :
    Calls Tryz.prog 119 #[.slice B m cb, .int .i64 1, .int .i64 n] w (GotC3 (getB 1 xs n) w) := by
  obtain ⟨j0, hj0, hk0, hj1, hk2⟩ := info_parts cell_info
  have hgb : getB 1 xs n = (if (unpackL xs n).2.2 = 0 then .ok ((unpackL xs n).1.map boolC, (unpackL xs n).2.1) else .error (unpackL xs n).2.2) := by simp only [getB, if_true]
  have hus := (unpackL_size xs n).2.1
  have hemp : (unpackL xs n).2.2 ≠ 0 → (unpackL xs n).1 = [] ∧ (unpackL xs n).2.1 = 0 := by
    rcases unpackL_only xs n with ⟨l, t, e, -⟩ | ⟨e, h, -⟩
    · rw [e]; intro h; exact absurd rfl h
    · rw [h]; intro _; exact ⟨rfl, rfl⟩
  have Hgb := Lib.hid hgb
  have Hus := Lib.hid hus
  have Hemp := Lib.hid hemp
  clear hgb hus hemp
  go_enter Tryz.func119, Tryz.ntmps119
  go_wp2_with fail
  with_reducible refine (refmunpack_any B m cb xs n _ hr hm hc hn1 hn2).mono ?_
  rintro e w1 ⟨AL, cL, rfl, q1, q2, q3, q4⟩
  generalize unpackL xs n = r at *
  obtain ⟨bl, sz, er⟩ := r
  simp only at q1 q2 q3 q4 Hus Hemp Hgb
  have hus := Hus.out
  have HL := Lib.hid q3
  have HB := Lib.hid q4
  have HB1w := Lib.hid q4.size
  clear q1 q2 q3 q4
  go_wp2
  go_loopw [9, 13] (fun v i wr => ∃ (j : Nat) (A9 : Option Addr) (c9 : Nat), j ≤ bl.length ∧ v = .slice A9 j c9 ∧ i = .int .i64 (j : Int) ∧ (j = 0 → A9 = none ∧ c9 = 0) ∧ Hid (wr.ownsRow w1.heap.size 60 3 (.slice A9 j c9) j (cls ((bl.take j).map boolC))) ∧ Hid (Reads wr w1.heap.size 1 AL bl.length (bls bl)) ∧ Hid (Below w.heap.size w wr) ∧ Hid (w1.heap.size ≤ wr.heap.size)) (fun _ i _ => bl.length - (intOf i).toNat)
  case atStart => exact ⟨0, none, 0, Nat.zero_le _, rfl, rfl, fun _ => ⟨rfl, rfl⟩, Lib.hid (World.ownsRow_nil _ _ _ _), HL, HB, Lib.hid (Nat.le_refl _)⟩
  case round =>
    obtain ⟨j, A9, c9, hj, rfl, rfl, hz, HO, HL, HB, Hw1⟩ := hrel
    by_cases hlt : j < bl.length
    · obtain ⟨ad, u, rfl, hbk, hu, hcell⟩ := HL.out.at_ hlt
      obtain ⟨is, hx, rfl⟩ := bls_get _ _ _ hu
      have Hx := Lib.hid hx
      have hs1 : j + 1 ≤ maxLen := by simp only [maxLen]; omega
      have hs2 : (j + 1) * 32 ≤ 70368744177664 := by omega
      have HbL := Lib.hid (show (ad.add j).block < w1.heap.size by rw [block_of_add]; exact hbk)
      have hc2 : (wr.alloc (.cells #[.bool false, .int .i64 0, .string ⟨#[]⟩] 60)).cell? (ad.add j) = some (.bool is) := (World.cell?_alloc_lt wr _ _ (Nat.lt_of_lt_of_le HbL.out Hw1.out)).trans hcell
      clear hu hx hbk hcell hz
      cases is with
      | false =>
        go_wp2_with (at_builtin
                     refine wpList_append_any _ rfl (.tmp 48) (.tmp 50) 63 rfl w1.heap.size 60 j0 (.agg #[.bool false, .int .i64 0, .string ⟨#[]⟩]) 3 32 Tryz.underlying63 hj0 hk0 hj1 hk2 rfl (by decide) A9 j c9 _ rfl (own_below HO.out (((Below.refl _ wr).alloc (Nat.le_refl _) (.cells #[.bool false, .int .i64 0, .string ⟨#[]⟩] 60)).alloc (by simp) (.cells #[.bool false, .int .i64 0, .string ⟨#[]⟩] 60))) (some ⟨_, 0, none⟩) 1 1 (cls [(false, 0, ⟨#[]⟩)]) rfl (by exact reads_cellb _ _ (by simp) _ _ _) (cls_one _) hs1 hs2 (Nat.le_trans Hw1.out (by simp; omega)) ?_
                     intro A8 c8 w8 r1 r2 r3 r4 r5
                     rw [← cls_append] at r1
                     have R1 := Lib.hid r1
                     have R2 := Lib.hid r2
                     clear r1 r2 r3 r4 r5)
        have R1 := Lib.hid (show w8.ownsRow w1.heap.size 60 3 (.slice A8 (j + 1) c8) (j + 1) (cls ((bl.take (j + 1)).map boolC)) by rw [List.take_add_one, Hx.out, List.map_append]; exact R1.out)
        have HL := Lib.hid (((HL.out.alloc Hw1.out (.cells #[.bool false, .int .i64 0, .string ⟨#[]⟩] 60)).alloc (Nat.le_trans Hw1.out (by simp)) (.cells #[.bool false, .int .i64 0, .string ⟨#[]⟩] 60)).below R2.out)
        have HB := Lib.hid (((HB.out.alloc HB.out.size (.cells #[.bool false, .int .i64 0, .string ⟨#[]⟩] 60)).alloc (Nat.le_trans HB.out.size (by simp)) (.cells #[.bool false, .int .i64 0, .string ⟨#[]⟩] 60)).trans (R2.out.mono HB1w.out))
        have Hw1 := Lib.hid (show w1.heap.size ≤ w8.heap.size from Nat.le_trans (Nat.le_trans Hw1.out (by simp; omega)) R2.out.size)
        go_roundw
        case rel => exact ⟨j + 1, A8, c8, by omega, rfl, by go_num, fun h => absurd h (by omega), R1, HL, HB, Hw1⟩
        case measure => simp [intOf]; omega
      | true =>
        go_wp2_with (at_builtin
                     refine wpList_append_any _ rfl (.tmp 48) (.tmp 50) 63 rfl w1.heap.size 60 j0 (.agg #[.bool false, .int .i64 0, .string ⟨#[]⟩]) 3 32 Tryz.underlying63 hj0 hk0 hj1 hk2 rfl (by decide) A9 j c9 _ rfl (own_below HO.out (((Below.refl _ wr).alloc (Nat.le_refl _) (.cells #[.bool false, .int .i64 1, .string ⟨#[]⟩] 60)).alloc (by simp) (.cells #[.bool false, .int .i64 1, .string ⟨#[]⟩] 60))) (some ⟨_, 0, none⟩) 1 1 (cls [(false, 1, ⟨#[]⟩)]) rfl (by exact reads_cellb _ _ (by simp) _ _ _) (cls_one _) hs1 hs2 (Nat.le_trans Hw1.out (by simp; omega)) ?_
                     intro A8 c8 w8 r1 r2 r3 r4 r5
                     rw [← cls_append] at r1
                     have R1 := Lib.hid r1
                     have R2 := Lib.hid r2
                     clear r1 r2 r3 r4 r5)
        have R1 := Lib.hid (show w8.ownsRow w1.heap.size 60 3 (.slice A8 (j + 1) c8) (j + 1) (cls ((bl.take (j + 1)).map boolC)) by rw [List.take_add_one, Hx.out, List.map_append]; exact R1.out)
        have HL := Lib.hid (((HL.out.alloc Hw1.out (.cells #[.bool false, .int .i64 1, .string ⟨#[]⟩] 60)).alloc (Nat.le_trans Hw1.out (by simp)) (.cells #[.bool false, .int .i64 1, .string ⟨#[]⟩] 60)).below R2.out)
        have HB := Lib.hid (((HB.out.alloc HB.out.size (.cells #[.bool false, .int .i64 1, .string ⟨#[]⟩] 60)).alloc (Nat.le_trans HB.out.size (by simp)) (.cells #[.bool false, .int .i64 1, .string ⟨#[]⟩] 60)).trans (R2.out.mono HB1w.out))
        have Hw1 := Lib.hid (show w1.heap.size ≤ w8.heap.size from Nat.le_trans (Nat.le_trans Hw1.out (by simp; omega)) R2.out.size)
        go_roundw
        case rel => exact ⟨j + 1, A8, c8, by omega, rfl, by go_num, fun h => absurd h (by omega), R1, HL, HB, Hw1⟩
        case measure => simp [intOf]; omega
    · obtain rfl : j = bl.length := by omega
      go_wp2
      go_ret3
      rw [Hgb.out]
      by_cases he : er = 0
      · subst he
        have ho := HO.out
        rw [List.take_of_length_le (Nat.le_refl _)] at ho
        obtain ⟨p1, p2⟩ := own_caps ho
        simp only [if_true]
        refine ⟨HB.out, by simpa using hus, A9, c9, by simp only [List.length_map]; rfl, by simpa using p1, p2, ?_⟩
        simp only [List.length_map]
        exact own_mono ho (HB1w.out)
      · have hz2 := Hemp.out he
        obtain ⟨hb0, hs0⟩ := hz2
        subst hs0
        obtain ⟨h1, h2⟩ := hz (by rw [hb0]; rfl)
        subst h1 h2
        rw [if_neg he]
        refine ⟨HB.out, ?_, he⟩
        rw [hb0]
        rfl
set_option maxRecDepth 100000 in
set_option maxHeartbeats 2000000 in
theorem rsome4_any (B : Option Addr) (m cb : Nat) (xs : List UInt8) (n : Int) (w : World) (hr : Reads w w.heap.size 1 B m (u8s xs)) (hm : m ≤ cb) (hc : cb ≤ maxLen) (hn1 : -9223372036854775808 ≤ n) (hn2 : n ≤ 9223372036854775807) :
    Calls Tryz.prog 119 #[.slice B m cb, .int .i64 4, .int .i64 n] w (GotC3 (getB 4 xs n) w) := by
  obtain ⟨j0, hj0, hk0, hj1, hk2⟩ := info_parts cell_info
  have Hgb := Lib.hid (show getB 4 xs n = (match getDI xs n 1024 with
    | .ok (l, s) => if l.all (fun s => Lib.validD s.data.toList) = true then .ok (l.map txtC, s) else .error 90
    | .error e => .error e) by simp only [getB, show ¬ (4 : Int) = 1 by decide, if_false, if_true]; rfl)
  go_enter Tryz.func119, Tryz.ntmps119
  go_wp2_with fail
  with_reducible refine (refdget_any B m cb xs n 1024 _ hr hm hc hn1 hn2 (by decide)).mono ?_
  rintro e w1 ⟨q4, hm3⟩
  have HB := Lib.hid q4
  have HB1w := Lib.hid q4.size
  rcases hd : getDI xs n 1024 with er | ⟨bl, sz⟩
  · have he0 : er ≠ 0 := fun h => getDI_err0 _ _ _ (by rw [hd, h])
    rw [hd] at hm3
    simp only at hm3
    subst hm3
    have HE := Lib.hid (show getB 4 xs n = .error er by rw [Hgb.out, hd])
    clear hd q4
    go_wp2
    go_loopw [9, 18] (fun v i wr => v = .slice none 0 0 ∧ i = .int .i64 0 ∧ wr = w1) (fun _ _ _ => 0)
    case atStart => exact ⟨rfl, rfl, rfl⟩
    case round =>
      obtain ⟨rfl, rfl, rfl⟩ := hrel
      go_wp2
      go_ret3
      rw [HE.out]
      exact ⟨HB.out, rfl, he0⟩
  · have ho := getDI_only _ _ _ _ _ hd
    have hzs := getDI_sizes _ _ _ _ _ hd
    rw [hd] at hm3
    obtain ⟨AL, cL, rfl, q1, q2, q3⟩ := hm3
    have Hzs := Lib.hid hzs
    have hbl := ho.2.1
    have HE := Lib.hid (show getB 4 xs n = (if bl.all (fun s => Lib.validD s.data.toList) = true then .ok (bl.map txtC, sz) else .error 90) by rw [Hgb.out, hd])
    have HL := Lib.hid (Reads.of_own q3)
    clear hd ho hzs q1 q2 q3 q4
    go_wp2
    go_loopw [9, 18] (fun v i wr => ∃ (j : Nat) (A9 : Option Addr) (c9 : Nat), j ≤ bl.length ∧ v = .slice A9 j c9 ∧ i = .int .i64 (j : Int) ∧ Hid ((bl.take j).all (fun s => Lib.validD s.data.toList) = true) ∧ Hid (wr.ownsRow w1.heap.size 60 3 (.slice A9 j c9) j (cls ((bl.take j).map txtC))) ∧ Hid (Reads wr w1.heap.size 1 AL bl.length (txs bl)) ∧ Hid (Below w.heap.size w wr) ∧ Hid (w1.heap.size ≤ wr.heap.size)) (fun _ i _ => bl.length - (intOf i).toNat)
    case atStart => exact ⟨0, none, 0, Nat.zero_le _, rfl, rfl, Lib.hid rfl, Lib.hid (World.ownsRow_nil _ _ _ _), HL, HB, Lib.hid (Nat.le_refl _)⟩
    case round =>
      obtain ⟨j, A9, c9, hj, rfl, rfl, Hall, HO, HL, HB, Hw1⟩ := hrel
      by_cases hlt : j < bl.length
      · obtain ⟨ad, u, rfl, hbk, hu, hcell⟩ := HL.out.at_ hlt
        obtain ⟨s, hx, rfl⟩ := txs_get _ _ _ hu
        have Hx := Lib.hid hx
        have Hs := Lib.hid (Hzs.out s (List.mem_of_getElem? hx))
        have HbL := Lib.hid (show (ad.add j).block < w1.heap.size by rw [block_of_add]; exact hbk)
        have hs1 : j + 1 ≤ maxLen := by simp only [maxLen]; omega
        have hs2 : (j + 1) * 32 ≤ 70368744177664 := by omega
        clear hu hx hbk
        go_wp2_with fail
        with_reducible refine (uvalid_any s _ (by have := Hs.out; simp only [maxLen]; omega)).mono ?_
        rintro e w5 ⟨rfl, hb5⟩
        have hcell := (hb5.cell (p := ad.add j) (Nat.lt_of_lt_of_le HbL.out Hw1.out)).trans hcell
        have HO := Lib.hid (own_below HO.out hb5)
        have HL := Lib.hid (HL.out.below (hb5.mono Hw1.out))
        have HB := Lib.hid (HB.out.trans (hb5.mono HB.out.size))
        have Hw1 := Lib.hid (Nat.le_trans Hw1.out hb5.size)
        clear hb5
        cases hv : Lib.validD s.data.toList with
        | false =>
          have HE2 := Lib.hid (show bl.all (fun s => Lib.validD s.data.toList) = false by rw [List.all_eq_false]; exact ⟨s, List.mem_of_getElem? Hx.out, by simp [hv]⟩)
          clear hv
          go_wp2
          go_ret3
          rw [HE.out, HE2.out]
          exact ⟨HB.out, rfl, by decide⟩
        | true =>
          have Hall2 := Lib.hid (show (bl.take (j + 1)).all (fun s => Lib.validD s.data.toList) = true by rw [List.take_add_one, Hx.out]; simp only [Option.toList_some, List.all_append, Hall.out, Bool.true_and, List.all_cons, List.all_nil, hv, Bool.and_true])
          clear hv
          go_wp2_with (at_builtin
                       refine wpList_append_any _ rfl (.tmp 76) (.tmp 82) 63 rfl w1.heap.size 60 j0 (.agg #[.bool false, .int .i64 0, .string ⟨#[]⟩]) 3 32 Tryz.underlying63 hj0 hk0 hj1 hk2 rfl (by decide) A9 j c9 _ rfl (own_below HO.out ((Below.refl _ w5).alloc (Nat.le_refl _) (.cells #[.bool false, .int .i64 0, .string s] 60))) (some ⟨_, 0, none⟩) 1 1 (cls [(false, 0, s)]) rfl (by exact reads_cellb _ _ (by simp) _ _ _) (cls_one _) hs1 hs2 (Nat.le_trans Hw1.out (by simp)) ?_
                       intro A8 c8 w8 r1 r2 r3 r4 r5
                       rw [← cls_append] at r1
                       have R1 := Lib.hid r1
                       have R2 := Lib.hid r2
                       clear r1 r2 r3 r4 r5)
          have R1 := Lib.hid (show w8.ownsRow w1.heap.size 60 3 (.slice A8 (j + 1) c8) (j + 1) (cls ((bl.take (j + 1)).map txtC)) by rw [List.take_add_one, Hx.out, List.map_append]; exact R1.out)
          have HL := Lib.hid ((HL.out.alloc Hw1.out (.cells #[.bool false, .int .i64 0, .string s] 60)).below R2.out)
          have HB := Lib.hid ((HB.out.alloc HB.out.size (.cells #[.bool false, .int .i64 0, .string s] 60)).trans (R2.out.mono HB1w.out))
          have Hw1 := Lib.hid (show w1.heap.size ≤ w8.heap.size from Nat.le_trans (Nat.le_trans Hw1.out (by simp)) R2.out.size)
          go_roundw
          case rel => exact ⟨j + 1, A8, c8, by omega, rfl, by go_num, Hall2, R1, HL, HB, Hw1⟩
          case measure => simp [intOf]; omega
      · obtain rfl : j = bl.length := by omega
        go_wp2
        go_ret3
        rw [HE.out]
        have ho := HO.out
        have ha := Hall.out
        rw [List.take_of_length_le (Nat.le_refl _)] at ho ha
        obtain ⟨p1, p2⟩ := own_caps ho
        rw [if_pos ha]
        refine ⟨HB.out, by simpa using hbl, A9, c9, by simp only [List.length_map]; rfl, by simpa using p1, p2, ?_⟩
        simp only [List.length_map]
        exact own_mono ho HB1w.out
set_option maxRecDepth 100000 in
set_option maxHeartbeats 2000000 in
theorem rsomeI_any (k : Int) (hk : k = 2 ∨ k = 3) (B : Option Addr) (m cb : Nat) (xs : List UInt8) (N : Nat) (w : World) (hr : Reads w w.heap.size 1 B m (u8s xs)) (hm : m ≤ cb) (hc : cb ≤ maxLen) (hN : N ≤ 1048576) :
    Calls Tryz.prog 119 #[.slice B m cb, .int .i64 k, .int .i64 (N : Int)] w (GotC3 (iterC (stepI k xs) N) w) := by
  obtain ⟨j0, hj0, hk0, hj1, hk2⟩ := info_parts cell_info
  have hmk : mayK k = true := by rcases hk with rfl | rfl <;> rfl
  have hk1 : (k == 1) = false := by rcases hk with rfl | rfl <;> rfl
  have hk4 : (k == 4) = false := by rcases hk with rfl | rfl <;> rfl
  have hk5 : (k == 5) = false := by rcases hk with rfl | rfl <;> rfl
  have hk5' : (k != 5) = true := by rcases hk with rfl | rfl <;> rfl
  have Hr := Lib.hid hr
  have Hmx := Lib.hid hc
  have Hxl := Lib.hid (show xs.length = m from reads_len hr)
  clear hr hc
  go_enter Tryz.func119, Tryz.ntmps119
  go_wp2
  go_loopw [9, 19, 20] (fun v at_ i wr => ∃ (j : Nat) (lj : List Cl) (q : Nat) (A9 : Option Addr) (c9 : Nat), j ≤ N ∧ v = .slice A9 j c9 ∧ at_ = .int .i64 (q : Int) ∧ i = .int .i64 (j : Int) ∧ q ≤ m ∧ Hid (iterC (stepI k xs) j = .ok (lj, q)) ∧ Hid (lj.length = j) ∧ Hid (wr.ownsRow w.heap.size 60 3 (.slice A9 j c9) j (cls lj)) ∧ Hid (Below w.heap.size w wr)) (fun _ _ i _ => N - (intOf i).toNat)
  case atStart => exact ⟨0, [], 0, none, 0, Nat.zero_le _, rfl, rfl, rfl, Nat.zero_le _, Lib.hid rfl, Lib.hid rfl, Lib.hid (World.ownsRow_nil _ _ _ _), Lib.hid (Below.refl _ _)⟩
  case round =>
    obtain ⟨j, lj, q, A9, c9, hj, rfl, rfl, rfl, hqm, Hit, Hlj, HO, HB⟩ := hrel
    by_cases hlt : j < N
    · have hgs := get_size (xs.drop q)
      rw [List.length_drop, Hxl.out] at hgs
      have Hgs := Lib.hid hgs
      have hcut := ((Hr.out.below HB.out).more HB.out.size).cut (k := q) hqm hm
      rw [Nat.mul_one, u8s_drop] at hcut
      have hcm : cb ≤ 9223372036854775807 := by have := Hmx.out; simp only [maxLen] at this; omega
      obtain ⟨A2, hA2⟩ : ∃ A2, (if cb = q then B else Option.map (fun x => x.add q) B) = A2 := ⟨_, rfl⟩
      rw [hA2] at hcut
      have Hcut := Lib.hid hcut
      clear hgs hcut
      go_wp2_with fail
      with_reducible refine (refGetInt_any A2 (m - q) (cb - q) (xs.drop q) _ Hcut.out (by omega) (by have := Hmx.out; omega)).mono ?_
      rintro e w3 ⟨rfl, rfl⟩
      have hlt64 := get_lt (xs.drop q)
      generalize hget : get (xs.drop q) = r at Hgs hlt64 ⊢
      obtain ⟨rn, rk, re⟩ := r
      have Hget := Lib.hid hget
      have Hzb := Lib.hid (zag_bounds rn hlt64)
      clear hget hlt64 hA2
      simp only [gottenInt] at Hgs ⊢
      by_cases he : re = 0
      · subst he
        obtain ⟨q2, hq2⟩ : ∃ q2, q2 = q + rk := ⟨_, rfl⟩
        have hgs1 := Hgs.out.1
        have hq2m : q2 ≤ m := by omega
        have hsum : (q : Int) + (rk : Int) = (q2 : Int) := by omega
        have hmm : m ≤ 9223372036854775807 := by omega
        have Hq2 := Lib.hid hq2
        clear hq2 hgs1
        go_wp2_with fail
        with_reducible refine (rcheck_any3 k false false (zag rn) ⟨#[]⟩ _ ⟨Hzb.out.1, Hzb.out.2⟩).mono ?_
        rintro e w5 ⟨rfl, hb5⟩
        have HO := Lib.hid (own_below HO.out hb5)
        have HB := Lib.hid (HB.out.trans (hb5.mono HB.out.size))
        clear hb5
        have hE := checkE_is hmk false (zag rn) ⟨#[]⟩
        generalize checkE k false (false, zag rn, ⟨#[]⟩) = E0 at hE ⊢
        cases hI : isC k (false, zag rn, ⟨#[]⟩) with
        | false =>
          rw [hI] at hE
          simp only [Bool.false_eq_true, if_false] at hE
          subst hE
          have Hst := Lib.hid (iterC_err (iterC_next Hit.out (show stepI k xs (lj, q) = .error 90 by unfold stepI; simp only; rw [Hget.out]; simp only [if_true]; rw [if_neg (by unfold intC; rw [hI]; simp)])) (show j + 1 ≤ N by omega))
          clear hI
          go_wp2
          go_ret3
          rw [Hst.out]
          exact ⟨HB.out, rfl, by decide⟩
        | true =>
          rw [hI] at hE
          simp only [if_true] at hE
          subst hE
          have Hit2 := Lib.hid (iterC_next Hit.out (show stepI k xs (lj, q) = .ok (lj ++ [intC (zag rn)], q2) by unfold stepI; simp only; rw [Hget.out]; simp only [if_true]; rw [if_pos (by unfold intC; rw [hI]), Hq2.out]))
          have hs1 : j + 1 ≤ maxLen := by simp only [maxLen]; omega
          have hs2 : (j + 1) * 32 ≤ 70368744177664 := by omega
          clear hI
          go_wp2_with (at_builtin
                       refine wpList_append_any _ rfl (.tmp 114) (.tmp 117) 63 rfl w.heap.size 60 j0 (.agg #[.bool false, .int .i64 0, .string ⟨#[]⟩]) 3 32 Tryz.underlying63 hj0 hk0 hj1 hk2 rfl (by decide) A9 j c9 _ rfl (own_below HO.out ((Below.refl _ w5).alloc (Nat.le_refl _) (.cells #[.bool false, .int .i64 (zag rn), .string ⟨#[]⟩] 60))) (some ⟨_, 0, none⟩) 1 1 (cls [(false, (zag rn), ⟨#[]⟩)]) rfl (by exact reads_cellb _ _ (by simp) _ _ _) (cls_one _) hs1 hs2 (Nat.le_trans HB.out.size (by simp)) ?_
                       intro A8 c8 w8 r1 r2 r3 r4 r5
                       rw [← cls_append] at r1
                       have R1 := Lib.hid r1
                       have R2 := Lib.hid r2
                       clear r1 r2 r3 r4 r5)
          have HB := Lib.hid ((HB.out.alloc HB.out.size (.cells #[.bool false, .int .i64 (zag rn), .string ⟨#[]⟩] 60)).trans R2.out)
          go_roundw
          case rel => exact ⟨j + 1, lj ++ [intC (zag rn)], q2, A8, c8, by omega, rfl, rfl, by go_num, hq2m, Hit2, Lib.hid (by simp [Hlj.out]), R1, HB⟩
          case measure => simp [intOf]; omega
      · have hne : ((re : Int) == 0) = false := by simp; omega
        have hne2 : ((re : Int) != 0) = true := by simp; omega
        have Hst := Lib.hid (iterC_err (iterC_next Hit.out (show stepI k xs (lj, q) = .error re by unfold stepI; simp only; rw [Hget.out]; simp only; rw [if_neg he])) (show j + 1 ≤ N by omega))
        go_wp2
        go_ret3
        rw [Hst.out]
        exact ⟨HB.out, rfl, he⟩
    · obtain rfl : j = N := by omega
      go_wp2
      go_ret3
      rw [Hit.out]
      obtain ⟨q1, q2⟩ := own_caps HO.out
      have hl := Hlj.out
      refine ⟨HB.out, by rw [hl]; exact hN, A9, c9, by rw [hl]; rfl, by rw [hl]; exact q1, q2, by rw [hl]; exact HO.out⟩
set_option maxRecDepth 100000 in
set_option maxHeartbeats 2000000 in
theorem rsome5_any (B : Option Addr) (m cb : Nat) (xs : List UInt8) (N : Nat) (w : World) (hr : Reads w w.heap.size 1 B m (u8s xs)) (hm : m ≤ cb) (hc : cb ≤ maxLen) (hN : N ≤ 1048576) :
    Calls Tryz.prog 119 #[.slice B m cb, .int .i64 5, .int .i64 (N : Int)] w (GotC3 (iterC (stepR xs) N) w) := by
  obtain ⟨j0, hj0, hk0, hj1, hk2⟩ := info_parts cell_info
  have Hr := Lib.hid hr
  have Hmx := Lib.hid hc
  have Hxl := Lib.hid (show xs.length = m from reads_len hr)
  clear hr hc
  go_enter Tryz.func119, Tryz.ntmps119
  go_wp2
  go_loopw [9, 19, 20] (fun v at_ i wr => ∃ (j : Nat) (lj : List Cl) (q : Nat) (A9 : Option Addr) (c9 : Nat), j ≤ N ∧ v = .slice A9 j c9 ∧ at_ = .int .i64 (q : Int) ∧ i = .int .i64 (j : Int) ∧ q ≤ m ∧ Hid (iterC (stepR xs) j = .ok (lj, q)) ∧ Hid (lj.length = j) ∧ Hid (wr.ownsRow w.heap.size 60 3 (.slice A9 j c9) j (cls lj)) ∧ Hid (Below w.heap.size w wr)) (fun _ _ i _ => N - (intOf i).toNat)
  case atStart => exact ⟨0, [], 0, none, 0, Nat.zero_le _, rfl, rfl, rfl, Nat.zero_le _, Lib.hid rfl, Lib.hid rfl, Lib.hid (World.ownsRow_nil _ _ _ _), Lib.hid (Below.refl _ _)⟩
  case round =>
    obtain ⟨j, lj, q, A9, c9, hj, rfl, rfl, rfl, hqm, Hit, Hlj, HO, HB⟩ := hrel
    by_cases hlt : j < N
    · have hgs := get_size (xs.drop q)
      rw [List.length_drop, Hxl.out] at hgs
      have Hgs := Lib.hid hgs
      have hcut := ((Hr.out.below HB.out).more HB.out.size).cut (k := q) hqm hm
      rw [Nat.mul_one, u8s_drop] at hcut
      have hcm : cb ≤ 9223372036854775807 := by have := Hmx.out; simp only [maxLen] at this; omega
      obtain ⟨A2, hA2⟩ : ∃ A2, (if cb = q then B else Option.map (fun x => x.add q) B) = A2 := ⟨_, rfl⟩
      rw [hA2] at hcut
      have Hcut := Lib.hid hcut
      clear hgs hcut
      go_wp2_with fail
      with_reducible refine (refGet_any A2 (m - q) (cb - q) (xs.drop q) _ Hcut.out (by omega) (by have := Hmx.out; omega)).mono ?_
      rintro e w3 ⟨rfl, rfl⟩
      generalize hget : get (xs.drop q) = r at Hgs ⊢
      obtain ⟨rn, rk, re⟩ := r
      have Hget := Lib.hid hget
      clear hget hA2
      simp only [gotten] at Hgs ⊢
      by_cases he : re = 0
      · subst he
        obtain ⟨q2, hq2⟩ : ∃ q2, q2 = q + rk := ⟨_, rfl⟩
        have hgs1 := Hgs.out.1
        have hq2m : q2 ≤ m := by omega
        have hsum : (q : Int) + (rk : Int) = (q2 : Int) := by omega
        have hmm : m ≤ 9223372036854775807 := by omega
        have Hq2 := Lib.hid hq2
        clear hq2 hgs1
        by_cases hbig : 1024 < rn
        · have d5 : decide ((1024 : Int) < (rn : Int)) = true := by simp; omega
          have Hst := Lib.hid (iterC_err (iterC_next Hit.out (show stepR xs (lj, q) = .error 5 by unfold stepR; simp only; rw [Hget.out]; simp only [if_true]; rw [if_pos hbig])) (show j + 1 ≤ N by omega))
          go_wp2
          go_ret3
          rw [Hst.out]
          exact ⟨HB.out, rfl, by decide⟩
        · have d5 : decide ((1024 : Int) < (rn : Int)) = false := by simp; omega
          have Hbig := Lib.hid hbig
          have hrn : rn ≤ 1024 := by omega
          by_cases hsh : m - q2 < rn
          · have d6 : decide ((m : Int) - (q2 : Int) < (rn : Int)) = true := by simp; omega
            have Hst := Lib.hid (iterC_err (iterC_next Hit.out (show stepR xs (lj, q) = .error 3 by
              unfold stepR; simp only; rw [Hget.out]; simp only [if_true]
              rw [if_neg Hbig.out, if_pos (by rw [Hxl.out]; have := Hq2.out; omega)])) (show j + 1 ≤ N by omega))
            go_wp2
            go_ret3
            rw [Hst.out]
            exact ⟨HB.out, rfl, by decide⟩
          · have d6 : decide ((m : Int) - (q2 : Int) < (rn : Int)) = false := by simp; omega
            obtain ⟨q3, hq3⟩ : ∃ q3, q3 = q2 + rn := ⟨_, rfl⟩
            have hq3m : q3 ≤ m := by omega
            have hsum3 : (q2 : Int) + (rn : Int) = (q3 : Int) := by omega
            have Hit2 := Lib.hid (iterC_next Hit.out (show stepR xs (lj, q) = .ok (lj ++ [txtC (txt ((xs.drop q2).take (q3 - q2)))], q3) by
              unfold stepR; simp only; rw [Hget.out]; simp only [if_true]
              rw [if_neg Hbig.out, if_neg (by rw [Hxl.out]; have := Hq2.out; omega), ← Hq2.out, ← hq3, show q3 - q2 = rn by omega]))
            have hcut2 := ((Hr.out.below HB.out).more HB.out.size).cut (k := q2) hq2m hm
            rw [Nat.mul_one, u8s_drop] at hcut2
            have hcut3 := hcut2.head (k := q3 - q2) (by omega)
            rw [Nat.mul_one, u8s_take] at hcut3
            obtain ⟨A4, hA4⟩ : ∃ A4, (if cb = q2 then B else Option.map (fun x => x.add q2) B) = A4 := ⟨_, rfl⟩
            rw [hA4] at hcut3
            have hCV := run_bytes_string (P := Tryz.prog) wr 26 9 5 Tryz.underlying26 Tryz.underlying5 Tryz.underlying9 _ A4 (q3 - q2) (cb - q2) _ hcut3
            have hs1 : j + 1 ≤ maxLen := by simp only [maxLen]; omega
            have hs2 : (j + 1) * 32 ≤ 70368744177664 := by omega
            have hq32 : q2 ≤ q3 := by omega
            have hq3c : q3 ≤ cb := by omega
            have hsl : (txt ((xs.drop q2).take (q3 - q2)) : ByteArray) = ⟨((xs.drop q2).take (q3 - q2)).toArray⟩ := rfl
            rw [← hsl] at hCV
            clear hcut2 hcut3 hq3 hbig hsh hsl
            generalize txt ((xs.drop q2).take (q3 - q2)) = s at Hit2 hCV
            go_wp2_with (at_builtin
                         refine wpList_append_any _ rfl (.tmp 142) (.tmp 152) 63 rfl w.heap.size 60 j0 (.agg #[.bool false, .int .i64 0, .string ⟨#[]⟩]) 3 32 Tryz.underlying63 hj0 hk0 hj1 hk2 rfl (by decide) A9 j c9 _ rfl (own_below HO.out ((Below.refl _ wr).alloc (Nat.le_refl _) (.cells #[.bool false, .int .i64 0, .string s] 60))) (some ⟨_, 0, none⟩) 1 1 (cls [(false, 0, s)]) rfl (by exact reads_cellb _ _ (by simp) _ _ _) (cls_one _) hs1 hs2 (Nat.le_trans HB.out.size (by simp)) ?_
                         intro A8 c8 w8 r1 r2 r3 r4 r5
                         rw [← cls_append] at r1
                         have R1 := Lib.hid r1
                         have R2 := Lib.hid r2
                         clear r1 r2 r3 r4 r5)
            have HB := Lib.hid ((HB.out.alloc HB.out.size (.cells #[.bool false, .int .i64 0, .string s] 60)).trans R2.out)
            go_roundw
            case rel => exact ⟨j + 1, lj ++ [txtC s], q3, A8, c8, by omega, rfl, by go_num, by go_num, hq3m, Hit2, Lib.hid (by simp [Hlj.out]), R1, HB⟩
            case measure => simp [intOf]; omega
      · have hne : ((re : Int) == 0) = false := by simp; omega
        have hne2 : ((re : Int) != 0) = true := by simp; omega
        have Hst := Lib.hid (iterC_err (iterC_next Hit.out (show stepR xs (lj, q) = .error re by unfold stepR; simp only; rw [Hget.out]; simp only; rw [if_neg he])) (show j + 1 ≤ N by omega))
        go_wp2
        go_ret3
        rw [Hst.out]
        exact ⟨HB.out, rfl, he⟩
    · obtain rfl : j = N := by omega
      go_wp2
      go_ret3
      rw [Hit.out]
      obtain ⟨q1, q2⟩ := own_caps HO.out
      have hl := Hlj.out
      refine ⟨HB.out, by rw [hl]; exact hN, A9, c9, by rw [hl]; rfl, by rw [hl]; exact q1, q2, by rw [hl]; exact HO.out⟩
theorem rsome_any (k : Int) (B : Option Addr) (m cb : Nat) (xs : List UInt8) (N : Nat) (w : World) (hr : Reads w w.heap.size 1 B m (u8s xs)) (hm : m ≤ cb) (hc : cb ≤ maxLen) (hN : N ≤ 1048576) (h1 : 1 ≤ k) (h5 : k ≤ 5) :
    Calls Tryz.prog 119 #[.slice B m cb, .int .i64 k, .int .i64 (N : Int)] w (GotC3 (getB k xs (N : Int)) w) := by
  rcases (show k = 1 ∨ k = 2 ∨ k = 3 ∨ k = 4 ∨ k = 5 by omega) with rfl | rfl | rfl | rfl | rfl
  · exact rsome1_any B m cb xs N w hr hm hc (by omega) (by omega)
  · have e : getB 2 xs (N : Int) = iterC (stepI 2 xs) N := by simp only [getB, show ¬ (2 : Int) = 1 by decide, show ¬ (2 : Int) = 4 by decide, show ¬ (2 : Int) = 5 by decide, if_false, Int.toNat_natCast]
    rw [e]
    exact rsomeI_any 2 (.inl rfl) B m cb xs N w hr hm hc hN
  · have e : getB 3 xs (N : Int) = iterC (stepI 3 xs) N := by simp only [getB, show ¬ (3 : Int) = 1 by decide, show ¬ (3 : Int) = 4 by decide, show ¬ (3 : Int) = 5 by decide, if_false, Int.toNat_natCast]
    rw [e]
    exact rsomeI_any 3 (.inr rfl) B m cb xs N w hr hm hc hN
  · exact rsome4_any B m cb xs N w hr hm hc (by omega) (by omega)
  · have e : getB 5 xs (N : Int) = iterC (stepR xs) N := by simp only [getB, show ¬ (5 : Int) = 1 by decide, show ¬ (5 : Int) = 4 by decide, if_true, if_false, Int.toNat_natCast]
    rw [e]
    exact rsome5_any B m cb xs N w hr hm hc hN
end Go.Proofs.YtdajddkbkbnoiaaGreatDoor
