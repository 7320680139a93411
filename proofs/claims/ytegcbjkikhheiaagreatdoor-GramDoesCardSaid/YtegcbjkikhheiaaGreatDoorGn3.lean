/- Part 3 of the walks, merged: each text under its own heading. Conditions: none of its own; each lemma states what it asks. -/
import Derived.Test.YtegcbjkikhheiaaGreatDoorGn2
set_option linter.unusedVariables false
set_option linter.unusedSimpArgs false
namespace Go.Proofs.YtegcbjkikhheiaaGreatDoor
open Go.RowKit
theorem putText_eq (s : ByteArray) : leb s.size ++ s.data.toList = putText s := by
  unfold putText bts
  rw [Array.length_toList]
  rfl
structure StrK (w : World) (g : Nat) (X : Option Addr) (xn xc : Nat) (xs : List UInt8) (base : Nat) (A : Option Addr) (n c : Nat) (l : List Cl) (out : List UInt8) (wr : World) : Prop where
  wk : Wk wr g X xn xc xs out
  own : wr.ownsRow base 53 3 (.slice A n c) n (cls l)
  grown : w.grownBy wr (some g)
section
variable {w wr w' : World} {g : Nat} {X : Option Addr} {xn xc : Nat} {xs : List UInt8} {base : Nat} {A : Option Addr} {n c : Nat} {l : List Cl} {out : List UInt8} {e : Ending} {o2 : List UInt8}
theorem StrK.on (h : StrK w g X xn xc xs base A n c l out wr) (hb : Below wr.heap.size wr w') : StrK w g X xn xc xs base A n c l out w' := ⟨h.wk.on hb, own_below h.own hb, grown_trans h.grown (grown_of_below hb)⟩
theorem StrK.step (h : StrK w g X xn xc xs base A n c l out wr) (hp : WalkP g X xn xc xs out o2 wr e w') : StrK w g X xn xc xs base A n c l (out ++ o2) w' :=
  ⟨hp.2.1, own_grown h.own h.wk.blk (by decide) hp.2.2, grown_trans h.grown hp.2.2⟩
end
set_option maxRecDepth 100000 in
set_option maxHeartbeats 8000000 in
theorem rstrings_any (g : Nat) (X : Option Addr) (xn xc : Nat) (xs pre : List UInt8) (A : Option Addr) (n c base : Nat) (l : List Cl) (w : World) (h : Wk w g X xn xc xs pre) (ho : w.ownsRow base 53 3 (.slice A n c) n (cls l)) (hn : n ≤ 1048576) (hsz : ∀ s ∈ txc l, s.size ≤ 1048576) (hl : pre.length + (putD (txc l)).length ≤ 4611686018400000000) :
    Calls Tryz.prog 136 #[.pointer (some ⟨g, 0, none⟩), .slice A n c] w (WalkP g X xn xc xs pre (putD (txc l)) w) := by
  have hln : (txc l).length = n := by have := cls_len (own_reads ho); simpa using this
  have H := Lib.hid (show StrK w g X xn xc xs base A n c l pre w from ⟨h, ho, grown_refl _ _⟩)
  have Hln := Lib.hid hln
  have Hsz := Lib.hid hsz
  have hpd := putD_eq (txc l)
  have Hpd := Lib.hid hpd
  have hnt : ∀ k, k < n → ∃ s, (txc l)[k]? = some s := fun k hk => ⟨_, List.getElem?_eq_getElem (by rw [hln]; exact hk)⟩
  have Hnt := Lib.hid hnt
  have hdn := dct_len (txc l)
  rw [hln] at hdn
  have Hl := Lib.hid hl
  clear h ho hln hsz hpd hnt hl
  go_enter Tryz.func136, Tryz.ntmps136
  go_wp2
  go_loopw [4, 5] (fun u v wr => ∃ i nd : Nat, i ≤ n ∧ nd ≤ i ∧ u = .int .i64 (nd : Int) ∧ v = .int .i64 (i : Int) ∧ Hid (nd = (dct ((txc l).take i)).length) ∧ Hid (StrK w g X xn xc xs base A n c l pre wr)) (fun _ v _ => n - (intOf v).toNat)
  case atStart => exact ⟨0, 0, Nat.zero_le _, Nat.zero_le _, rfl, rfl, Lib.hid rfl, H⟩
  case round =>
    clear H
    obtain ⟨i, nd, hi, hni, rfl, rfl, Hnd, H⟩ := hrel
    by_cases hin : i < n
    · have d1 : decide ((i : Int) < (n : Int)) = true := by simp; omega
      obtain ⟨s, hs⟩ := Hnt.out i hin
      have Hs := Lib.hid hs
      clear hs
      go_wp2_with fail
      with_reducible refine (rfirst_any A n c l i s Hs.out _ (own_reads H.out.own) (by omega)).mono ?_
      rintro e w1 ⟨b, rfl, hbi, hb1⟩
      replace H := Lib.hid (H.out.on hb1)
      clear hb1
      by_cases hmem : s ∈ (txc l).take i
      · have Hq := Lib.hid (show nd = (dct ((txc l).take (i + 1))).length by rw [Hnd.out, dct_take_in Hs.out hmem])
        obtain rfl : b = false := by cases b; rfl; exact absurd hmem (hbi.1 rfl)
        clear hmem hbi
        go_wp2
        go_roundw
        case rel => exact ⟨i + 1, nd, hin, by omega, rfl, by go_num, Hq, H⟩
        case measure => simp [intOf]; omega
      · have Hq := Lib.hid (show nd + 1 = (dct ((txc l).take (i + 1))).length by rw [Hnd.out, dct_take_out Hs.out hmem, List.length_append]; rfl)
        obtain rfl : b = true := hbi.2 hmem
        clear hmem hbi
        go_wp2
        go_roundw
        case rel => exact ⟨i + 1, nd + 1, hin, by omega, by go_num, by go_num, Hq, H⟩
        case measure => simp [intOf]; omega
    · obtain rfl : i = n := by omega
      have d1 : decide ((i : Int) < (i : Int)) = false := by simp
      have hnD : nd = (dct (txc l)).length := by rw [Hnd.out, List.take_of_length_le (by rw [Hln.out]; exact Nat.le_refl _)]
      have HnD := Lib.hid hnD
      obtain ⟨D, hD⟩ : ∃ D, dct (txc l) = D := ⟨_, rfl⟩
      have HD := Lib.hid hD
      have Hl2 := Lib.hid (show pre.length + (leb nd ++ (D.flatMap putText ++ (txc l).flatMap fun s => leb (numOf D s))).length ≤ 4611686018400000000 by rw [hnD, ← hD, ← Hpd.out]; exact Hl.out)
      have Hpd2 := Lib.hid (show putD (txc l) = leb nd ++ (D.flatMap putText ++ (txc l).flatMap fun s => leb (numOf D s)) by rw [hnD, ← hD, ← Hpd.out])
      clear hnD hD
      go_wp2_with fail
      refine (rnumber_any g X xn xc xs pre nd _ (by first | rfl | (simp only [IntKind.wrap_u64]; omega)) (by omega) _ H.out.wk (by have := Hl.out; omega)).mono ?_
      intro e w1 hp1
      obtain rfl := hp1.1
      replace H := Lib.hid (H.out.step hp1)
      clear hp1 Hl Hpd d1
      go_wp2
      go_loopw [6] (fun v wr => ∃ j : Nat, j ≤ i ∧ v = .int .i64 (j : Int) ∧ Hid (StrK w g X xn xc xs base A i c l (pre ++ (leb nd ++ (dct ((txc l).take j)).flatMap putText)) wr)) (fun v _ => i - (intOf v).toNat)
      case atStart => exact ⟨0, Nat.zero_le _, rfl, Lib.hid (by rw [List.take_zero, dct_nil, List.flatMap_nil, List.append_nil]; exact H.out)⟩
      case round =>
        clear H
        obtain ⟨j, hj, rfl, H⟩ := hrel
        by_cases hji : j < i
        · have d1 : decide ((j : Int) < (i : Int)) = true := by simp; omega
          obtain ⟨s, hs⟩ := Hnt.out j hji
          have Hs := Lib.hid hs
          have hss : s.size ≤ 1048576 := Hsz.out s (List.mem_of_getElem? hs)
          clear hs
          go_wp2_with fail
          with_reducible refine (rfirst_any A i c l j s Hs.out _ (own_reads H.out.own) (by omega)).mono ?_
          rintro e w2 ⟨b, rfl, hbi, hb1⟩
          replace H := Lib.hid (H.out.on hb1)
          clear hb1
          by_cases hmem : s ∈ (txc l).take j
          · have Hq := Lib.hid (dct_take_in Hs.out hmem)
            obtain rfl : b = false := by cases b; rfl; exact absurd hmem (hbi.1 rfl)
            clear hmem hbi
            go_wp2
            go_roundw
            case rel => exact ⟨j + 1, hji, by go_num, Lib.hid (by rw [Hq.out]; exact H.out)⟩
            case measure => simp [intOf]; omega
          · have Hq := Lib.hid (dct_take_out Hs.out hmem)
            have hpf := dct_prefix (txc l) (j + 1)
            rw [HD.out, Hq.out] at hpf
            obtain ⟨r, hr⟩ := hpf
            have hlen : (pre ++ (leb nd ++ (dct ((txc l).take j)).flatMap putText)).length + 10 + s.size ≤ 4611686018427387904 := by
              have := Hl2.out
              rw [← hr] at this
              simp only [List.length_append, List.flatMap_append] at this ⊢
              omega
            have hej : (j : Int) < (i : Int) := by omega
            obtain ⟨ad, u, m, s1, rfl, -, hb1, -, -, g2⟩ := cls_at (own_reads H.out.own) hji
            obtain rfl : s1 = s := Option.some.inj ((txc_at hb1).symm.trans Hs.out)
            obtain rfl : b = true := hbi.2 hmem
            clear hmem hr hb1 hbi
            go_wp2_with fail
            refine (rtext_any g X xn xc xs _ s1 (by simp only [maxLen]; omega) _ H.out.wk hlen).mono ?_
            intro e w3 hp3
            obtain rfl := hp3.1
            have H3 := Lib.hid (H.out.step hp3)
            rw [List.append_assoc, List.append_assoc, putText_eq] at H3
            replace H := Lib.hid (show StrK w g X xn xc xs base (some ad) i c l (pre ++ (leb nd ++ (dct ((txc l).take (j + 1))).flatMap putText)) w3 by
              rw [Hq.out, List.flatMap_append, List.flatMap_cons, List.flatMap_nil, List.append_nil]
              exact H3.out)
            clear hp3 hlen g2 H3
            go_wp2
            go_roundw
            case rel => exact ⟨j + 1, hji, by go_num, H⟩
            case measure => simp [intOf]; omega
        · obtain rfl : j = i := by omega
          have d1 : decide ((j : Int) < (j : Int)) = false := by simp
          rw [List.take_of_length_le (by rw [Hln.out]; exact Nat.le_refl _), HD.out] at H
          go_wp2
          go_loopw [7] (fun v wr => ∃ q : Nat, q ≤ j ∧ v = .int .i64 (q : Int) ∧ Hid (StrK w g X xn xc xs base A j c l (pre ++ (leb nd ++ (D.flatMap putText ++ ((txc l).take q).flatMap fun s => leb (numOf D s)))) wr)) (fun v _ => j - (intOf v).toNat)
          case atStart => exact ⟨0, Nat.zero_le _, rfl, Lib.hid (by rw [List.take_zero, List.flatMap_nil, List.append_nil]; exact H.out)⟩
          case round =>
            clear H d1
            obtain ⟨q, hq, rfl, H⟩ := hrel
            by_cases hqj : q < j
            · have d1 : decide ((q : Int) < (j : Int)) = true := by simp; omega
              obtain ⟨s, hs⟩ := Hnt.out q hqj
              have Hs := Lib.hid hs
              clear hs
              generalize wr = W at *
              go_wp2
              go_loopw [8, 9] (fun u v wr => ∃ k kd : Nat, k ≤ q ∧ kd ≤ k ∧ u = .int .i64 (kd : Int) ∧ v = .int .i64 (k : Int) ∧ Hid (s ∉ (txc l).take k) ∧ Hid (kd = (dct ((txc l).take k)).length) ∧ Hid (StrK w g X xn xc xs base A j c l (pre ++ (leb nd ++ (D.flatMap putText ++ ((txc l).take q).flatMap fun s => leb (numOf D s)))) wr)) (fun _ v _ => j - (intOf v).toNat)
              case atStart => exact ⟨0, 0, Nat.zero_le _, Nat.zero_le _, rfl, rfl, Lib.hid (by simp), Lib.hid rfl, H⟩
              case round =>
                clear H
                obtain ⟨k, kd, hkq, hkk, rfl, rfl, Hno, Hkd, H⟩ := hrel
                have hkj : k < j := by omega
                have e1 : (k : Int) < (j : Int) := by omega
                have e2 : (q : Int) < (j : Int) := by omega
                have hr2 := own_reads H.out.own
                obtain ⟨ad, u, m, s1, rfl, -, hb1, -, -, g2⟩ := cls_at hr2 hkj
                obtain ⟨ad', u', m', s', had, -, hb2, -, -, k2⟩ := cls_at hr2 hqj
                obtain rfl := Option.some.inj had
                obtain rfl : s' = s := Option.some.inj ((txc_at hb2).symm.trans Hs.out)
                have HA := Lib.hid (show ∀ w', w' = wr.drew → w'.cell? ⟨(ad.add (k * 3)).block, (ad.add (k * 3)).off + 2, none⟩ = some (.string s1) from fun w' h => by rw [h]; exact g2)
                have HC := Lib.hid (show ∀ w', w' = wr.drew → w'.cell? ⟨(ad.add (q * 3)).block, (ad.add (q * 3)).off + 2, none⟩ = some (.string s') from fun w' h => by rw [h]; exact k2)
                have Hb1 := Lib.hid (txc_at hb1)
                replace H := Lib.hid (H.out.on (show Below wr.heap.size wr wr.drew from (Below.refl _ _).drew))
                clear hr2 hb1 hb2 g2 k2 had
                by_cases hss : s1 = s'
                · subst hss
                  have hsb : (s1.toList == s1.toList) = true := by simp
                  have hsn : (s1.toList != s1.toList) = false := by simp
                  go_wp2
                  have hS : wr.drew = wr.drew := rfl
                  refine wp_region_keep (fun w' => w' = wr.drew) [(0, false), (1, false), (2, false), (3, false), (4, false), (5, false), (6, false), (7, false), (8, false), (9, false), (10, false)] (by kernel_rfl) (by kernel_rfl) (by kernel_rfl) (fun d _ _ _ _ h => by cases d <;> exact h) ?_
                  iterate 4
                    refine held_pure (v := ?_) rfl rfl (by simp [Region.wanted, yielded]) hS ?_ ?_
                    rotate_left
                    · intro w hw; go_simp; try with_reducible rfl
                    try simp only [Act.put, List.setIfInBounds_toArray, List.set_cons_succ, List.set_cons_zero]
                  refine held_pure (v := ?_) rfl rfl (by simp [Region.wanted, yielded]) hS ?_ ?_
                  rotate_left
                  · intro w hw; have c0 := HA.out w hw; clear hw; go_simp; try with_reducible rfl
                  try simp only [Act.put, List.setIfInBounds_toArray, List.set_cons_succ, List.set_cons_zero]
                  iterate 4
                    refine held_pure (v := ?_) rfl rfl (by simp [Region.wanted, yielded]) hS ?_ ?_
                    rotate_left
                    · intro w hw; go_simp; try with_reducible rfl
                    try simp only [Act.put, List.setIfInBounds_toArray, List.set_cons_succ, List.set_cons_zero]
                  refine held_pure (v := ?_) rfl rfl (by simp [Region.wanted, yielded]) hS ?_ ?_
                  rotate_left
                  · intro w hw; have c0 := HC.out w hw; clear hw; go_simp; try with_reducible rfl
                  try simp only [Act.put, List.setIfInBounds_toArray, List.set_cons_succ, List.set_cons_zero]
                  refine held_pure (v := ?_) rfl rfl (by simp [Region.wanted, yielded]) hS ?_ ?_
                  rotate_left
                  · intro w hw; go_simp; try with_reducible rfl
                  try simp only [Act.put, List.setIfInBounds_toArray, List.set_cons_succ, List.set_cons_zero]
                  refine held_end ?_
                  clear HA HC
                  have hnum : numOf D s1 = kd := by
                    have := place_first Hb1.out Hno.out
                    rw [HD.out, ← Hkd.out] at this
                    unfold numOf
                    rw [this]
                    rfl
                  have Hst := Lib.hid (show ((txc l).take (q + 1)).flatMap (fun s => leb (numOf D s)) = ((txc l).take q).flatMap (fun s => leb (numOf D s)) ++ leb kd by
                    rw [List.take_add_one, Hs.out]
                    simp [hnum])
                  have hlen : (pre ++ (leb nd ++ (D.flatMap putText ++ ((txc l).take q).flatMap fun s => leb (numOf D s)))).length + 10 ≤ 4611686018427387904 := by
                    have h1 : (((txc l).take q).flatMap fun s => leb (numOf D s)).length ≤ ((txc l).flatMap fun s => leb (numOf D s)).length := by
                      conv => rhs; rw [← List.take_append_drop q (txc l), List.flatMap_append, List.length_append]
                      omega
                    have := Hl2.out
                    simp only [List.length_append] at this ⊢
                    omega
                  clear hnum hsb hsn
                  go_wp2_with fail
                  refine (rnumber_any g X xn xc xs _ kd _ (by first | rfl | (simp only [IntKind.wrap_u64]; omega)) (by omega) _ H.out.wk hlen).mono ?_
                  intro e w3 hp3
                  obtain rfl := hp3.1
                  have H3 := H.out.step hp3
                  replace H := Lib.hid (show StrK w g X xn xc xs base (some ad) j c l (pre ++ (leb nd ++ (D.flatMap putText ++ ((txc l).take (q + 1)).flatMap fun s => leb (numOf D s)))) w3 by
                    rw [Hst.out]
                    simpa only [List.append_assoc] using H3)
                  clear hp3 hlen H3
                  go_wp2
                  go_roundw
                  case rel => exact ⟨q + 1, hqj, by go_num, H⟩
                  case measure => simp [intOf]; omega
                · have hkq2 : k < q := by
                    rcases Nat.lt_or_eq_of_le hkq with h | h
                    · exact h
                    · subst h; exact absurd (Option.some.inj (Hb1.out.symm.trans Hs.out)) hss
                  have HY := Lib.hid (show s' ∉ (txc l).take (k + 1) by
                    rw [List.take_add_one, Hb1.out]
                    intro h
                    rcases List.mem_append.1 h with h | h
                    · exact Hno.out h
                    · exact hss (List.mem_singleton.1 h).symm)
                  have hsl : ¬ s1.toList = s'.toList := by
                    intro h
                    have h2 := text_eqb2 s1 s'
                    rw [h] at h2
                    simp at h2
                    exact hss h2
                  have hsb : (s1.toList == s'.toList) = false := by simpa using hsl
                  have hsn : (s1.toList != s'.toList) = true := by simpa using hsl
                  clear hss
                  go_wp2
                  have hS : wr.drew = wr.drew := rfl
                  refine wp_region_keep (fun w' => w' = wr.drew) [(0, false), (1, false), (2, false), (3, false), (4, false), (5, false), (6, false), (7, false), (8, false), (9, false), (10, false)] (by kernel_rfl) (by kernel_rfl) (by kernel_rfl) (fun d _ _ _ _ h => by cases d <;> exact h) ?_
                  iterate 4
                    refine held_pure (v := ?_) rfl rfl (by simp [Region.wanted, yielded]) hS ?_ ?_
                    rotate_left
                    · intro w hw; go_simp; try with_reducible rfl
                    try simp only [Act.put, List.setIfInBounds_toArray, List.set_cons_succ, List.set_cons_zero]
                  refine held_pure (v := ?_) rfl rfl (by simp [Region.wanted, yielded]) hS ?_ ?_
                  rotate_left
                  · intro w hw; have c0 := HA.out w hw; clear hw; go_simp; try with_reducible rfl
                  try simp only [Act.put, List.setIfInBounds_toArray, List.set_cons_succ, List.set_cons_zero]
                  iterate 4
                    refine held_pure (v := ?_) rfl rfl (by simp [Region.wanted, yielded]) hS ?_ ?_
                    rotate_left
                    · intro w hw; go_simp; try with_reducible rfl
                    try simp only [Act.put, List.setIfInBounds_toArray, List.set_cons_succ, List.set_cons_zero]
                  refine held_pure (v := ?_) rfl rfl (by simp [Region.wanted, yielded]) hS ?_ ?_
                  rotate_left
                  · intro w hw; have c0 := HC.out w hw; clear hw; go_simp; try with_reducible rfl
                  try simp only [Act.put, List.setIfInBounds_toArray, List.set_cons_succ, List.set_cons_zero]
                  refine held_pure (v := ?_) rfl rfl (by simp [Region.wanted, yielded]) hS ?_ ?_
                  rotate_left
                  · intro w hw; go_simp; try with_reducible rfl
                  try simp only [Act.put, List.setIfInBounds_toArray, List.set_cons_succ, List.set_cons_zero]
                  refine held_end ?_
                  clear HA HC
                  go_wp2_with fail
                  with_reducible refine (rfirst_any (some ad) j c l k s1 Hb1.out _ (own_reads H.out.own) (by omega)).mono ?_
                  rintro e w2 ⟨b, rfl, hbi, hb1⟩
                  replace H := Lib.hid (H.out.on hb1)
                  clear hb1 hsl hsb hsn
                  by_cases hmem : s1 ∈ (txc l).take k
                  · have Hq := Lib.hid (show kd = (dct ((txc l).take (k + 1))).length by rw [Hkd.out, dct_take_in Hb1.out hmem])
                    obtain rfl : b = false := by cases b; rfl; exact absurd hmem (hbi.1 rfl)
                    clear hmem hbi
                    go_wp2
                    go_roundw
                    case rel => exact ⟨k + 1, kd, hkq2, by omega, rfl, by go_num, HY, Hq, H⟩
                    case measure => simp [intOf]; omega
                  · have Hq := Lib.hid (show kd + 1 = (dct ((txc l).take (k + 1))).length by rw [Hkd.out, dct_take_out Hb1.out hmem, List.length_append]; rfl)
                    obtain rfl : b = true := hbi.2 hmem
                    clear hmem hbi
                    go_wp2
                    go_roundw
                    case rel => exact ⟨k + 1, kd + 1, hkq2, by omega, by go_num, by go_num, HY, Hq, H⟩
                    case measure => simp [intOf]; omega
            · obtain rfl : q = j := by omega
              have d1 : decide ((q : Int) < (q : Int)) = false := by simp
              rw [List.take_of_length_le (by rw [Hln.out]; exact Nat.le_refl _), ← Hpd2.out] at H
              go_wp2
              go_end0
              exact ⟨rfl, H.out.wk, H.out.grown⟩
end Go.Proofs.YtegcbjkikhheiaaGreatDoor
namespace Go.Proofs.YtegcbjkikhheiaaGreatDoor
open Go.RowKit
set_option maxRecDepth 100000 in
theorem rmay_any (k : Int) (nl : Bool) (w : World) : Calls Tryz.prog 132 #[.agg #[.int .i64 k, .bool nl]] w fun e w' => e = .returned (.bool (mayK k)) ∧ Below w.heap.size w w' := by
  unfold mayK
  by_cases h1 : 1 ≤ k
  · have d1 : decide (1 ≤ k) = true := decide_eq_true h1
    by_cases h2 : k ≤ 5
    · have d2 : decide (k ≤ 5) = true := decide_eq_true h2
      rw [decide_eq_true (by omega : 1 ≤ k ∧ k ≤ 5)]
      go_enter Tryz.func132, Tryz.ntmps132
      go_wp2
      go_ret
      exact ⟨rfl, (Below.refl _ _).alloc (Nat.le_refl _) _⟩
    · have d2 : decide (k ≤ 5) = false := decide_eq_false h2
      rw [decide_eq_false (by omega : ¬ (1 ≤ k ∧ k ≤ 5))]
      go_enter Tryz.func132, Tryz.ntmps132
      go_wp2
      go_ret
      exact ⟨rfl, (Below.refl _ _).alloc (Nat.le_refl _) _⟩
  · have d1 : decide (1 ≤ k) = false := decide_eq_false h1
    rw [decide_eq_false (by omega : ¬ (1 ≤ k ∧ k ≤ 5))]
    go_enter Tryz.func132, Tryz.ntmps132
    go_wp2
    go_ret
    exact ⟨rfl, (Below.refl _ _).alloc (Nat.le_refl _) _⟩
def ofB (k : Int) (nl : Bool) (c : Cl) : Bool := if c.1 then nl && decide (c.2.1 = 0 ∧ c.2.2 = ⟨#[]⟩) else isC k c
abbrev K9 (n : Int) : Prop := -9223372036854775808 ≤ n ∧ n ≤ 9223372036854775807
set_option maxRecDepth 100000 in
theorem rof_null (k : Int) (nl : Bool) (n : Int) (s : ByteArray) (w : World) : Calls Tryz.prog 182 #[.agg #[.int .i64 k, .bool nl], .agg #[.bool true, .int .i64 n, .string s]] w fun e w' => e = .returned (.bool (ofB k nl (true, n, s))) ∧ Below w.heap.size w w' := by
  cases nl with
  | false =>
    rw [show ofB k false (true, n, s) = false from rfl]
    go_enter Tryz.func182, Tryz.ntmps182
    go_wp2
    go_ret
    exact ⟨rfl, ((Below.refl _ _).alloc (Nat.le_refl _) _).alloc (by simp) _⟩
  | true =>
    by_cases hn : n = 0
    · subst hn
      by_cases hs : s = ⟨#[]⟩
      · subst hs
        rw [show ofB k true (true, 0, ⟨#[]⟩) = true by simp [ofB]]
        go_enter Tryz.func182, Tryz.ntmps182
        go_wp2
        go_ret
        exact ⟨rfl, ((Below.refl _ _).alloc (Nat.le_refl _) _).alloc (by simp) _⟩
      · have hss := empty_no hs
        rw [show ofB k true (true, 0, s) = false by simp [ofB, hs]]
        go_enter Tryz.func182, Tryz.ntmps182
        go_wp2
        go_ret
        exact ⟨rfl, ((Below.refl _ _).alloc (Nat.le_refl _) _).alloc (by simp) _⟩
    · have hnn : (n == 0) = false := by simpa using hn
      rw [show ofB k true (true, n, s) = false by simp [ofB, hn]]
      go_enter Tryz.func182, Tryz.ntmps182
      go_wp2
      go_ret
      exact ⟨rfl, ((Below.refl _ _).alloc (Nat.le_refl _) _).alloc (by simp) _⟩
set_option maxRecDepth 100000 in
theorem rof_one (nl : Bool) (n : Int) (s : ByteArray) (w : World) : Calls Tryz.prog 182 #[.agg #[.int .i64 1, .bool nl], .agg #[.bool false, .int .i64 n, .string s]] w fun e w' => e = .returned (.bool (ofB 1 nl (false, n, s))) ∧ Below w.heap.size w w' := by
  by_cases hs : s = ⟨#[]⟩
  · subst hs
    by_cases h0 : n = 0
    · subst h0
      rw [show ofB 1 nl (false, 0, ⟨#[]⟩) = true by simp [ofB, isC]]
      go_enter Tryz.func182, Tryz.ntmps182
      go_wp2
      go_ret
      exact ⟨rfl, ((Below.refl _ _).alloc (Nat.le_refl _) _).alloc (by simp) _⟩
    · have hn0 : (n == 0) = false := by simpa using h0
      by_cases h1 : n = 1
      · subst h1
        rw [show ofB 1 nl (false, 1, ⟨#[]⟩) = true by simp [ofB, isC]]
        go_enter Tryz.func182, Tryz.ntmps182
        go_wp2
        go_ret
        exact ⟨rfl, ((Below.refl _ _).alloc (Nat.le_refl _) _).alloc (by simp) _⟩
      · have hn1 : (n == 1) = false := by simpa using h1
        rw [show ofB 1 nl (false, n, ⟨#[]⟩) = false by simp [ofB, isC]; omega]
        go_enter Tryz.func182, Tryz.ntmps182
        go_wp2
        go_ret
        exact ⟨rfl, ((Below.refl _ _).alloc (Nat.le_refl _) _).alloc (by simp) _⟩
  · have hss := empty_no hs
    rw [show ofB 1 nl (false, n, s) = false by simp [ofB, isC, hs]]
    go_enter Tryz.func182, Tryz.ntmps182
    go_wp2
    go_ret
    exact ⟨rfl, ((Below.refl _ _).alloc (Nat.le_refl _) _).alloc (by simp) _⟩
set_option maxRecDepth 100000 in
theorem rof_two (nl : Bool) (n : Int) (s : ByteArray) (w : World) : Calls Tryz.prog 182 #[.agg #[.int .i64 2, .bool nl], .agg #[.bool false, .int .i64 n, .string s]] w fun e w' => e = .returned (.bool (ofB 2 nl (false, n, s))) ∧ Below w.heap.size w w' := by
  by_cases hs : s = ⟨#[]⟩
  · subst hs
    by_cases h0 : -2147483648 ≤ n
    · have d0 : decide (-2147483648 ≤ n) = true := decide_eq_true h0
      rw [show ofB 2 nl (false, n, ⟨#[]⟩) = decide (n ≤ 2147483647) by simp [ofB, isC, h0]]
      go_enter Tryz.func182, Tryz.ntmps182
      go_wp2
      go_ret
      exact ⟨rfl, ((Below.refl _ _).alloc (Nat.le_refl _) _).alloc (by simp) _⟩
    · have d0 : decide (-2147483648 ≤ n) = false := decide_eq_false h0
      rw [show ofB 2 nl (false, n, ⟨#[]⟩) = false by simp [ofB, isC]; omega]
      go_enter Tryz.func182, Tryz.ntmps182
      go_wp2
      go_ret
      exact ⟨rfl, ((Below.refl _ _).alloc (Nat.le_refl _) _).alloc (by simp) _⟩
  · have hss := empty_no hs
    rw [show ofB 2 nl (false, n, s) = false by simp [ofB, isC, hs]]
    go_enter Tryz.func182, Tryz.ntmps182
    go_wp2
    go_ret
    exact ⟨rfl, ((Below.refl _ _).alloc (Nat.le_refl _) _).alloc (by simp) _⟩
set_option maxRecDepth 100000 in
theorem rof_three (nl : Bool) (n : Int) (s : ByteArray) (w : World) (hn : K9 n) : Calls Tryz.prog 182 #[.agg #[.int .i64 3, .bool nl], .agg #[.bool false, .int .i64 n, .string s]] w fun e w' => e = .returned (.bool (ofB 3 nl (false, n, s))) ∧ Below w.heap.size w w' := by
  obtain ⟨h1, h2⟩ := hn
  by_cases hs : s = ⟨#[]⟩
  · subst hs
    rw [show ofB 3 nl (false, n, ⟨#[]⟩) = true by simp [ofB, isC]; omega]
    clear h1 h2
    go_enter Tryz.func182, Tryz.ntmps182
    go_wp2
    go_ret
    exact ⟨rfl, ((Below.refl _ _).alloc (Nat.le_refl _) _).alloc (by simp) _⟩
  · have hss := empty_no hs
    rw [show ofB 3 nl (false, n, s) = false by simp [ofB, isC, hs]]
    clear h1 h2
    go_enter Tryz.func182, Tryz.ntmps182
    go_wp2
    go_ret
    exact ⟨rfl, ((Below.refl _ _).alloc (Nat.le_refl _) _).alloc (by simp) _⟩
set_option maxRecDepth 100000 in
theorem rof_five (nl : Bool) (n : Int) (s : ByteArray) (w : World) : Calls Tryz.prog 182 #[.agg #[.int .i64 5, .bool nl], .agg #[.bool false, .int .i64 n, .string s]] w fun e w' => e = .returned (.bool (ofB 5 nl (false, n, s))) ∧ Below w.heap.size w w' := by
  by_cases hn : n = 0
  · subst hn
    have hv : ofB 5 nl (false, 0, s) = decide (s.size ≤ 1024) := by simp [ofB, isC, sizeC]
    rw [hv]
    clear hv
    by_cases hs : s.size ≤ 1024
    · have d1 : decide ((s.size : Int) ≤ 1024) = true := by simp; omega
      rw [decide_eq_true hs]
      go_enter Tryz.func182, Tryz.ntmps182
      go_wp2
      go_ret
      exact ⟨rfl, ((Below.refl _ _).alloc (Nat.le_refl _) _).alloc (by simp) _⟩
    · have d1 : decide ((s.size : Int) ≤ 1024) = false := by simp; omega
      rw [decide_eq_false hs]
      go_enter Tryz.func182, Tryz.ntmps182
      go_wp2
      go_ret
      exact ⟨rfl, ((Below.refl _ _).alloc (Nat.le_refl _) _).alloc (by simp) _⟩
  · have hnn : (n == 0) = false := by simpa using hn
    rw [show ofB 5 nl (false, n, s) = false by simp [ofB, isC, sizeC, hn]]
    go_enter Tryz.func182, Tryz.ntmps182
    go_wp2
    go_ret
    exact ⟨rfl, ((Below.refl _ _).alloc (Nat.le_refl _) _).alloc (by simp) _⟩
set_option maxRecDepth 100000 in
theorem rof_four (nl : Bool) (n : Int) (s : ByteArray) (w : World) : Calls Tryz.prog 182 #[.agg #[.int .i64 4, .bool nl], .agg #[.bool false, .int .i64 n, .string s]] w fun e w' => e = .returned (.bool (ofB 4 nl (false, n, s))) ∧ Below w.heap.size w w' := by
  by_cases hn : n = 0
  · subst hn
    by_cases hs : s.size ≤ 1024
    · have d1 : decide ((s.size : Int) ≤ 1024) = true := by simp; omega
      have hv : ofB 4 nl (false, 0, s) = Lib.validD s.data.toList := by simp [ofB, isC, sizeC, hs]
      rw [hv]
      clear hv
      have hss : s.size ≤ maxLen := Nat.le_trans hs (by decide)
      have HS := Lib.hid hss
      clear hss
      go_enter Tryz.func182, Tryz.ntmps182
      go_wp2_with fail
      with_reducible refine (uvalid_any s _ HS.out).mono ?_
      rintro e w2 ⟨rfl, hb2⟩
      go_wp2
      go_ret
      exact ⟨rfl, bon (((Below.refl _ _).alloc (Nat.le_refl _) _).alloc (by simp) _) hb2⟩
    · have d1 : decide ((s.size : Int) ≤ 1024) = false := by simp; omega
      rw [show ofB 4 nl (false, 0, s) = false by simp [ofB, isC, sizeC, hs]]
      go_enter Tryz.func182, Tryz.ntmps182
      go_wp2
      go_ret
      exact ⟨rfl, ((Below.refl _ _).alloc (Nat.le_refl _) _).alloc (by simp) _⟩
  · have hnn : (n == 0) = false := by simpa using hn
    rw [show ofB 4 nl (false, n, s) = false by simp [ofB, isC, sizeC, hn]]
    go_enter Tryz.func182, Tryz.ntmps182
    go_wp2
    go_ret
    exact ⟨rfl, ((Below.refl _ _).alloc (Nat.le_refl _) _).alloc (by simp) _⟩
theorem rof_any (k : Int) (nl : Bool) (c : Cl) (w : World) (h1 : 1 ≤ k) (h5 : k ≤ 5) (hn : K9 c.2.1) : Calls Tryz.prog 182 #[.agg #[.int .i64 k, .bool nl], clV c] w fun e w' => e = .returned (.bool (ofB k nl c)) ∧ Below w.heap.size w w' := by
  obtain ⟨nu, n, s⟩ := c
  cases nu with
  | true => exact rof_null k nl n s w
  | false =>
    rcases (show k = 1 ∨ k = 2 ∨ k = 3 ∨ k = 4 ∨ k = 5 by omega) with rfl | rfl | rfl | rfl | rfl
    · exact rof_one nl n s w
    · exact rof_two nl n s w
    · exact rof_three nl n s w hn
    · exact rof_four nl n s w
    · exact rof_five nl n s w
theorem rof_any3 (k : Int) (nl nu : Bool) (n : Int) (s : ByteArray) (w : World) (h1 : 1 ≤ k) (h5 : k ≤ 5) (hn : K9 n) : Calls Tryz.prog 182 #[.agg #[.int .i64 k, .bool nl], .agg #[.bool nu, .int .i64 n, .string s]] w fun e w' => e = .returned (.bool (ofB k nl (nu, n, s))) ∧ Below w.heap.size w w' := rof_any k nl (nu, n, s) w h1 h5 hn
set_option maxRecDepth 100000 in
theorem rcheck_any (k : Int) (nl : Bool) (c : Cl) (w : World) (hn : K9 c.2.1) : Calls Tryz.prog 133 #[.agg #[.int .i64 k, .bool nl], clV c] w fun e w' => e = .returned (.int .i64 (checkE k nl c)) ∧ Below w.heap.size w w' := by
  obtain ⟨nu, n, s⟩ := c
  have Hn := Lib.hid hn
  clear hn
  show Calls Tryz.prog 133 #[.agg #[.int .i64 k, .bool nl], .agg #[.bool nu, .int .i64 n, .string s]] w _
  have hb0 := Lib.hid (show Below w.heap.size w ((w.alloc (.cells #[.int .i64 k, .bool nl] 62)).alloc (.cells #[.bool nu, .int .i64 n, .string s] 53)) from ((Below.refl _ _).alloc (Nat.le_refl _) _).alloc (by simp) _)
  have B2 := Lib.hid ((Blk.new w 62 #[.int .i64 k, .bool nl]).alloc (.cells #[.bool nu, .int .i64 n, .string s] 53))
  have B3 := Lib.hid (Blk.new' (w.alloc (.cells #[.int .i64 k, .bool nl] 62)) 53 #[.bool nu, .int .i64 n, .string s] (w.heap.size + 1) (by simp))
  go_enter Tryz.func133, Tryz.ntmps133
  go_wp2_with fail
  with_reducible refine (rmay_any k nl _).mono ?_
  rintro e w1 ⟨rfl, hb1⟩
  have hb2 := Lib.hid (bon hb0.out hb1)
  replace B2 := Lib.hid (B2.out.on hb1)
  replace B3 := Lib.hid (B3.out.on hb1)
  clear hb1 hb0
  have c20 := B2.out.cell 0
  have c21 := B2.out.cell 1
  have c30 := B3.out.cell 0
  have c31 := B3.out.cell 1
  have c32 := B3.out.cell 2
  cases hm : mayK k with
  | false =>
    go_wp2
    go_ret
    exact ⟨by simp [checkE, hm], hb2.out⟩
  | true =>
    obtain ⟨hk1, hk5⟩ : 1 ≤ k ∧ k ≤ 5 := by simpa [mayK] using hm
    go_wp2_with fail
    with_reducible refine (rof_any3 k nl nu n s _ hk1 hk5 Hn.out).mono ?_
    rintro e w2 ⟨rfl, hb3⟩
    have hb4 := Lib.hid (bon hb2.out hb3)
    have HE := Lib.hid (show checkE k nl (nu, n, s) = if ofB k nl (nu, n, s) then 0 else 90 by simp [checkE, hm, ofB])
    clear hb3
    generalize hI : ofB k nl (nu, n, s) = I at HE ⊢
    cases I with
    | true =>
      go_wp2
      go_ret
      exact ⟨by first | (rw [HE.out]; rfl) | rfl, hb4.out⟩
    | false =>
      go_wp2
      go_ret
      exact ⟨by first | (rw [HE.out]; rfl) | rfl, hb4.out⟩
end Go.Proofs.YtegcbjkikhheiaaGreatDoor
namespace Go.Proofs.YtegcbjkikhheiaaGreatDoor
open Go.RowKit
theorem rcheck_any3 (k : Int) (nl u : Bool) (x : Int) (s : ByteArray) (w : World) (hn : K9 x) : Calls Tryz.prog 133 #[.agg #[.int .i64 k, .bool nl], .agg #[.bool u, .int .i64 x, .string s]] w fun e w' => e = .returned (.int .i64 (checkE k nl (u, x, s))) ∧ Below w.heap.size w w' := rcheck_any k nl (u, x, s) w hn
end Go.Proofs.YtegcbjkikhheiaaGreatDoor
namespace Go.Proofs.YtegcbjkikhheiaaGreatDoor
open Go.RowKit
set_option maxRecDepth 100000 in
set_option maxHeartbeats 2000000 in
theorem eqRow_any (A B : Option Addr) (n c m d : Nat) (l1 l2 : List Cl) (w : World) (h1 : Reads w w.heap.size 3 A n (cls l1)) (h2 : Reads w w.heap.size 3 B m (cls l2)) (hn : n ≤ maxLen) :
    Calls Tryz.prog 60 #[.slice A n c, .slice B m d] w fun e w' => e = .returned (.bool (decide (l1 = l2))) ∧ Below w.heap.size w w' := by
  have H1 := Lib.hid h1
  have H2 := Lib.hid h2
  have Hl1 := Lib.hid (cls_len h1)
  have Hl2 := Lib.hid (cls_len h2)
  have hn63 : n ≤ 9223372036854775807 := by simp only [maxLen] at hn; omega
  clear h1 h2 hn
  by_cases hnm : n = m
  · subst hnm
    go_enter Tryz.func60, Tryz.ntmps60
    go_wp2
    go_loopw [5] (fun i wr => ∃ j : Nat, j ≤ n ∧ i = .int .i64 (j : Int) ∧ Hid (l1.take j = l2.take j) ∧ Hid (Below w.heap.size w wr)) (fun i _ => n - (intOf i).toNat)
    case atStart => exact ⟨0, Nat.zero_le _, rfl, Lib.hid rfl, Lib.hid (Below.refl _ _)⟩
    case round =>
      obtain ⟨j, hj, rfl, Htk, HB⟩ := hrel
      by_cases hlt : j < n
      · obtain ⟨ad, u, x, s, rfl, hbk, hx, a0, a1, a2⟩ := cls_at (H1.out.below HB.out) hlt
        obtain ⟨ad', u', x', s', rfl, hbk', hx', b0, b1, b2⟩ := cls_at (H2.out.below HB.out) hlt
        have Hx := Lib.hid hx
        have Hx' := Lib.hid hx'
        have HA0 := Lib.hid (show ∀ w', w' = wr.drew → w'.cell? (ad.add (j * 3)) = some (.bool u) from fun w' h => by rw [h]; exact a0)
        have HA1 := Lib.hid (show ∀ w', w' = wr.drew → w'.cell? ⟨(ad.add (j * 3)).block, (ad.add (j * 3)).off + 1, none⟩ = some (.int .i64 x) from fun w' h => by rw [h]; exact a1)
        have HA2 := Lib.hid (show ∀ w', w' = wr.drew → w'.cell? ⟨(ad.add (j * 3)).block, (ad.add (j * 3)).off + 2, none⟩ = some (.string s) from fun w' h => by rw [h]; exact a2)
        have HB0 := Lib.hid (show ∀ w', w' = wr.drew → w'.cell? (ad'.add (j * 3)) = some (.bool u') from fun w' h => by rw [h]; exact b0)
        have HB1 := Lib.hid (show ∀ w', w' = wr.drew → w'.cell? ⟨(ad'.add (j * 3)).block, (ad'.add (j * 3)).off + 1, none⟩ = some (.int .i64 x') from fun w' h => by rw [h]; exact b1)
        have HB2 := Lib.hid (show ∀ w', w' = wr.drew → w'.cell? ⟨(ad'.add (j * 3)).block, (ad'.add (j * 3)).off + 2, none⟩ = some (.string s') from fun w' h => by rw [h]; exact b2)
        clear hx hx' hbk hbk' a0 a1 a2 b0 b1 b2
        by_cases hc : (u, x, s) = (u', x', s')
        · simp only [Prod.mk.injEq] at hc
          obtain ⟨rfl, rfl, rfl⟩ := hc
          have Htk2 := Lib.hid (show l1.take (j + 1) = l2.take (j + 1) by rw [List.take_add_one, List.take_add_one, Hx.out, Hx'.out, Htk.out])
          go_wp2
          have hji : (j : Int) < (n : Int) := by omega
          have hS : wr.drew = wr.drew := rfl
          refine wp_region_keep (fun w' => w' = wr.drew) [(0, false), (1, false), (2, false), (3, false), (4, false), (5, false), (6, false), (7, false), (8, false)] (by kernel_rfl) (by kernel_rfl) (by kernel_rfl) (fun d _ _ _ _ h => by cases d <;> exact h) ?_
          iterate 3
            refine held_pure (v := ?_) rfl rfl (by simp [Region.wanted, yielded]) hS ?_ ?_
            rotate_left
            · intro w hw; go_simp; try with_reducible rfl
            try simp only [Act.put, List.setIfInBounds_toArray, List.set_cons_succ, List.set_cons_zero]
          refine held_pure (v := ?_) rfl rfl (by simp [Region.wanted, yielded]) hS ?_ ?_
          rotate_left
          · intro w hw; have c0 := HA0.out w hw; have c1 := HA1.out w hw; have c2 := HA2.out w hw; clear hw; go_simp; try with_reducible rfl
          try simp only [Act.put, List.setIfInBounds_toArray, List.set_cons_succ, List.set_cons_zero]
          iterate 3
            refine held_pure (v := ?_) rfl rfl (by simp [Region.wanted, yielded]) hS ?_ ?_
            rotate_left
            · intro w hw; go_simp; try with_reducible rfl
            try simp only [Act.put, List.setIfInBounds_toArray, List.set_cons_succ, List.set_cons_zero]
          refine held_pure (v := ?_) rfl rfl (by simp [Region.wanted, yielded]) hS ?_ ?_
          rotate_left
          · intro w hw; have c0 := HB0.out w hw; have c1 := HB1.out w hw; have c2 := HB2.out w hw; clear hw; go_simp; try with_reducible rfl
          try simp only [Act.put, List.setIfInBounds_toArray, List.set_cons_succ, List.set_cons_zero]
          refine held_pure (v := ?_) rfl rfl (by simp [Region.wanted, yielded]) hS ?_ ?_
          rotate_left
          · intro w hw; go_simp; try with_reducible rfl
          try simp only [Act.put, List.setIfInBounds_toArray, List.set_cons_succ, List.set_cons_zero]
          refine held_end ?_
          go_wp2
          go_roundw
          case rel => exact ⟨j + 1, by omega, by go_num, Htk2, Lib.hid HB.out.drew⟩
          case measure => simp [intOf]; omega
        · have Hne := Lib.hid (show decide (l1 = l2) = false from decide_eq_false (fun h => hc (by subst h; exact Option.some.inj (Hx.out.symm.trans Hx'.out))))
          have Hc := Lib.hid hc
          clear hc
          cases u with
          | false =>
            cases u' with
            | false =>
              by_cases hxx : x = x'
              · subst hxx
                have hss : ¬ s.toList = s'.toList := by
                  intro h
                  apply Hc.out
                  have : (s.toList == s'.toList) = true := by rw [h]; simp
                  rw [text_eqb2] at this
                  rw [of_decide_eq_true this]
                go_wp2
                have hji : (j : Int) < (n : Int) := by omega
                have hS : wr.drew = wr.drew := rfl
                refine wp_region_keep (fun w' => w' = wr.drew) [(0, false), (1, false), (2, false), (3, false), (4, false), (5, false), (6, false), (7, false), (8, false)] (by kernel_rfl) (by kernel_rfl) (by kernel_rfl) (fun d _ _ _ _ h => by cases d <;> exact h) ?_
                iterate 3
                  refine held_pure (v := ?_) rfl rfl (by simp [Region.wanted, yielded]) hS ?_ ?_
                  rotate_left
                  · intro w hw; go_simp; try with_reducible rfl
                  try simp only [Act.put, List.setIfInBounds_toArray, List.set_cons_succ, List.set_cons_zero]
                refine held_pure (v := ?_) rfl rfl (by simp [Region.wanted, yielded]) hS ?_ ?_
                rotate_left
                · intro w hw; have c0 := HA0.out w hw; have c1 := HA1.out w hw; have c2 := HA2.out w hw; clear hw; go_simp; try with_reducible rfl
                try simp only [Act.put, List.setIfInBounds_toArray, List.set_cons_succ, List.set_cons_zero]
                iterate 3
                  refine held_pure (v := ?_) rfl rfl (by simp [Region.wanted, yielded]) hS ?_ ?_
                  rotate_left
                  · intro w hw; go_simp; try with_reducible rfl
                  try simp only [Act.put, List.setIfInBounds_toArray, List.set_cons_succ, List.set_cons_zero]
                refine held_pure (v := ?_) rfl rfl (by simp [Region.wanted, yielded]) hS ?_ ?_
                rotate_left
                · intro w hw; have c0 := HB0.out w hw; have c1 := HB1.out w hw; have c2 := HB2.out w hw; clear hw; go_simp; try with_reducible rfl
                try simp only [Act.put, List.setIfInBounds_toArray, List.set_cons_succ, List.set_cons_zero]
                refine held_pure (v := ?_) rfl rfl (by simp [Region.wanted, yielded]) hS ?_ ?_
                rotate_left
                · intro w hw; go_simp; try with_reducible rfl
                try simp only [Act.put, List.setIfInBounds_toArray, List.set_cons_succ, List.set_cons_zero]
                refine held_end ?_
                go_wp2
                go_ret
                rw [Hne.out]
                exact ⟨rfl, HB.out.drew⟩
              · have hxb : (x == x') = false := by simpa using hxx
                go_wp2
                have hji : (j : Int) < (n : Int) := by omega
                have hS : wr.drew = wr.drew := rfl
                refine wp_region_keep (fun w' => w' = wr.drew) [(0, false), (1, false), (2, false), (3, false), (4, false), (5, false), (6, false), (7, false), (8, false)] (by kernel_rfl) (by kernel_rfl) (by kernel_rfl) (fun d _ _ _ _ h => by cases d <;> exact h) ?_
                iterate 3
                  refine held_pure (v := ?_) rfl rfl (by simp [Region.wanted, yielded]) hS ?_ ?_
                  rotate_left
                  · intro w hw; go_simp; try with_reducible rfl
                  try simp only [Act.put, List.setIfInBounds_toArray, List.set_cons_succ, List.set_cons_zero]
                refine held_pure (v := ?_) rfl rfl (by simp [Region.wanted, yielded]) hS ?_ ?_
                rotate_left
                · intro w hw; have c0 := HA0.out w hw; have c1 := HA1.out w hw; have c2 := HA2.out w hw; clear hw; go_simp; try with_reducible rfl
                try simp only [Act.put, List.setIfInBounds_toArray, List.set_cons_succ, List.set_cons_zero]
                iterate 3
                  refine held_pure (v := ?_) rfl rfl (by simp [Region.wanted, yielded]) hS ?_ ?_
                  rotate_left
                  · intro w hw; go_simp; try with_reducible rfl
                  try simp only [Act.put, List.setIfInBounds_toArray, List.set_cons_succ, List.set_cons_zero]
                refine held_pure (v := ?_) rfl rfl (by simp [Region.wanted, yielded]) hS ?_ ?_
                rotate_left
                · intro w hw; have c0 := HB0.out w hw; have c1 := HB1.out w hw; have c2 := HB2.out w hw; clear hw; go_simp; try with_reducible rfl
                try simp only [Act.put, List.setIfInBounds_toArray, List.set_cons_succ, List.set_cons_zero]
                refine held_pure (v := ?_) rfl rfl (by simp [Region.wanted, yielded]) hS ?_ ?_
                rotate_left
                · intro w hw; go_simp; try with_reducible rfl
                try simp only [Act.put, List.setIfInBounds_toArray, List.set_cons_succ, List.set_cons_zero]
                refine held_end ?_
                go_wp2
                go_ret
                rw [Hne.out]
                exact ⟨rfl, HB.out.drew⟩
            | true =>
              go_wp2
              have hji : (j : Int) < (n : Int) := by omega
              have hS : wr.drew = wr.drew := rfl
              refine wp_region_keep (fun w' => w' = wr.drew) [(0, false), (1, false), (2, false), (3, false), (4, false), (5, false), (6, false), (7, false), (8, false)] (by kernel_rfl) (by kernel_rfl) (by kernel_rfl) (fun d _ _ _ _ h => by cases d <;> exact h) ?_
              iterate 3
                refine held_pure (v := ?_) rfl rfl (by simp [Region.wanted, yielded]) hS ?_ ?_
                rotate_left
                · intro w hw; go_simp; try with_reducible rfl
                try simp only [Act.put, List.setIfInBounds_toArray, List.set_cons_succ, List.set_cons_zero]
              refine held_pure (v := ?_) rfl rfl (by simp [Region.wanted, yielded]) hS ?_ ?_
              rotate_left
              · intro w hw; have c0 := HA0.out w hw; have c1 := HA1.out w hw; have c2 := HA2.out w hw; clear hw; go_simp; try with_reducible rfl
              try simp only [Act.put, List.setIfInBounds_toArray, List.set_cons_succ, List.set_cons_zero]
              iterate 3
                refine held_pure (v := ?_) rfl rfl (by simp [Region.wanted, yielded]) hS ?_ ?_
                rotate_left
                · intro w hw; go_simp; try with_reducible rfl
                try simp only [Act.put, List.setIfInBounds_toArray, List.set_cons_succ, List.set_cons_zero]
              refine held_pure (v := ?_) rfl rfl (by simp [Region.wanted, yielded]) hS ?_ ?_
              rotate_left
              · intro w hw; have c0 := HB0.out w hw; have c1 := HB1.out w hw; have c2 := HB2.out w hw; clear hw; go_simp; try with_reducible rfl
              try simp only [Act.put, List.setIfInBounds_toArray, List.set_cons_succ, List.set_cons_zero]
              refine held_pure (v := ?_) rfl rfl (by simp [Region.wanted, yielded]) hS ?_ ?_
              rotate_left
              · intro w hw; go_simp; try with_reducible rfl
              try simp only [Act.put, List.setIfInBounds_toArray, List.set_cons_succ, List.set_cons_zero]
              refine held_end ?_
              go_wp2
              go_ret
              rw [Hne.out]
              exact ⟨rfl, HB.out.drew⟩
          | true =>
            cases u' with
            | false =>
              go_wp2
              have hji : (j : Int) < (n : Int) := by omega
              have hS : wr.drew = wr.drew := rfl
              refine wp_region_keep (fun w' => w' = wr.drew) [(0, false), (1, false), (2, false), (3, false), (4, false), (5, false), (6, false), (7, false), (8, false)] (by kernel_rfl) (by kernel_rfl) (by kernel_rfl) (fun d _ _ _ _ h => by cases d <;> exact h) ?_
              iterate 3
                refine held_pure (v := ?_) rfl rfl (by simp [Region.wanted, yielded]) hS ?_ ?_
                rotate_left
                · intro w hw; go_simp; try with_reducible rfl
                try simp only [Act.put, List.setIfInBounds_toArray, List.set_cons_succ, List.set_cons_zero]
              refine held_pure (v := ?_) rfl rfl (by simp [Region.wanted, yielded]) hS ?_ ?_
              rotate_left
              · intro w hw; have c0 := HA0.out w hw; have c1 := HA1.out w hw; have c2 := HA2.out w hw; clear hw; go_simp; try with_reducible rfl
              try simp only [Act.put, List.setIfInBounds_toArray, List.set_cons_succ, List.set_cons_zero]
              iterate 3
                refine held_pure (v := ?_) rfl rfl (by simp [Region.wanted, yielded]) hS ?_ ?_
                rotate_left
                · intro w hw; go_simp; try with_reducible rfl
                try simp only [Act.put, List.setIfInBounds_toArray, List.set_cons_succ, List.set_cons_zero]
              refine held_pure (v := ?_) rfl rfl (by simp [Region.wanted, yielded]) hS ?_ ?_
              rotate_left
              · intro w hw; have c0 := HB0.out w hw; have c1 := HB1.out w hw; have c2 := HB2.out w hw; clear hw; go_simp; try with_reducible rfl
              try simp only [Act.put, List.setIfInBounds_toArray, List.set_cons_succ, List.set_cons_zero]
              refine held_pure (v := ?_) rfl rfl (by simp [Region.wanted, yielded]) hS ?_ ?_
              rotate_left
              · intro w hw; go_simp; try with_reducible rfl
              try simp only [Act.put, List.setIfInBounds_toArray, List.set_cons_succ, List.set_cons_zero]
              refine held_end ?_
              go_wp2
              go_ret
              rw [Hne.out]
              exact ⟨rfl, HB.out.drew⟩
            | true =>
              by_cases hxx : x = x'
              · subst hxx
                have hss : ¬ s.toList = s'.toList := by
                  intro h
                  apply Hc.out
                  have : (s.toList == s'.toList) = true := by rw [h]; simp
                  rw [text_eqb2] at this
                  rw [of_decide_eq_true this]
                go_wp2
                have hji : (j : Int) < (n : Int) := by omega
                have hS : wr.drew = wr.drew := rfl
                refine wp_region_keep (fun w' => w' = wr.drew) [(0, false), (1, false), (2, false), (3, false), (4, false), (5, false), (6, false), (7, false), (8, false)] (by kernel_rfl) (by kernel_rfl) (by kernel_rfl) (fun d _ _ _ _ h => by cases d <;> exact h) ?_
                iterate 3
                  refine held_pure (v := ?_) rfl rfl (by simp [Region.wanted, yielded]) hS ?_ ?_
                  rotate_left
                  · intro w hw; go_simp; try with_reducible rfl
                  try simp only [Act.put, List.setIfInBounds_toArray, List.set_cons_succ, List.set_cons_zero]
                refine held_pure (v := ?_) rfl rfl (by simp [Region.wanted, yielded]) hS ?_ ?_
                rotate_left
                · intro w hw; have c0 := HA0.out w hw; have c1 := HA1.out w hw; have c2 := HA2.out w hw; clear hw; go_simp; try with_reducible rfl
                try simp only [Act.put, List.setIfInBounds_toArray, List.set_cons_succ, List.set_cons_zero]
                iterate 3
                  refine held_pure (v := ?_) rfl rfl (by simp [Region.wanted, yielded]) hS ?_ ?_
                  rotate_left
                  · intro w hw; go_simp; try with_reducible rfl
                  try simp only [Act.put, List.setIfInBounds_toArray, List.set_cons_succ, List.set_cons_zero]
                refine held_pure (v := ?_) rfl rfl (by simp [Region.wanted, yielded]) hS ?_ ?_
                rotate_left
                · intro w hw; have c0 := HB0.out w hw; have c1 := HB1.out w hw; have c2 := HB2.out w hw; clear hw; go_simp; try with_reducible rfl
                try simp only [Act.put, List.setIfInBounds_toArray, List.set_cons_succ, List.set_cons_zero]
                refine held_pure (v := ?_) rfl rfl (by simp [Region.wanted, yielded]) hS ?_ ?_
                rotate_left
                · intro w hw; go_simp; try with_reducible rfl
                try simp only [Act.put, List.setIfInBounds_toArray, List.set_cons_succ, List.set_cons_zero]
                refine held_end ?_
                go_wp2
                go_ret
                rw [Hne.out]
                exact ⟨rfl, HB.out.drew⟩
              · have hxb : (x == x') = false := by simpa using hxx
                go_wp2
                have hji : (j : Int) < (n : Int) := by omega
                have hS : wr.drew = wr.drew := rfl
                refine wp_region_keep (fun w' => w' = wr.drew) [(0, false), (1, false), (2, false), (3, false), (4, false), (5, false), (6, false), (7, false), (8, false)] (by kernel_rfl) (by kernel_rfl) (by kernel_rfl) (fun d _ _ _ _ h => by cases d <;> exact h) ?_
                iterate 3
                  refine held_pure (v := ?_) rfl rfl (by simp [Region.wanted, yielded]) hS ?_ ?_
                  rotate_left
                  · intro w hw; go_simp; try with_reducible rfl
                  try simp only [Act.put, List.setIfInBounds_toArray, List.set_cons_succ, List.set_cons_zero]
                refine held_pure (v := ?_) rfl rfl (by simp [Region.wanted, yielded]) hS ?_ ?_
                rotate_left
                · intro w hw; have c0 := HA0.out w hw; have c1 := HA1.out w hw; have c2 := HA2.out w hw; clear hw; go_simp; try with_reducible rfl
                try simp only [Act.put, List.setIfInBounds_toArray, List.set_cons_succ, List.set_cons_zero]
                iterate 3
                  refine held_pure (v := ?_) rfl rfl (by simp [Region.wanted, yielded]) hS ?_ ?_
                  rotate_left
                  · intro w hw; go_simp; try with_reducible rfl
                  try simp only [Act.put, List.setIfInBounds_toArray, List.set_cons_succ, List.set_cons_zero]
                refine held_pure (v := ?_) rfl rfl (by simp [Region.wanted, yielded]) hS ?_ ?_
                rotate_left
                · intro w hw; have c0 := HB0.out w hw; have c1 := HB1.out w hw; have c2 := HB2.out w hw; clear hw; go_simp; try with_reducible rfl
                try simp only [Act.put, List.setIfInBounds_toArray, List.set_cons_succ, List.set_cons_zero]
                refine held_pure (v := ?_) rfl rfl (by simp [Region.wanted, yielded]) hS ?_ ?_
                rotate_left
                · intro w hw; go_simp; try with_reducible rfl
                try simp only [Act.put, List.setIfInBounds_toArray, List.set_cons_succ, List.set_cons_zero]
                refine held_end ?_
                go_wp2
                go_ret
                rw [Hne.out]
                exact ⟨rfl, HB.out.drew⟩
      · obtain rfl : j = n := by omega
        have He := Lib.hid (show decide (l1 = l2) = true by
          have := Htk.out
          rw [List.take_of_length_le (by rw [Hl1.out]; exact Nat.le_refl _), List.take_of_length_le (by rw [Hl2.out]; exact Nat.le_refl _)] at this
          exact decide_eq_true this)
        go_wp2
        go_ret
        rw [He.out]
        exact ⟨rfl, HB.out⟩
  · have hne : (n == m) = false := by simpa using hnm
    have hne2 : ((n : Int) == (m : Int)) = false := by simp; omega
    have Hne := Lib.hid (show decide (l1 = l2) = false from decide_eq_false (fun h => hnm (by rw [← Hl1.out, ← Hl2.out, h])))
    go_enter Tryz.func60, Tryz.ntmps60
    go_wp2
    go_ret
    rw [Hne.out]
    exact ⟨rfl, Below.refl _ _⟩
end Go.Proofs.YtegcbjkikhheiaaGreatDoor
namespace Go.Proofs.YtegcbjkikhheiaaGreatDoor
open Go.RowKit
theorem cutc_idem (c : Cl) : cutc (cutc c) = cutc c := by
  obtain ⟨u, x, s⟩ := c
  simp only [cutc, Prod.mk.injEq, true_and]
  have h : (s.extract 0 (min s.size 300)).size ≤ 300 := by simp only [ByteArray.size_extract]; omega
  generalize s.extract 0 (min s.size 300) = t at h
  rw [Nat.min_eq_left h]
  apply ByteArray.ext
  simp [ByteArray.data_extract, ← ByteArray.size_data]
theorem cutr_idem (r : List Cl) : cutr (cutr r) = cutr r := by
  unfold cutr
  rw [← List.map_take, List.take_take, Nat.min_self, List.map_map]
  exact List.map_congr_left fun c _ => cutc_idem c
theorem cutl_idem (l : List It) : cutl (cutl l) = cutl l := by
  unfold cutl
  rw [← List.map_take, List.take_take, Nat.min_self, List.map_map]
  exact List.map_congr_left fun it _ => by simp [cuti, cutr_idem]
end Go.Proofs.YtegcbjkikhheiaaGreatDoor
