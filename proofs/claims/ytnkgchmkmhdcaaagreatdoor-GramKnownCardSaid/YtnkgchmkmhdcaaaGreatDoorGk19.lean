/- Part 19 of the walks, merged: each text under its own heading. Conditions: none of its own; each lemma states what it asks. -/
import Derived.Test.YtnkgchmkmhdcaaaGreatDoorGk11
import Derived.Test.YtnkgchmkmhdcaaaGreatDoorGk15
import Derived.Test.YtnkgchmkmhdcaaaGreatDoorGk18
import Derived.Laws.ResultCell
set_option linter.unusedVariables false
set_option linter.unusedSimpArgs false
namespace Go.Proofs.YtnkgchmkmhdcaaaGreatDoor
open Go.RowKit
theorem number_lit (base g : Nat) (B : Option Addr) (m c : Nat) (xs : List UInt8) (most beyond : Nat) (mi bi : Int) (h1 : mi = (most : Int)) (h2 : bi = (beyond : Int)) (w : World) (hG : Blk w g 135 #[.slice B m c]) (hr : Reads w base 1 B m (u8s xs)) (hb : base ≤ w.heap.size) (hm : m ≤ c) (hc : c ≤ maxLen) (hbe : beyond ≠ 0) :
  Calls Tryz.prog 171 #[.pointer (some ⟨g, 0, none⟩), .int .u64 mi, .int .i64 bi] w (NumR (numD most beyond xs) base g w) := by
 subst h1 h2
 exact number_any base g B m c xs most beyond w hG hr hb hm hc hbe
def HeadR (r : Got (Nat × Nat × Nat × List UInt8)) (base g : Nat) (w : World) (e : Ending) (w' : World) : Prop :=
 But w.heap.size g w w' ∧ match r with
 | .ok h => e = .returned (.tuple #[.agg #[.int .i64 (h.1 : Int), .int .i64 (h.2.1 : Int), .slice none 0 0], .int .i64 (h.2.2.1 : Int)]) ∧ ∃ B m c, Blk w' g 135 #[.slice B m c] ∧ Reads w' base 1 B m (u8s h.2.2.2) ∧ m ≤ c ∧ c ≤ maxLen
 | .error er => e = thr (er : Int) ∧ er ≠ 0
theorem batD_none {xs : List UInt8} (h : xs.length < 4) : batD xs = .error 3 := by unfold batD; rw [if_pos h]
theorem batD_sum {xs : List UInt8} (h : ¬ xs.length < 4) (h2 : (sumB (crcS (xs.take (xs.length - 4))) == xs.drop (xs.length - 4)) = false) : batD xs = .error 170 := by
 unfold batD
 rw [if_neg h, if_neg (by simpa using h2)]
theorem batD_magic {xs : List UInt8} (h : ¬ xs.length < 4) (h2 : (sumB (crcS (xs.take (xs.length - 4))) == xs.drop (xs.length - 4)) = true) (h3 : ((xs.take (xs.length - 4)).take 3 == [77, 83, 1]) = false) : batD xs = .error 171 := by
 unfold batD
 rw [if_neg h, if_pos (by simpa using h2), if_neg (by simpa using h3)]
theorem batD_on {xs : List UInt8} (h : ¬ xs.length < 4) (h2 : (sumB (crcS (xs.take (xs.length - 4))) == xs.drop (xs.length - 4)) = true) (h3 : ((xs.take (xs.length - 4)).take 3 == [77, 83, 1]) = true) : batD xs = batR ((xs.take (xs.length - 4)).drop 3) := by
 unfold batD
 rw [if_neg h, if_pos (by simpa using h2), if_pos (by simpa using h3)]
theorem numD_le {most beyond : Nat} {xs : List UInt8} {p : Nat × List UInt8} (h : numD most beyond xs = .ok p) : p.1 ≤ most := (numD_only h).1
theorem wrap_i64 (n : Nat) (h : n ≤ 9223372036854775807) : IntKind.i64.wrap (n : Int) = (n : Int) := by
 simp [IntKind.wrap, IntKind.signed, IntKind.bits]
 omega
set_option maxRecDepth 100000 in
set_option maxHeartbeats 2000000 in
theorem head_any (base g : Nat) (B : Option Addr) (m c : Nat) (xs : List UInt8) (w : World) (hG : Blk w g 135 #[.slice B m c]) (hr : Reads w base 1 B m (u8s xs)) (hb : base ≤ g) (hm : m ≤ c) (hc : c ≤ maxLen) (hT : Tab2 base w) :
  Calls Tryz.prog 112 #[.pointer (some ⟨g, 0, none⟩)] w (HeadR (batD xs) base g w) := by
 have hgl := hG.lt
 have hbw : base ≤ w.heap.size := by omega
 have hxl := reads_len hr
 have Hxl := Lib.hid hxl
 have hc63 : c ≤ 9223372036854775807 := by simp only [maxLen] at hc; omega
 have Hr := Lib.hid hr
 have HT := Lib.hid hT
 have Hc := Lib.hid hc
 have HB := Lib.hid ((Below.refl _ w).alloc (Nat.le_refl _) (.cells #[.int .i64 0, .int .i64 0, .slice none 0 0] 30))
 have HG := Lib.hid (hG.alloc (.cells #[.int .i64 0, .int .i64 0, .slice none 0 0] 30))
 have HP := Lib.hid (Blk.new w 30 #[.int .i64 0, .int .i64 0, .slice none 0 0])
 have hcg := HG.out.cell 0
 clear hG hr hT hxl hc
 go_enter Tryz.func112, Tryz.ntmps112
 by_cases h4 : m < 4
 ·have d1 : decide ((4 : Int) ≤ (m : Int)) = false := by simp; omega
  have d2 : decide (4 ≤ m) = false := by simp; omega
  have HE := Lib.hid (batD_none (by rw [Hxl.out]; exact h4))
  go_wp2_with fail
  with_reducible refine (need_no 3 _).mono ?_
  rintro e w1 ⟨rfl, rfl⟩
  go_wp2
  refine ⟨rfl, But.of_below HB.out (Nat.le_refl _), ?_⟩
  rw [HE.out]
  exact ⟨rfl, by decide⟩
 ·have d1 : decide ((4 : Int) ≤ (m : Int)) = true := by simp; omega
  have d2 : decide (4 ≤ m) = true := by simp; omega
  have H4 := Lib.hid (show ¬ xs.length < 4 by rw [Hxl.out]; exact h4)
  obtain ⟨k, hk⟩ : ∃ k, k = m - 4 := ⟨_, rfl⟩
  have hsub : (m : Int) - 4 = (k : Int) := by omega
  have Hk := Lib.hid hk
  have hkm : k ≤ m := by omega
  have hki : (k : Int) ≤ (m : Int) := by omega
  have hki2 : (k : Int) ≤ (c : Int) := by omega
  have hkc : k ≤ c := by omega
  have htk := Hr.out.head hkm
  rw [Nat.mul_one, u8s_take] at htk
  have hdr := Hr.out.cut hkm hm
  rw [Nat.mul_one, u8s_drop] at hdr
  obtain ⟨A2, hA2⟩ : ∃ A2, (if c = k then B else Option.map (fun x => x.add k) B) = A2 := ⟨_, rfl⟩
  rw [hA2] at hdr
  have hmk : m - k = 4 := by omega
  rw [hmk] at hdr
  have Htk := Lib.hid htk
  have Hdr := Lib.hid hdr
  clear hk htk hdr
  go_wp2_with fail
  with_reducible refine (need_yes 3 _).mono ?_
  rintro e w1 ⟨rfl, rfl⟩
  go_wp2
  obtain ⟨W1, hW1⟩ : ∃ W1, w.alloc (.cells #[.int .i64 0, .int .i64 0, .slice none 0 0] 30) = W1 := ⟨_, rfl⟩
  rw [hW1] at HB HG HP hcg ⊢
  have hW1s : W1.heap.size = w.heap.size + 1 := by rw [← hW1]; simp
  clear hW1
  have HKg := Lib.hid (show ∀ w', Below W1.heap.size W1 w' → w'.cell? ⟨g, 0, none⟩ = some (.slice B m c) from fun w' h => (HG.out.on h).cell 0)
  have Htk := Lib.hid (Htk.out.below (HB.out.mono hbw))
  have Hdr := Lib.hid (Hdr.out.below (HB.out.mono hbw))
  have HT := Lib.hid (HT.out.keep (HB.out.mono hbw))
  have hbW : base ≤ W1.heap.size := by omega
  have Hwc := Lib.hid (show k ≤ maxLen from Nat.le_trans hkc Hc.out)
  clear hcg
  have hS : Below W1.heap.size W1 W1.drew := (Below.refl _ _).drew
  refine wp_region_keep (fun w' => Below W1.heap.size W1 w') [(0, false), (1, false), (2, false), (3, false), (4, false), (5, false), (7, false), (8, false), (9, false), (10, false), (11, false), (12, false), (6, true), (13, true), (14, true)] (by kernel_rfl) (by kernel_rfl) (by kernel_rfl) (fun d _ _ _ _ h => by cases d <;> exact h) ?_
  iterate 3
   refine held_pure (v := ?_) rfl rfl (by simp [Region.wanted, yielded]) hS ?_ ?_
   rotate_left
   ·intro w hw; go_simp; try with_reducible rfl
   try simp only [Act.put, zpA, zpB, zpC]
  refine held_pure (v := ?_) rfl rfl (by simp [Region.wanted, yielded]) hS ?_ ?_
  rotate_left
  ·intro w hw; have c0 := HKg.out w hw; clear hw; go_simp; try with_reducible rfl
  try simp only [Act.put, zpA, zpB, zpC]
  iterate 5
   refine held_pure (v := ?_) rfl rfl (by simp [Region.wanted, yielded]) hS ?_ ?_
   rotate_left
   ·intro w hw; go_simp; try with_reducible rfl
   try simp only [Act.put, zpA, zpB, zpC]
  refine held_pure (v := ?_) rfl rfl (by simp [Region.wanted, yielded]) hS ?_ ?_
  rotate_left
  ·intro w hw; have c0 := HKg.out w hw; clear hw; go_simp; try with_reducible rfl
  try simp only [Act.put, zpA, zpB, zpC]
  iterate 2
   refine held_pure (v := ?_) rfl rfl (by simp [Region.wanted, yielded]) hS ?_ ?_
   rotate_left
   ·intro w hw; go_simp; try with_reducible rfl
   try simp only [Act.put, zpA, zpB, zpC]
  refine held_eff1 rfl (by simp [Region.wanted, yielded]) fun K hK => ?_
  go_simp
  with_reducible refine (bsum_any B k c (xs.take k) _ ((Htk.out.more hbW).on hS) Hwc.out (HT.out.keep (hS.mono hbW)).ctab).mono ?_
  rintro e w2 ⟨gg, rfl, -, q3, q4⟩
  have HS2 := Lib.hid (own_reads q3)
  have HB2 := Lib.hid (bon hS q4)
  clear q3 q4
  refine held_go hK (by exact HB2.out) fun hS => ?_
  clear hK K
  try simp only [Act.put, zpA, zpB, zpC]
  refine held_eff1 rfl (by simp [Region.wanted, yielded]) fun K hK => ?_
  go_simp
  with_reducible refine (beq_any (some ⟨gg, 0, none⟩) A2 4 4 4 (c - k) (sumB (crcS (xs.take k))) (xs.drop k) _ HS2.out ((Hdr.out.more hbW).on HB2.out)).mono ?_
  rintro e w3 ⟨rfl, rfl⟩
  cases hsum : (sumB (crcS (xs.take k)) == xs.drop k) with
  | false =>
   have HE := Lib.hid (batD_sum H4.out (by rw [Hxl.out, ← Hk.out]; exact hsum))
   clear hsum
   refine held_go hK (by exact HB2.out) fun hS => ?_
   clear hK K
   try simp only [Act.put, zpA, zpB, zpC]
   refine held_eff1 rfl (by simp [Region.wanted, yielded]) fun K hK => ?_
   go_simp
   with_reducible refine (need_no 170 _).mono ?_
   rintro e w4 ⟨rfl, rfl⟩
   refine ⟨rfl, But.of_below (HB.out.trans (HB2.out.mono HB.out.size)) (Nat.le_refl _), ?_⟩
   rw [HE.out]
   exact ⟨rfl, by decide⟩
  | true =>
   have HE := Lib.hid (show (sumB (crcS (xs.take (xs.length - 4))) == xs.drop (xs.length - 4)) = true by rw [Hxl.out, ← Hk.out]; exact hsum)
   clear hsum
   refine held_go hK (by exact HB2.out) fun hS => ?_
   clear hK K
   try simp only [Act.put, zpA, zpB, zpC]
   refine held_eff1 rfl (by simp [Region.wanted, yielded]) fun K hK => ?_
   go_simp
   with_reducible refine (need_yes 170 _).mono ?_
   rintro e w4 ⟨rfl, rfl⟩
   refine held_go hK (by exact HB2.out) fun hS => ?_
   clear hK K
   try simp only [Act.put, zpA, zpB, zpC]
   refine held_end ?_
   have HG2 := Lib.hid (HG.out.on HB2.out)
   have HP2 := Lib.hid (HP.out.on HB2.out)
   have HB3 := Lib.hid (HB.out.trans (HB2.out.mono HB.out.size))
   have hz2 := HB2.out.size
   have Htk2 := Lib.hid (Htk.out.below (HB2.out.mono hbW))
   have HT2 := Lib.hid (HT.out.keep (HB2.out.mono hbW))
   clear hS HKg HB2 HS2 HG HP HB Htk HT Hdr
   have hcg := HG2.out.cell 0
   have hconv : (convert 35 35 (.slice (some ⟨w2.heap.size, 0, none⟩) 3 3)).run Tryz.prog (w2.alloc (.cells #[.int .u8 77, .int .u8 83, .int .u8 1] 5)) = .ok (.slice (some ⟨w2.heap.size, 0, none⟩) 3 3) (w2.alloc (.cells #[.int .u8 77, .int .u8 83, .int .u8 1] 5 (3, 4))) :=
    Lib.run_convert_bytes_const w2 _ _ _ 3 3 Tryz.underlying35 Tryz.underlying5
   have HL := Lib.hid (reads_marked w2 #[.int .u8 77, .int .u8 83, .int .u8 1] 5 3 4 3 (u8s [77, 83, 1]) rfl rfl)
   have HB4 := Lib.hid ((Below.refl _ w2).alloc (Nat.le_refl _) (.cells #[.int .u8 77, .int .u8 83, .int .u8 1] 5 (3, 4)))
   go_wp2_with fail
   with_reducible refine (bcut_any base B (some ⟨w2.heap.size, 0, none⟩) k c 3 3 (xs.take k) [77, 83, 1] _ (Htk2.out.below (HB4.out.mono (by omega))) (by simp; omega) HL.out hkc Hc.out).mono ?_
   rintro e w5 ⟨rfl, hm5⟩
   clear hconv hcg
   generalize hw5 : w2.alloc (.cells #[.int .u8 77, .int .u8 83, .int .u8 1] 5 (3, 4)) = w5 at *
   clear hw5
   have HG3 := Lib.hid (HG2.out.on HB4.out)
   have HP3 := Lib.hid (HP2.out.on HB4.out)
   have HB5 := Lib.hid (bon HB3.out HB4.out)
   have hz5 := HB5.out.size
   clear HG2 HP2 HB3 HB4 HL Htk2
   cases hmg : ((xs.take k).take 3 == [77, 83, 1]) with
   | false =>
    rw [hmg, if_neg (by simp)] at hm5
    have HE := Lib.hid (batD_magic H4.out HE.out (by rw [Hxl.out, ← Hk.out]; exact hmg))
    subst hm5
    clear hmg
    go_wp2_with fail
    with_reducible refine (need_no 171 _).mono ?_
    rintro e w4 ⟨rfl, rfl⟩
    go_wp2
    refine ⟨rfl, But.of_below HB5.out (Nat.le_refl _), ?_⟩
    rw [HE.out]
    exact ⟨rfl, by decide⟩
   | true =>
    rw [hmg, if_pos rfl] at hm5
    obtain ⟨B3, m3, c3, rfl, hr3, hm3, hc3⟩ := hm5
    have HE := Lib.hid (batD_on H4.out HE.out (by rw [Hxl.out, ← Hk.out]; exact hmg))
    rw [Hxl.out, ← Hk.out] at HE
    clear hmg
    have Hr3 := Lib.hid hr3
    have HC3 := Lib.hid (And.intro hm3 hc3)
    clear hr3 hm3 hc3
    have hfg := HG3.out.frozen 0
    have hcg := HG3.out.cell 0
    go_wp2_with fail
    with_reducible refine (need_yes 171 _).mono ?_
    rintro e w4 ⟨rfl, rfl⟩
    have HG6 := Lib.hid (HG3.out.set_ 0 (.slice B3 m3 c3))
    simp only [List.setIfInBounds_toArray, List.set_cons_zero] at HG6
    have HP6 := Lib.hid (HP3.out.far (p := ⟨g, 0, none⟩) (by show w.heap.size ≠ g; omega) (.slice B3 m3 c3))
    have HR6 := Lib.hid (Hr3.out.setCell (p := ⟨g, 0, none⟩) hb (.slice B3 m3 c3))
    have HB6 := Lib.hid ((But.of_below (g := g) HB5.out (Nat.le_refl _)).set 0 (.slice B3 m3 c3))
    obtain ⟨w6, hw6⟩ : ∃ w6, w5.setCell ⟨g, 0, none⟩ (.slice B3 m3 c3) = w6 := ⟨_, rfl⟩
    rw [hw6] at HG6 HP6 HR6 HB6
    have Hw6 := Lib.hid hw6
    clear hw6
    have hz6 := HB6.out.size
    go_wp2_with fail
    rw [Hw6.out]
    with_reducible refine (number_lit base g B3 m3 c3 _ 2147483647 6 2147483647 6 rfl rfl w6 HG6.out HR6.out (by omega) HC3.out.1 HC3.out.2 (by decide)).mono ?_
    rintro e w7 h7
    cases hn1 : numD 2147483647 6 ((xs.take k).drop 3) with
    | error er =>
     rw [hn1] at h7
     obtain ⟨rfl, he, rfl⟩ := h7
     have HE := Lib.hid (show batD xs = .error er by rw [HE.out]; unfold batR; rw [hn1]; rfl)
     clear hn1 hfg hcg
     go_wp2
     refine ⟨rfl, HB6.out, ?_⟩
     rw [HE.out]
     exact ⟨rfl, he⟩
    | ok p =>
     rw [hn1] at h7
     have HE := Lib.hid (show batD xs = thenG (numD 9223372036854775807 6 p.2) fun q => thenG (numD 1048576 5 q.2) fun r => .ok (p.1, q.1, r.1, r.2) by rw [HE.out]; unfold batR; rw [hn1]; rfl)
     have hp1 := numD_le hn1
     obtain ⟨N1, ys⟩ := p
     obtain ⟨rfl, B4, m4, c4, rfl, hr4, hm4, hc4⟩ := h7
     simp only at HE hp1 hr4
     have hwr := wrap_i64 N1 (by omega)
     have HG7 := Lib.hid (HG6.out.set_ 0 (.slice B4 m4 c4))
     simp only [List.setIfInBounds_toArray, List.set_cons_zero] at HG7
     have HP7 := Lib.hid (HP6.out.far (p := ⟨g, 0, none⟩) (by show w.heap.size ≠ g; omega) (.slice B4 m4 c4))
     have HR7 := Lib.hid (hr4.setCell (p := ⟨g, 0, none⟩) hb (.slice B4 m4 c4))
     have HB7 := Lib.hid (HB6.out.set 0 (.slice B4 m4 c4))
     have HC4 := Lib.hid (And.intro hm4 hc4)
     clear hn1 hfg hcg hr4 hm4 hc4 HG6 HP6 HR6 HB6 Hw6 HG3 HP3 HB5 hz5 Hr3
     generalize w6.setCell ⟨g, 0, none⟩ (.slice B4 m4 c4) = w7 at *
     have hc7 := HP7.out.cell 0
     have hf7 := HP7.out.frozen 0
     have HG8 := Lib.hid (HG7.out.far (p := ⟨w.heap.size, 0, none⟩) (by show g ≠ w.heap.size; omega) (.int .i64 (N1 : Int)))
     have HP8 := Lib.hid (HP7.out.set_ 0 (.int .i64 (N1 : Int)))
     simp only [List.setIfInBounds_toArray, List.set_cons_zero] at HP8
     have HR8 := Lib.hid (HR7.out.setCell (p := ⟨w.heap.size, 0, none⟩) hbw (.int .i64 (N1 : Int)))
     have HB8 := Lib.hid (HB7.out.far (p := ⟨w.heap.size, 0, none⟩) (Nat.le_refl _) (.int .i64 (N1 : Int)))
     have hz8 := HB8.out.size
     obtain ⟨w8, hw8⟩ : ∃ w8, w7.setCell ⟨w.heap.size, 0, none⟩ (.int .i64 (N1 : Int)) = w8 := ⟨_, rfl⟩
     rw [hw8] at HG8 HP8 HR8 HB8 hz8
     have Hw8 := Lib.hid hw8
     clear hw8
     go_wp2_with fail
     rw [Hw8.out]
     with_reducible refine (number_lit base g B4 m4 c4 ys 9223372036854775807 6 9223372036854775807 6 rfl rfl w8 HG8.out HR8.out (by omega) HC4.out.1 HC4.out.2 (by decide)).mono ?_
     rintro e w9 h9
     cases hn2 : numD 9223372036854775807 6 ys with
     | error er =>
      rw [hn2] at h9
      obtain ⟨rfl, he, rfl⟩ := h9
      have HE := Lib.hid (show batD xs = .error er by rw [HE.out, hn2]; rfl)
      clear hn2 hc7 hf7
      go_wp2
      refine ⟨rfl, HB8.out, ?_⟩
      rw [HE.out]
      exact ⟨rfl, he⟩
     | ok q =>
      rw [hn2] at h9
      have HE := Lib.hid (show batD xs = thenG (numD 1048576 5 q.2) fun r => .ok (N1, q.1, r.1, r.2) by rw [HE.out, hn2]; rfl)
      have hp2 := numD_le hn2
      obtain ⟨N2, zs⟩ := q
      obtain ⟨rfl, B5, m5, c5, rfl, hr5, hm5, hc5⟩ := h9
      simp only at HE hp2 hr5
      have hwr2 := wrap_i64 N2 (by omega)
      have HG9 := Lib.hid (HG8.out.set_ 0 (.slice B5 m5 c5))
      simp only [List.setIfInBounds_toArray, List.set_cons_zero] at HG9
      have HP9 := Lib.hid (HP8.out.far (p := ⟨g, 0, none⟩) (by show w.heap.size ≠ g; omega) (.slice B5 m5 c5))
      have HR9 := Lib.hid (hr5.setCell (p := ⟨g, 0, none⟩) hb (.slice B5 m5 c5))
      have HB9 := Lib.hid (HB8.out.set 0 (.slice B5 m5 c5))
      have HC5 := Lib.hid (And.intro hm5 hc5)
      clear hn2 hc7 hf7 hr5 hm5 hc5 HG8 HP8 HR8 HB8 Hw8 HG7 HP7 HR7 HB7 hz8 hwr
      generalize w8.setCell ⟨g, 0, none⟩ (.slice B5 m5 c5) = w9 at *
      have hc9 := HP9.out.cell 1
      have hf9 := HP9.out.frozen 1
      have HGa := Lib.hid (HG9.out.far (p := ⟨w.heap.size, 1, none⟩) (by show g ≠ w.heap.size; omega) (.int .i64 (N2 : Int)))
      have HPa := Lib.hid (HP9.out.set_ 1 (.int .i64 (N2 : Int)))
      simp only [List.setIfInBounds_toArray, List.set_cons_zero, List.set_cons_succ] at HPa
      have HRa := Lib.hid (HR9.out.setCell (p := ⟨w.heap.size, 1, none⟩) hbw (.int .i64 (N2 : Int)))
      have HBa := Lib.hid (HB9.out.far (p := ⟨w.heap.size, 1, none⟩) (Nat.le_refl _) (.int .i64 (N2 : Int)))
      go_wp2
      clear hc9 hf9 HG9 HP9 HR9 HB9
      generalize w9.setCell ⟨w.heap.size, 1, none⟩ (.int .i64 (N2 : Int)) = wa at *
      have hza := HBa.out.size
      have hS : Blk wa.drew w.heap.size 30 #[.int .i64 (N1 : Int), .int .i64 (N2 : Int), .slice none 0 0] := HPa.out.drew
      have HL0 := Lib.hid (show ∀ w', Blk w' w.heap.size 30 #[.int .i64 (N1 : Int), .int .i64 (N2 : Int), .slice none 0 0] → w'.cell? ⟨w.heap.size, 0, none⟩ = some (.int .i64 (N1 : Int)) from fun w' h => h.cell 0)
      have HL1 := Lib.hid (show ∀ w', Blk w' w.heap.size 30 #[.int .i64 (N1 : Int), .int .i64 (N2 : Int), .slice none 0 0] → w'.cell? ⟨w.heap.size, 1, none⟩ = some (.int .i64 (N2 : Int)) from fun w' h => h.cell 1)
      have HL2 := Lib.hid (show ∀ w', Blk w' w.heap.size 30 #[.int .i64 (N1 : Int), .int .i64 (N2 : Int), .slice none 0 0] → w'.cell? ⟨w.heap.size, 2, none⟩ = some (.slice none 0 0) from fun w' h => h.cell 2)
      refine wp_region_keep (fun w' => Blk w' w.heap.size 30 #[.int .i64 (N1 : Int), .int .i64 (N2 : Int), .slice none 0 0]) [(0, false), (1, false), (2, true), (3, false), (4, true), (5, false)] (by kernel_rfl) (by kernel_rfl) (by kernel_rfl) (fun d _ _ _ _ h => by cases d <;> exact h) ?_
      refine held_pure (v := ?_) rfl rfl (by simp [Region.wanted, yielded]) hS ?_ ?_
      rotate_left
      ·intro w hw; have c0 := HL0.out w hw; have c1 := HL1.out w hw; have c2 := HL2.out w hw; clear hw; go_simp; try with_reducible rfl
      try simp only [Act.put, zpA, zpB, zpC]
      refine held_pure (v := ?_) rfl rfl (by simp [Region.wanted, yielded]) hS ?_ ?_
      rotate_left
      ·intro w hw; go_simp; try with_reducible rfl
      try simp only [Act.put, zpA, zpB, zpC]
      refine held_eff1 rfl (by simp [Region.wanted, yielded]) fun K hK => ?_
      go_simp
      with_reducible refine (number_lit base g B5 m5 c5 zs 1048576 5 1048576 5 rfl rfl wa.drew HGa.out.drew HRa.out.drew (by have h : wa.drew.heap.size = wa.heap.size := rfl; omega) HC5.out.1 HC5.out.2 (by decide)).mono ?_
      rintro e wb hb'
      cases hn3 : numD 1048576 5 zs with
      | error er =>
       rw [hn3] at hb'
       obtain ⟨rfl, he, rfl⟩ := hb'
       have HE := Lib.hid (show batD xs = .error er by rw [HE.out, hn3]; rfl)
       refine ⟨rfl, HBa.out.drew, ?_⟩
       rw [HE.out]
       exact ⟨rfl, he⟩
      | ok r =>
       rw [hn3] at hb'
       have HE := Lib.hid (show batD xs = .ok (N1, N2, r.1, r.2) by rw [HE.out, hn3]; rfl)
       have hp3 := numD_le hn3
       obtain ⟨N3, us⟩ := r
       obtain ⟨rfl, B6, m6, c6, rfl, hr6, hm6, hc6⟩ := hb'
       simp only at HE hp3 hr6
       have hwr3 := wrap_i64 N3 (by omega)
       have HGb := Lib.hid (HGa.out.drew.set_ 0 (.slice B6 m6 c6))
       simp only [List.setIfInBounds_toArray, List.set_cons_zero] at HGb
       have HPb := Lib.hid (HPa.out.drew.far (p := ⟨g, 0, none⟩) (by show w.heap.size ≠ g; omega) (.slice B6 m6 c6))
       have HRb := Lib.hid (hr6.setCell (p := ⟨g, 0, none⟩) hb (.slice B6 m6 c6))
       have HBb := Lib.hid (HBa.out.drew.set 0 (.slice B6 m6 c6))
       have HC6 := Lib.hid (And.intro hm6 hc6)
       clear hn3 hr6 hm6 hc6
       generalize wa.drew.setCell ⟨g, 0, none⟩ (.slice B6 m6 c6) = wb at *
       refine held_go hK (by exact HPb.out) fun hS => ?_
       clear hK K
       try simp only [Act.put, zpA, zpB, zpC]
       refine held_pure (v := ?_) rfl rfl (by simp [Region.wanted, yielded]) hS ?_ ?_
       rotate_left
       ·intro w hw; go_simp; try with_reducible rfl
       try simp only [Act.put, zpA, zpB, zpC]
       refine held_eff1 rfl (by simp [Region.wanted, yielded]) fun K hK => ?_
       have hc0 := HPb.out.cell 0
       have hc1 := HPb.out.cell 1
       have hc2 := HPb.out.cell 2
       have hf0 := HPb.out.frozen 0
       have hf1 := HPb.out.frozen 1
       have hf2 := HPb.out.frozen 2
       go_simp
       have HGc := Lib.hid (((HGb.out.far (p := ⟨w.heap.size, 0, none⟩) (by show g ≠ w.heap.size; omega) (.int .i64 (N1 : Int))).far (p := ⟨w.heap.size, 1, none⟩) (by show g ≠ w.heap.size; omega) (.int .i64 (N2 : Int))).far (p := ⟨w.heap.size, 2, none⟩) (by show g ≠ w.heap.size; omega) (.slice none 0 0))
       have HPc := Lib.hid (((HPb.out.set_ 0 (.int .i64 (N1 : Int))).set_ 1 (.int .i64 (N2 : Int))).set_ 2 (.slice none 0 0))
       simp only [List.setIfInBounds_toArray, List.set_cons_zero, List.set_cons_succ] at HPc
       have HRc := Lib.hid (((HRb.out.setCell (p := ⟨w.heap.size, 0, none⟩) hbw (.int .i64 (N1 : Int))).setCell (p := ⟨w.heap.size, 1, none⟩) hbw (.int .i64 (N2 : Int))).setCell (p := ⟨w.heap.size, 2, none⟩) hbw (.slice none 0 0))
       have HBc := Lib.hid (((HBb.out.far (p := ⟨w.heap.size, 0, none⟩) (Nat.le_refl _) (.int .i64 (N1 : Int))).far (p := ⟨w.heap.size, 1, none⟩) (Nat.le_refl _) (.int .i64 (N2 : Int))).far (p := ⟨w.heap.size, 2, none⟩) (Nat.le_refl _) (.slice none 0 0))
       clear hc0 hc1 hc2 hf0 hf1 hf2 HGb HPb HRb HBb
       generalize ((wb.setCell ⟨w.heap.size, 0, none⟩ (.int .i64 (N1 : Int))).setCell ⟨w.heap.size, 1, none⟩ (.int .i64 (N2 : Int))).setCell ⟨w.heap.size, 2, none⟩ (.slice none 0 0) = wc at *
       refine held_go hK (by exact HPc.out) fun hS => ?_
       clear hK K
       try simp only [Act.put, zpA, zpB, zpC]
       refine held_pure (v := ?_) rfl rfl (by simp [Region.wanted, yielded]) hS ?_ ?_
       rotate_left
       ·intro w hw; go_simp; try with_reducible rfl
       try simp only [Act.put, zpA, zpB, zpC]
       refine held_end ?_
       have hc0 := HPc.out.cell 0
       have hc1 := HPc.out.cell 1
       have hc2 := HPc.out.cell 2
       go_wp2
       refine bodyPost_ret (v := .tuple #[.agg #[.int .i64 (N1 : Int), .int .i64 (N2 : Int), .slice none 0 0], .int .i64 (N3 : Int)]) (by rw [results_cell_tmp rfl]; simp [go_sem, hc0, hc1, hc2]) rfl ?_
       refine ⟨HBc.out, ?_⟩
       rw [HE.out]
       exact ⟨rfl, B6, m6, c6, HGc.out, HRc.out, HC6.out.1, HC6.out.2⟩
end Go.Proofs.YtnkgchmkmhdcaaaGreatDoor
namespace Go.Proofs.YtnkgchmkmhdcaaaGreatDoor
open Go.RowKit
theorem iterI_err {σ : Type} {f : Nat → σ → Got σ} {k n : Nat} {s t : σ} {e : Nat} (h : iterI f k s = .ok t) (he : f k t = .error e) (hk : k < n) : iterI f n s = .error e := by
 induction n with
 | zero => omega
 | succ n ih =>
  rw [iterI]
  rcases Nat.lt_or_ge k n with h1 | h1
  ·rw [ih h1]
   rfl
  ·obtain rfl : k = n := by omega
   rw [h, thenG_ok, he]
theorem iterI_ok {σ : Type} {f : Nat → σ → Got σ} {k : Nat} {s t u : σ} (h : iterI f k s = .ok t) (he : f k t = .ok u) : iterI f (k + 1) s = .ok u := by
 rw [iterI, h, thenG_ok, he]
theorem colD_at {cs : List Co} {k : Nat} {c : Co} (h : cs[k]? = some c) (n : Int) (s : TabS) : colD cs n k s = thenG (getC c.2.2.1 c.2.2.2.1 s.2 n) fun p => .ok (s.1 ++ [p.1], s.2.drop p.2) := by
 unfold colD
 rw [h]
theorem itemsT_snoc (t : List (List Cl)) (ws : List Int) (w : Int) : itemsT t (ws ++ [w]) = itemsT t ws ++ [(t.map fun l => (l[ws.length]?).getD nullC, w)] := by
 unfold itemsT
 rw [List.length_append, List.length_singleton, List.range_succ, List.map_append]
 congr 1
 ·refine List.map_congr_left fun i hi => ?_
  have := List.mem_range.1 hi
  rw [List.getElem?_append_left this]
 ·simp
def rowTo (t : List (List Cl)) (i j : Nat) : List Cl := (t.take j).map fun l => (l[i]?).getD nullC
theorem rowTo_zero (t : List (List Cl)) (i : Nat) : rowTo t i 0 = [] := rfl
theorem rowTo_succ (t : List (List Cl)) (i j : Nat) (l : List Cl) (h : t[j]? = some l) : rowTo t i (j + 1) = rowTo t i j ++ [(l[i]?).getD nullC] := by
 unfold rowTo
 rw [List.take_add_one, h]
 simp
theorem rowTo_all (t : List (List Cl)) (i : Nat) : rowTo t i t.length = t.map fun l => (l[i]?).getD nullC := by
 unfold rowTo
 rw [List.take_length]
def hdV (h : Hd) : Value := .slice h.1 h.2.1 h.2.2
def tabV (hs : List Hd) (n : Nat) : List Value := hs.map hdV ++ List.replicate (n - hs.length) (.slice none 0 0)
theorem tabV_zero (n : Nat) : tabV [] n = List.replicate n (.slice none 0 0) := by simp [tabV]
theorem tabV_set (hs : List Hd) (n : Nat) (h : Hd) (hn : hs.length < n) : (tabV hs n).set hs.length (hdV h) = tabV (hs ++ [h]) n := by
 unfold tabV
 rw [List.set_append_right _ _ (by simp), List.length_map, Nat.sub_self, List.length_append, List.length_singleton, List.map_append, List.append_assoc]
 congr 1
 obtain ⟨k, hk⟩ : ∃ k, n - hs.length = k + 1 := ⟨n - hs.length - 1, by omega⟩
 rw [hk, show n - (hs.length + 1) = k by omega, List.replicate_succ]
 rfl
theorem tabV_at {hs : List Hd} {n k : Nat} (hn : hs.length = n) {h : Hd} (hk : hs[k]? = some h) : (tabV hs n)[k]? = some (hdV h) := by
 unfold tabV
 have := (List.getElem?_eq_some_iff.1 hk).1
 rw [List.getElem?_append_left (by simpa using this), List.getElem?_map, hk]
 rfl
def asIt (t : List (List Cl)) : List It := t.map fun l => (l, 0)
def ListsOwn (w : World) (base : Nat) (hs : List Hd) (t : List (List Cl)) : Prop := RowsOwn w base hs (asIt t)
section
variable {w w' : World} {base : Nat} {hs : List Hd} {t : List (List Cl)}
theorem ListsOwn.nil : ListsOwn w base [] [] := RowsOwn.nil
theorem ListsOwn.len (h : ListsOwn w base hs t) : hs.length = t.length := by have := h.1; simpa [asIt] using this
theorem ListsOwn.below (h : ListsOwn w base hs t) (hb : Below w.heap.size w w') : ListsOwn w' base hs t := RowsOwn.below h hb
theorem ListsOwn.far (h : ListsOwn w base hs t) {g : Nat} {ty : TypeId} {cs : Array Value} (hb : Blk w g ty cs) (hne : 23 ≠ ty) (i : Nat) (u : Value) : ListsOwn (w.setCell ⟨g, i, none⟩ u) base hs t := RowsOwn.far h hb hne i u
theorem ListsOwn.snoc {hd : Hd} {l : List Cl} (h : ListsOwn w base hs t) (h1 : w.ownsRow base 23 3 (.slice hd.1 hd.2.1 hd.2.2) hd.2.1 (cls l)) : ListsOwn w base (hs ++ [hd]) (t ++ [l]) := by
 have := RowsOwn.snoc (it := (l, 0)) h h1
 unfold ListsOwn asIt
 rw [List.map_append]
 exact this
theorem ListsOwn.at_ (h : ListsOwn w base hs t) {k : Nat} {hd : Hd} {l : List Cl} (h1 : hs[k]? = some hd) (h2 : t[k]? = some l) : Reads w w.heap.size 3 hd.1 hd.2.1 (cls l) ∧ hd.2.1 ≤ hd.2.2 ∧ hd.2.2 ≤ maxLen := by
 have := (RowsOwn.at_ h).2 k hd (l, 0) h1 (by simp [asIt, h2])
 exact this
end
end Go.Proofs.YtnkgchmkmhdcaaaGreatDoor
