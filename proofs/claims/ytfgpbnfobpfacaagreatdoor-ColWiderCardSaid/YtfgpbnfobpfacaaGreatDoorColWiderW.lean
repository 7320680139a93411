/- The law ColWider, walked. -/
import Derived.Test.YtfgpbnfobpfacaaGreatDoorPart21
set_option linter.unusedVariables false
set_option linter.unusedSimpArgs false
namespace Go.Proofs.YtfgpbnfobpfacaaGreatDoor
open Go.RowKit
def widerAt (l : List Int) (no : List Bool) (i : Nat) : Cl := if (no[i]?).getD false = true then nullC else intC (wrap64 (wrap32 ((l[i]?).getD 0)))
def widerC (l : List Int) (no : List Bool) (j : Nat) : List Cl := (List.range j).map (widerAt l no)
theorem wide_le (n : Int) : -2147483648 ≤ wrap64 (wrap32 n) ∧ wrap64 (wrap32 n) ≤ 2147483647 := by
  unfold wrap64 wrap32
  omega
theorem widerC_len (l : List Int) (no : List Bool) (j : Nat) : (widerC l no j).length = j := by simp [widerC]
theorem widerC_succ (l : List Int) (no : List Bool) (j : Nat) : widerC l no (j + 1) = widerC l no j ++ [widerAt l no j] := by simp [widerC, List.range_succ]
theorem wider_all (k : Int) (hk : k = 2 ∨ k = 3) (l : List Int) (no : List Bool) (j : Nat) : allC k true (widerC l no j) = true := by
  unfold allC
  rw [List.all_eq_true]
  intro c hc
  obtain ⟨i, -, rfl⟩ := List.mem_map.1 hc
  unfold widerAt
  split
  · rcases hk with rfl | rfl <;> simp [checkE, mayK, nullC]
  · have := wide_le ((l[i]?).getD 0)
    rcases hk with rfl | rfl <;> simp [checkE, mayK, intC, isC] <;> omega
theorem wider_same (l : List Int) (no : List Bool) (j : Nat) : putB 2 true (widerC l no j) [] = putB 3 true (widerC l no j) [] := by
  simp [putB, bareB]
theorem wider_ok (l : List Int) (no : List Bool) (j : Nat) : ClOk (widerC l no j) := by
  intro c hc
  obtain ⟨i, -, rfl⟩ := List.mem_map.1 hc
  unfold widerAt
  split
  · exact ⟨by decide, by decide, by decide⟩
  · have := wide_le ((l[i]?).getD 0)
    exact ⟨by simp only [intC]; omega, by simp only [intC]; omega, by simp only [intC]; exact (by decide : (⟨#[]⟩ : ByteArray).size ≤ maxLen)⟩
set_option maxRecDepth 100000 in
set_option maxHeartbeats 2000000 in
theorem colWider_walk (A : Option Addr) (n c : Nat) (l : List Int) (B : Option Addr) (m cb : Nat) (no : List Bool) (w : World) (hr : Reads w w.heap.size 1 A n (ins l)) (hn : n ≤ c) (hc : c ≤ maxLen) (hr2 : Reads w w.heap.size 1 B m (bls no)) (hm : m ≤ cb) (hcb : cb ≤ maxLen) (hT : Tabs w) :
    Calls Tryz.prog 8 #[.slice A n c, .slice B m cb] w fun e w' => e = .returned (.bool true) ∧ Below w.heap.size w w' := by
  obtain ⟨j0, hj0, hk0, hj1, hk2⟩ := info_parts cell_info
  have HT := Lib.hid hT
  have Hr := Lib.hid hr
  have Hr2 := Lib.hid hr2
  have Hnl := Lib.hid (blen hr2 : no.length = m)
  have hn63 : n ≤ 9223372036854775807 := by simp only [maxLen] at hc; omega
  have hm63 : m ≤ 9223372036854775807 := by simp only [maxLen] at hcb; omega
  clear hT hr hr2 hc hcb
  go_enter Tryz.func8, Tryz.ntmps8
  go_wp2
  go_loopw [5, 6] (fun v i wr => ∃ (j : Nat) (A1 : Option Addr) (c1 : Nat), j ≤ n ∧ j ≤ 60 ∧ v = .slice A1 j c1 ∧ i = .int .i64 (j : Int) ∧ Hid (wr.ownsRow w.heap.size 41 3 (.slice A1 j c1) j (cls (widerC l no j))) ∧ Hid (Below w.heap.size w wr)) (fun _ i _ => n - (intOf i).toNat)
  case atStart => exact ⟨0, none, 0, Nat.zero_le _, by omega, rfl, rfl, Lib.hid (World.ownsRow_nil _ _ _ _), Lib.hid (Below.refl _ _)⟩
  case round =>
    obtain ⟨j, A1, c1, hj, hj60, rfl, rfl, HO, HB⟩ := hrel
    by_cases hlt : j < n ∧ j < 60
    · obtain ⟨hlt1, hlt2⟩ := hlt
      have d1 : decide ((j : Int) < (n : Int)) = true := by simp; omega
      have d2 : decide ((j : Int) < 60) = true := by simp; omega
      obtain ⟨ad, v, rfl, hbk, hu, hcell⟩ := (Hr.out.below HB.out).at_ hlt1
      obtain ⟨x, hx, rfl⟩ := ins_get _ _ _ hu
      have hs1 : j + 1 ≤ maxLen := by simp only [maxLen]; omega
      have hs2 : (j + 1) * 32 ≤ 70368744177664 := by omega
      clear hu hbk
      by_cases hjm : j < m
      · have d3 : decide ((j : Int) < (m : Int)) = true := by simp; omega
        obtain ⟨ad2, v2, rfl, hbk2, hu2, hcell2⟩ := (Hr2.out.below HB.out).at_ hjm
        obtain ⟨y, hy, rfl⟩ := bls_get _ _ _ hu2
        have hc2 : (wr.alloc (.cells #[.bool false, .int .i64 (wrap64 (wrap32 x)), .string ⟨#[]⟩] 41)).cell? (ad2.add j) = some (.bool y) := (World.cell?_alloc_lt wr _ _ (by rw [block_of_add]; exact Nat.lt_of_lt_of_le hbk2 HB.out.size)).trans hcell2
        cases y with
        | false =>
          have Hat := Lib.hid (show widerAt l no j = (false, wrap64 (wrap32 x), ⟨#[]⟩) by unfold widerAt; rw [hy, hx]; rfl)
          clear hx hy hu2 hbk2
          go_wp2_with (at_builtin
                       refine wpList_append_any _ rfl (.tmp 43) (.tmp 45) 25 rfl w.heap.size 41 j0 (.agg #[.bool false, .int .i64 0, .string ⟨#[]⟩]) 3 32 Tryz.underlying25 hj0 hk0 hj1 hk2 rfl (by decide) A1 j c1 _ rfl (own_below HO.out (((Below.refl _ wr).alloc (Nat.le_refl _) (.cells #[.bool false, .int .i64 (wrap64 (wrap32 x)), .string ⟨#[]⟩] 41)).alloc (by simp) (.cells #[.bool false, .int .i64 (wrap64 (wrap32 x)), .string ⟨#[]⟩] 41))) (some ⟨_, 0, none⟩) 1 1 (cls [(false, (wrap64 (wrap32 x)), ⟨#[]⟩)]) rfl (by exact reads_cellb _ _ (by simp) _ _ _) (cls_one _) hs1 hs2 (Nat.le_trans HB.out.size (by simp; omega)) ?_
                       intro A8 c8 w8 r1 r2 r3 r4 r5
                       rw [← cls_append] at r1
                       have R1 := Lib.hid r1
                       have R2 := Lib.hid r2
                       clear r1 r2 r3 r4 r5)
          have R1 := Lib.hid (show w8.ownsRow w.heap.size 41 3 (.slice A8 (j + 1) c8) (j + 1) (cls (widerC l no (j + 1))) by rw [widerC_succ, Hat.out]; exact R1.out)
          have HB := Lib.hid (((HB.out.alloc HB.out.size (.cells #[.bool false, .int .i64 (wrap64 (wrap32 x)), .string ⟨#[]⟩] 41)).alloc (Nat.le_trans HB.out.size (by simp)) (.cells #[.bool false, .int .i64 (wrap64 (wrap32 x)), .string ⟨#[]⟩] 41)).trans R2.out)
          go_roundw
          case rel => exact ⟨j + 1, A8, c8, by omega, by omega, rfl, by go_num, R1, HB⟩
          case measure => simp [intOf]; omega
        | true =>
          have Hat := Lib.hid (show widerAt l no j = (true, 0, ⟨#[]⟩) by unfold widerAt; rw [hy]; rfl)
          clear hx hy hu2 hbk2
          go_wp2_with (at_builtin
                       refine wpList_append_any _ rfl (.tmp 43) (.tmp 45) 25 rfl w.heap.size 41 j0 (.agg #[.bool false, .int .i64 0, .string ⟨#[]⟩]) 3 32 Tryz.underlying25 hj0 hk0 hj1 hk2 rfl (by decide) A1 j c1 _ rfl (own_below HO.out (((Below.refl _ wr).alloc (Nat.le_refl _) (.cells #[.bool true, .int .i64 0, .string ⟨#[]⟩] 41)).alloc (by simp) (.cells #[.bool true, .int .i64 0, .string ⟨#[]⟩] 41))) (some ⟨_, 0, none⟩) 1 1 (cls [(true, 0, ⟨#[]⟩)]) rfl (by exact reads_cellb _ _ (by simp) _ _ _) (cls_one _) hs1 hs2 (Nat.le_trans HB.out.size (by simp; omega)) ?_
                       intro A8 c8 w8 r1 r2 r3 r4 r5
                       rw [← cls_append] at r1
                       have R1 := Lib.hid r1
                       have R2 := Lib.hid r2
                       clear r1 r2 r3 r4 r5)
          have R1 := Lib.hid (show w8.ownsRow w.heap.size 41 3 (.slice A8 (j + 1) c8) (j + 1) (cls (widerC l no (j + 1))) by rw [widerC_succ, Hat.out]; exact R1.out)
          have HB := Lib.hid (((HB.out.alloc HB.out.size (.cells #[.bool true, .int .i64 0, .string ⟨#[]⟩] 41)).alloc (Nat.le_trans HB.out.size (by simp)) (.cells #[.bool true, .int .i64 0, .string ⟨#[]⟩] 41)).trans R2.out)
          go_roundw
          case rel => exact ⟨j + 1, A8, c8, by omega, by omega, rfl, by go_num, R1, HB⟩
          case measure => simp [intOf]; omega
      · have d3 : decide ((j : Int) < (m : Int)) = false := by simp; omega
        have Hat := Lib.hid (show widerAt l no j = (false, wrap64 (wrap32 x), ⟨#[]⟩) by unfold widerAt; rw [hx, List.getElem?_eq_none (by rw [Hnl.out]; omega)]; rfl)
        clear hx
        go_wp2_with (at_builtin
                     refine wpList_append_any _ rfl (.tmp 43) (.tmp 45) 25 rfl w.heap.size 41 j0 (.agg #[.bool false, .int .i64 0, .string ⟨#[]⟩]) 3 32 Tryz.underlying25 hj0 hk0 hj1 hk2 rfl (by decide) A1 j c1 _ rfl (own_below HO.out (((Below.refl _ wr).alloc (Nat.le_refl _) (.cells #[.bool false, .int .i64 (wrap64 (wrap32 x)), .string ⟨#[]⟩] 41)).alloc (by simp) (.cells #[.bool false, .int .i64 (wrap64 (wrap32 x)), .string ⟨#[]⟩] 41))) (some ⟨_, 0, none⟩) 1 1 (cls [(false, (wrap64 (wrap32 x)), ⟨#[]⟩)]) rfl (by exact reads_cellb _ _ (by simp) _ _ _) (cls_one _) hs1 hs2 (Nat.le_trans HB.out.size (by simp; omega)) ?_
                     intro A8 c8 w8 r1 r2 r3 r4 r5
                     rw [← cls_append] at r1
                     have R1 := Lib.hid r1
                     have R2 := Lib.hid r2
                     clear r1 r2 r3 r4 r5)
        have R1 := Lib.hid (show w8.ownsRow w.heap.size 41 3 (.slice A8 (j + 1) c8) (j + 1) (cls (widerC l no (j + 1))) by rw [widerC_succ, Hat.out]; exact R1.out)
        have HB := Lib.hid (((HB.out.alloc HB.out.size (.cells #[.bool false, .int .i64 (wrap64 (wrap32 x)), .string ⟨#[]⟩] 41)).alloc (Nat.le_trans HB.out.size (by simp)) (.cells #[.bool false, .int .i64 (wrap64 (wrap32 x)), .string ⟨#[]⟩] 41)).trans R2.out)
        go_roundw
        case rel => exact ⟨j + 1, A8, c8, by omega, by omega, rfl, by go_num, R1, HB⟩
        case measure => simp [intOf]; omega
    · by_cases hlt1 : j < n
      · have d1 : decide ((j : Int) < (n : Int)) = true := by simp; omega
        have d2 : decide ((j : Int) < 60) = false := by simp; omega
        go_wp2_with fail
        with_reducible refine (cput_any none 0 0 [] 2 true A1 j c1 (widerC l no j) _ Reads.none_ (by omega) (Reads.of_own HO.out) (by omega) (wider_ok l no j) (HT.out.on HB.out)).mono ?_
        rw [putE_ok (by rfl) (wider_all 2 (.inl rfl) l no j), putO_ok [] (putE_ok (by rfl) (wider_all 2 (.inl rfl) l no j))]
        rintro e w3 ⟨A3, n3, c3, rfl, g3, g4, o3, hb3⟩
        have HB3 := Lib.hid (bon HB.out hb3)
        have HI3 := Lib.hid ((Reads.of_own HO.out).on hb3)
        have HO3 := Lib.hid (own_reads o3)
        have Hlen := Lib.hid (show (putB 2 true (widerC l no j) []).length = n3 from reads_len (own_reads o3))
        have G3 := Lib.hid (And.intro g3 g4)
        clear o3 hb3 g3 g4
        go_wp2_with fail
        with_reducible refine (cput_any none 0 0 [] 3 true A1 j c1 (widerC l no j) _ Reads.none_ (by omega) HI3.out (by omega) (wider_ok l no j) (HT.out.on HB3.out)).mono ?_
        rw [putE_ok (by rfl) (wider_all 3 (.inr rfl) l no j), putO_ok [] (putE_ok (by rfl) (wider_all 3 (.inr rfl) l no j)), ← wider_same]
        rintro e w4 ⟨A4, n4, c4, rfl, -, -, o4, hb4⟩
        have HB4 := Lib.hid (bon HB3.out hb4)
        have HI4 := Lib.hid (HI3.out.on hb4)
        have HX4 := Lib.hid (HO3.out.on hb4)
        have HO4 := Lib.hid (own_reads o4)
        have Hget := Lib.hid (show getC 3 true (putB 2 true (widerC l no j) []) (j : Int) = .ok (widerC l no j, n3) by
          have := getC_put 3 true (widerC l no j) (by rfl) (wider_all 3 (.inr rfl) l no j) (by rw [widerC_len]; omega) []
          rw [List.append_nil, ← wider_same, widerC_len, Hlen.out] at this
          exact this)
        clear o4 hb4
        go_wp2_with fail
        with_reducible refine (cget_any A3 n3 c3 (putB 2 true (widerC l no j) []) 3 true j _ HX4.out G3.out.1 G3.out.2 (HT.out.on HB4.out)).mono ?_
        rintro e w5 ⟨hb5, hm5⟩
        rw [Hget.out] at hm5
        obtain ⟨-, A5, c5, rfl, -, -, q3⟩ := hm5
        have HB5 := Lib.hid (bon HB4.out hb5)
        have HR5 := Lib.hid (own_reads q3)
        have HX5 := Lib.hid (HX4.out.on hb5)
        have HY5 := Lib.hid (HO4.out.on hb5)
        have HI5 := Lib.hid (HI4.out.on hb5)
        have Hwl := Lib.hid (widerC_len l no j)
        clear hb5 q3
        go_wp2_with fail
        with_reducible refine (eq_yes A3 A4 n3 c3 n4 c4 _ _ _ HX5.out HY5.out rfl).mono ?_
        rintro e w6 ⟨rfl, rfl⟩
        go_wp2_with fail
        with_reducible refine (eqRow_yes A5 A1 _ c5 j c1 (widerC l no j) (widerC l no j) _ HR5.out HI5.out (by rw [Hwl.out]; simp only [maxLen]; omega) rfl).mono ?_
        rintro e w7 ⟨rfl, hb7⟩
        have HB7 := Lib.hid (bon HB5.out hb7)
        clear hb7
        go_wp2_with fail
        with_reducible refine (works_yes _ (HT.out.on HB7.out)).mono ?_
        rintro e w8 ⟨rfl, hb8⟩
        have HB8 := Lib.hid (bon HB7.out hb8)
        clear hb8
        go_wp2
        go_ret
        exact ⟨rfl, HB8.out⟩
      · have d1 : decide ((j : Int) < (n : Int)) = false := by simp; omega
        go_wp2_with fail
        with_reducible refine (cput_any none 0 0 [] 2 true A1 j c1 (widerC l no j) _ Reads.none_ (by omega) (Reads.of_own HO.out) (by omega) (wider_ok l no j) (HT.out.on HB.out)).mono ?_
        rw [putE_ok (by rfl) (wider_all 2 (.inl rfl) l no j), putO_ok [] (putE_ok (by rfl) (wider_all 2 (.inl rfl) l no j))]
        rintro e w3 ⟨A3, n3, c3, rfl, g3, g4, o3, hb3⟩
        have HB3 := Lib.hid (bon HB.out hb3)
        have HI3 := Lib.hid ((Reads.of_own HO.out).on hb3)
        have HO3 := Lib.hid (own_reads o3)
        have Hlen := Lib.hid (show (putB 2 true (widerC l no j) []).length = n3 from reads_len (own_reads o3))
        have G3 := Lib.hid (And.intro g3 g4)
        clear o3 hb3 g3 g4
        go_wp2_with fail
        with_reducible refine (cput_any none 0 0 [] 3 true A1 j c1 (widerC l no j) _ Reads.none_ (by omega) HI3.out (by omega) (wider_ok l no j) (HT.out.on HB3.out)).mono ?_
        rw [putE_ok (by rfl) (wider_all 3 (.inr rfl) l no j), putO_ok [] (putE_ok (by rfl) (wider_all 3 (.inr rfl) l no j)), ← wider_same]
        rintro e w4 ⟨A4, n4, c4, rfl, -, -, o4, hb4⟩
        have HB4 := Lib.hid (bon HB3.out hb4)
        have HI4 := Lib.hid (HI3.out.on hb4)
        have HX4 := Lib.hid (HO3.out.on hb4)
        have HO4 := Lib.hid (own_reads o4)
        have Hget := Lib.hid (show getC 3 true (putB 2 true (widerC l no j) []) (j : Int) = .ok (widerC l no j, n3) by
          have := getC_put 3 true (widerC l no j) (by rfl) (wider_all 3 (.inr rfl) l no j) (by rw [widerC_len]; omega) []
          rw [List.append_nil, ← wider_same, widerC_len, Hlen.out] at this
          exact this)
        clear o4 hb4
        go_wp2_with fail
        with_reducible refine (cget_any A3 n3 c3 (putB 2 true (widerC l no j) []) 3 true j _ HX4.out G3.out.1 G3.out.2 (HT.out.on HB4.out)).mono ?_
        rintro e w5 ⟨hb5, hm5⟩
        rw [Hget.out] at hm5
        obtain ⟨-, A5, c5, rfl, -, -, q3⟩ := hm5
        have HB5 := Lib.hid (bon HB4.out hb5)
        have HR5 := Lib.hid (own_reads q3)
        have HX5 := Lib.hid (HX4.out.on hb5)
        have HY5 := Lib.hid (HO4.out.on hb5)
        have HI5 := Lib.hid (HI4.out.on hb5)
        have Hwl := Lib.hid (widerC_len l no j)
        clear hb5 q3
        go_wp2_with fail
        with_reducible refine (eq_yes A3 A4 n3 c3 n4 c4 _ _ _ HX5.out HY5.out rfl).mono ?_
        rintro e w6 ⟨rfl, rfl⟩
        go_wp2_with fail
        with_reducible refine (eqRow_yes A5 A1 _ c5 j c1 (widerC l no j) (widerC l no j) _ HR5.out HI5.out (by rw [Hwl.out]; simp only [maxLen]; omega) rfl).mono ?_
        rintro e w7 ⟨rfl, hb7⟩
        have HB7 := Lib.hid (bon HB5.out hb7)
        clear hb7
        go_wp2_with fail
        with_reducible refine (works_yes _ (HT.out.on HB7.out)).mono ?_
        rintro e w8 ⟨rfl, hb8⟩
        have HB8 := Lib.hid (bon HB7.out hb8)
        clear hb8
        go_wp2
        go_ret
        exact ⟨rfl, HB8.out⟩
end Go.Proofs.YtfgpbnfobpfacaaGreatDoor
