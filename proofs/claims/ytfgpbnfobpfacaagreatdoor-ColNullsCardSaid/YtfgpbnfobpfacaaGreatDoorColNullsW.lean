/- The law ColNulls, walked. -/
import Derived.Test.YtfgpbnfobpfacaaGreatDoorPart21
set_option linter.unusedVariables false
set_option linter.unusedSimpArgs false
namespace Go.Proofs.YtfgpbnfobpfacaaGreatDoor
open Go.RowKit
theorem nulls_eq {k : Int} {l : List Cl} (hk : mayK k = true) (ha : allC k true l = true) : putE k false (someC l) = 0 ∧ putO k false (someC l) (packL (l.map fun c => !c.1)) = putB k true l [] := by
  obtain ⟨ho, -⟩ := (allC_iff k true l hk).1 ha
  have hss : someC (someC l) = someC l := someC_all _ fun c hc => (ho c hc).1
  have hE : putE k false (someC l) = 0 := putE_ok hk ((allC_iff k false _ hk).2 ⟨by rw [hss]; exact ho, fun c hc hu => by rw [(ho c hc).1] at hu; cases hu⟩)
  refine ⟨hE, ?_⟩
  rw [putO_ok _ hE]
  simp [putB, hss]
set_option maxRecDepth 100000 in
set_option maxHeartbeats 2000000 in
theorem colNulls_walk (k : Int) (B : Option Addr) (m0 cb : Nat) (l : List Cl) (w : World) (hr2 : Reads w w.heap.size 3 B m0 (cls l)) (hm0 : m0 ≤ cb) (hcb : cb ≤ maxLen) (hok : ClOk l) (hT : Tabs w) :
    Calls Tryz.prog 7 #[.int .i64 k, .slice B m0 cb] w fun e w' => e = .returned (.bool true) ∧ Below w.heap.size w w' := by
  have HT := Lib.hid hT
  have hcl := cutC_len l
  obtain ⟨b0, hb0, hb1, hb2', hb3'⟩ := info_parts bool_info
  obtain ⟨j0, hj0, hk0, hj1, hk2⟩ := info_parts cell_info
  go_enter Tryz.func7, Tryz.ntmps7
  go_wp2_with fail
  with_reducible refine (cutC_any B m0 cb l _ hr2 (Nat.le_trans hm0 hcb) hok).mono ?_
  rintro e w2 ⟨A2, c2, rfl, g1, g2, o2, hb2⟩
  have Hok := Lib.hid (cutC_ok l hok)
  clear hok hr2 hT hcb
  generalize hin : cutC l = lc at *
  have r2 := own_reads o2
  have hlc : lc.length ≤ 60 := by omega
  have HB2 := Lib.hid hb2
  clear hin hcl hb2
  go_wp2_with fail
  with_reducible refine (cput_any none 0 0 [] k true A2 lc.length c2 lc _ Reads.none_ (by omega) r2 (by omega) Hok.out (HT.out.on HB2.out)).mono ?_
  rintro e w3 ⟨A3, n3, c3, rfl, g3, g4, o3, hb3x⟩
  have HB3 := Lib.hid (bon HB2.out hb3x)
  have HT3 := Lib.hid (HT.out.on HB3.out)
  have Hr2 := Lib.hid (r2.on hb3x)
  have G := Lib.hid (And.intro g3 g4)
  by_cases hE : putE k true lc = 0
  · obtain ⟨hk, ha⟩ := putE_zero hE
    have HN := Lib.hid (nulls_eq hk ha)
    rw [putO_ok [] hE] at o3
    rw [hE]
    have HO3 := Lib.hid (own_reads o3)
    clear hE hk ha o3 hb3x r2 g3 g4 o2
    go_wp2
    go_loopw [8, 9, 10] (fun v8 v9 i wr => ∃ (j : Nat) (A8 : Option Addr) (c8 : Nat) (A9 : Option Addr) (n9 c9 : Nat), j ≤ lc.length ∧ v8 = .slice A8 j c8 ∧ v9 = .slice A9 n9 c9 ∧ i = .int .i64 (j : Int) ∧ n9 ≤ j ∧
      Hid (wr.ownsRow w3.heap.size 4 1 (.slice A8 j c8) j (bls ((lc.take j).map fun c => !c.1))) ∧ Hid (wr.ownsRow w3.heap.size 41 3 (.slice A9 n9 c9) n9 (cls (someC (lc.take j)))) ∧ Hid (Below w3.heap.size w3 wr)) (fun _ _ i _ => lc.length - (intOf i).toNat)
    case atStart => exact ⟨0, none, 0, none, 0, 0, Nat.zero_le _, rfl, rfl, rfl, Nat.le_refl _, Lib.hid (World.ownsRow_nil _ _ _ _), Lib.hid (World.ownsRow_nil _ _ _ _), Lib.hid (Below.refl _ _)⟩
    case round =>
      obtain ⟨j, A8, c8, A9, n9, c9, hj, rfl, rfl, rfl, hn9, HO8, HO9, HB⟩ := hrel
      by_cases hlt : j < lc.length
      · obtain ⟨ad, u, x, s, rfl, hbk, hx, h0, h1, h2⟩ := cls_at Hr2.out hlt
        have Hx := Lib.hid hx
        have hbk2 : (ad.add (j * 3)).block < w3.heap.size := by rw [block_of_add]; exact hbk
        have HY0 := Lib.hid (show ∀ w', Below w3.heap.size w3 w' → w'.cell? (ad.add (j * 3)) = some (.bool u) from fun w' h => (h.cell (p := ad.add (j * 3)) hbk2).trans h0)
        have HY1 := Lib.hid (show ∀ w', Below w3.heap.size w3 w' → w'.cell? ⟨(ad.add (j * 3)).block, (ad.add (j * 3)).off + 1, none⟩ = some (.int .i64 x) from fun w' h => (h.cell (p := ⟨(ad.add (j * 3)).block, (ad.add (j * 3)).off + 1, none⟩) hbk2).trans h1)
        have HY2 := Lib.hid (show ∀ w', Below w3.heap.size w3 w' → w'.cell? ⟨(ad.add (j * 3)).block, (ad.add (j * 3)).off + 2, none⟩ = some (.string s) from fun w' h => (h.cell (p := ⟨(ad.add (j * 3)).block, (ad.add (j * 3)).off + 2, none⟩) hbk2).trans h2)
        have Hmp := Lib.hid (show (lc.take (j + 1)).map (fun c => !c.1) = (lc.take j).map (fun c => !c.1) ++ [!u] by rw [List.take_add_one, hx]; simp)
        have Hstep := Lib.hid (someC_step hx)
        have hs1 : j + 1 ≤ maxLen := by simp only [maxLen]; omega
        have hs2 : (j + 1) * 1 ≤ 70368744177664 := by omega
        have hs3 : n9 + 1 ≤ maxLen := by simp only [maxLen]; omega
        have hs4 : (n9 + 1) * 32 ≤ 70368744177664 := by omega
        clear hx hbk hbk2 h0 h1 h2
        have y0 := HY0.out _ HB.out
        cases u with
        | true =>
          have Hstep := Lib.hid (show someC (lc.take (j + 1)) = someC (lc.take j) by rw [Hstep.out]; rfl)
          go_wp2_with (at_builtin
                       (refine wpList_append_any _ rfl (.tmp 31) (.tmp 38) 42 rfl w3.heap.size 4 b0 (.bool false) 1 1 Tryz.underlying42 hb0 hb1 hb2' hb3' rfl (by decide) A8 j c8 _ rfl (HO8.out.alloc _) (some ⟨_, 0, none⟩) 1 1 [.bool false] rfl (reads_new _ _ _) (one_bool _) hs1 hs2 (Nat.le_trans HB.out.size (by simp)) ?_
                        intro A1 c1 w8 r1 r2 r3 r4 r5
                        have hB8 := Lib.hid ((HB.out.alloc HB.out.size (.cells #[.bool false] 4)).trans r2)
                        have hO9 := Lib.hid (own_apart (HO9.out.alloc (.cells #[.bool false] 4)) (HO8.out.alloc (.cells #[.bool false] 4)) (by decide) r3)
                        have hO8 := Lib.hid r1
                        have y0 := HY0.out _ hB8.out
                        have y1 := HY1.out _ hB8.out
                        have y2 := HY2.out _ hB8.out
                        clear r1 r2 r3 r4 r5))
          have hO8 := Lib.hid (show w8.ownsRow w3.heap.size 4 1 (.slice A1 (j + 1) c1) (j + 1) (bls ((lc.take (j + 1)).map fun c => !c.1)) by rw [Hmp.out, bls_append]; exact hO8.out)
          go_roundw
          case rel => exact ⟨j + 1, A1, c1, A9, n9, c9, by omega, rfl, rfl, by go_num, by omega, hO8, by rw [Hstep.out]; exact hO9, hB8⟩
          case measure => simp [intOf]; omega
        | false =>
          have Hstep := Lib.hid (show someC (lc.take (j + 1)) = someC (lc.take j) ++ [(false, x, s)] by rw [Hstep.out]; rfl)
          go_wp2_with (at_builtin
                       first
                       | (refine wpList_append_any _ rfl (.tmp 31) (.tmp 38) 42 rfl w3.heap.size 4 b0 (.bool false) 1 1 Tryz.underlying42 hb0 hb1 hb2' hb3' rfl (by decide) A8 j c8 _ rfl (HO8.out.alloc _) (some ⟨_, 0, none⟩) 1 1 [.bool true] rfl (reads_new _ _ _) (one_bool _) hs1 hs2 (Nat.le_trans HB.out.size (by simp)) ?_
                          intro A1 c1 w8 r1 r2 r3 r4 r5
                          have hB8 := Lib.hid ((HB.out.alloc HB.out.size (.cells #[.bool true] 4)).trans r2)
                          have hO9 := Lib.hid (own_apart (HO9.out.alloc (.cells #[.bool true] 4)) (HO8.out.alloc (.cells #[.bool true] 4)) (by decide) r3)
                          have hO8 := Lib.hid r1
                          have y0 := HY0.out _ hB8.out
                          have y1 := HY1.out _ hB8.out
                          have y2 := HY2.out _ hB8.out
                          clear r1 r2 r3 r4 r5)
                       | (refine wpList_append_any _ rfl (.tmp 46) (.tmp 51) 25 rfl w3.heap.size 41 j0 (.agg #[.bool false, .int .i64 0, .string ⟨#[]⟩]) 3 32 Tryz.underlying25 hj0 hk0 hj1 hk2 rfl (by decide) A9 n9 c9 _ rfl (hO9.out.alloc _) (some ⟨_, 0, none⟩) 1 1 (cls [(false, x, s)]) rfl (reads_cell _ _ _ _) (cls_one _) hs3 hs4 (Nat.le_trans hB8.out.size (by simp)) ?_
                          intro A2 c2 w9 r1 r2 r3 r4 r5
                          rw [← cls_append] at r1
                          have hB9 := Lib.hid ((hB8.out.alloc hB8.out.size (.cells #[.bool false, .int .i64 x, .string s] 41)).trans r2)
                          have hP8 := Lib.hid (own_apart (hO8.out.alloc (.cells #[.bool false, .int .i64 x, .string s] 41)) (hO9.out.alloc (.cells #[.bool false, .int .i64 x, .string s] 41)) (by decide) r3)
                          have hP9 := Lib.hid r1
                          clear r1 r2 r3 r4 r5))
          have hP8 := Lib.hid (show w9.ownsRow w3.heap.size 4 1 (.slice A1 (j + 1) c1) (j + 1) (bls ((lc.take (j + 1)).map fun c => !c.1)) by rw [Hmp.out, bls_append]; exact hP8.out)
          go_roundw
          case rel => exact ⟨j + 1, A1, c1, A2, n9 + 1, c2, by omega, rfl, rfl, by go_num, by omega, hP8, by rw [Hstep.out]; exact hP9, hB9⟩
          case measure => simp [intOf]; omega
      · obtain rfl : j = lc.length := by omega
        rw [List.take_of_length_le (Nat.le_refl _)] at HO8 HO9
        have hsl := someC_le lc
        have hpl := packL_le (lc.map fun c => !c.1)
        rw [List.length_map] at hpl
        have Hn9 := Lib.hid (show n9 = (someC lc).length from (cls_len (Reads.of_own HO9.out)).symm)
        have HsO := Lib.hid (show ClOk (someC lc) from fun c hc => Hok.out c (List.mem_filter.1 hc).1)
        obtain ⟨q3, q4⟩ := own_caps HO8.out
        have Q8 := Lib.hid (And.intro q3 q4)
        clear q3 q4 hlt
        go_wp2_with fail
        with_reducible refine (mpack_any A8 lc.length c8 _ _ (Reads.of_own HO8.out) Q8.out.1 Q8.out.2 (by omega)).mono ?_
        rintro e w5 ⟨AP, cP, rfl, q1, q2, q3, q4⟩
        have HOP := Lib.hid (Reads.of_own q3)
        have HO9 := Lib.hid (own_below HO9.out q4)
        have HB5 := Lib.hid (HB.out.trans (q4.mono HB.out.size))
        clear q1 q2 q3 q4
        go_wp2_with fail
        with_reducible refine (cput_any AP (packL (lc.map fun c => !c.1)).length cP (packL (lc.map fun c => !c.1)) k false A9 n9 c9 (someC lc) _ HOP.out (by omega) (Reads.of_own HO9.out) (by omega) HsO.out (HT3.out.on HB5.out)).mono ?_
        rw [HN.out.1, HN.out.2]
        rintro e w6 ⟨A6, n6, c6, rfl, g5, g6, o6, hb6⟩
        have HB6 := Lib.hid (HB5.out.trans (hb6.mono HB5.out.size))
        have HO6 := Lib.hid (own_reads o6)
        clear g5 g6 o6 hb6
        go_wp2_with fail
        with_reducible refine (eq_yes A3 A6 n3 c3 n6 c6 _ _ _ (HO3.out.on HB6.out) HO6.out rfl).mono ?_
        rintro e w7 ⟨rfl, rfl⟩
        have HB7 := Lib.hid (bon HB3.out HB6.out)
        go_wp2_with fail
        with_reducible refine (works_yes _ (HT.out.on HB7.out)).mono ?_
        rintro e w8 ⟨rfl, hb8⟩
        have HB8 := Lib.hid (bon HB7.out hb8)
        clear hb8
        go_wp2
        go_ret
        exact ⟨rfl, HB8.out⟩
  · have hE2 : (putE k true lc == 0) = false := by simpa using hE
    have hE3 : (putE k true lc != 0) = true := by simp [hE]
    generalize putE k true lc = E0 at *
    clear hE o3 hb3x
    go_wp2_with fail
    with_reducible refine (works_yes _ HT3.out).mono ?_
    rintro e w8 ⟨rfl, hb8⟩
    have HB8 := Lib.hid (bon HB3.out hb8)
    clear hb8
    go_wp2
    go_ret
    exact ⟨rfl, HB8.out⟩
end Go.Proofs.YtfgpbnfobpfacaaGreatDoor
