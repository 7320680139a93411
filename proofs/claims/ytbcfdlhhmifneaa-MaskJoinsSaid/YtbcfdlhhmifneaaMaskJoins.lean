/- The law MaskJoins, walked. -/
import Derived.Test.YtbcfdlhhmifneaaMaskLaw
set_option linter.unusedVariables false
set_option linter.unusedSimpArgs false
namespace Go.Proofs.Ytbcfdlhhmifneaa
open Go.RowKit
set_option maxRecDepth 100000 in
set_option maxHeartbeats 2000000 in
theorem maskJoins_any (A B : Option Addr) (l c m d : Nat) (xs ys : List Bool) (w : World) (hr : Reads w w.heap.size 1 A l (bls xs)) (hl : l ≤ c) (hc : c ≤ maxLen) (hrb : Reads w w.heap.size 1 B m (bls ys)) (hm : m ≤ d) (hd : d ≤ maxLen) :
    Calls Try.prog 7 #[.slice A l c, .slice B m d] w fun e w' => e = .returned (.bool true) ∧ Below w.heap.size w w' := by
  have hle := cut300_le xs
  have hle2 := cut300_le ys
  obtain ⟨i0, hi0, hz0, hz1, hz2⟩ := info_parts bool_info
  obtain ⟨j0, hj0, hy0, hy1, hy2⟩ := info_parts u8_info
  have hB := Below.refl w.heap.size w
  go_enter Try.func7, Try.ntmps7
  go_wp2_with fail
  with_reducible refine (cutb_any A l c xs _ hr hl hc).mono ?_
  rintro e w1 ⟨A1, c1, rfl, hc1, hd1, o1, hb⟩
  replace hrb := hrb.on hb
  replace hB := bon hB hb
  have r1 := own_reads o1
  clear hb
  go_wp2_with fail
  with_reducible refine (cutb_any B m d ys _ hrb hm hd).mono ?_
  rintro e w2 ⟨A2, c2, rfl, hc2, hd2, o2, hb⟩
  replace hrb := hrb.on hb
  replace r1 := r1.on hb
  replace hB := bon hB hb
  have r2 := own_reads o2
  clear hb
  generalize hL : (cut300 xs).length = N at hc1 hle r1 ⊢
  have hkl : N / 8 * 8 ≤ N := by omega
  have ra := r1.head (k := N / 8 * 8) hkl
  rw [Nat.mul_one, bls_take] at ra
  have hal : ((cut300 xs).take (N / 8 * 8)).length = N / 8 * 8 := by rw [List.length_take]; omega
  have hk8 : (N / 8 * 8) % 8 = 0 := by omega
  have hkc : N / 8 * 8 ≤ c1 := by omega
  have hk300 : N / 8 * 8 ≤ 300 := by omega
  generalize (cut300 xs).take (N / 8 * 8) = us at ra hal
  clear hrb o1 o2 r1 hr hL
  generalize (cut300 ys) = bs at r2 hc2 hle2 ⊢
  obtain ⟨M, hM⟩ : ∃ M, bs.length = M := ⟨_, rfl⟩
  rw [hM] at r2 hc2 hle2 ⊢
  have hs1 : 0 + N / 8 * 8 ≤ maxLen := by simp only [maxLen]; omega
  have hs2 : (0 + N / 8 * 8) * 1 ≤ 70368744177664 := by omega
  have hs3 : N / 8 * 8 + M ≤ maxLen := by simp only [maxLen]; omega
  have hs4 : (N / 8 * 8 + M) * 1 ≤ 70368744177664 := by omega
  have hpj : packL (us ++ bs) = packL us ++ packL bs := packL_append us bs (by omega)
  have hs5 : (packL us).length + (packL bs).length ≤ 300 := by rw [packL_length, packL_length, hM, hal]; unfold need; omega
  have hcj : (((countL (us ++ bs) : Nat) : Int) == ((countL us : Nat) : Int) + ((countL bs : Nat) : Int)) = true := by rw [countL_append]; simp
  have hcu : countL us ≤ 300 := by have := countL_le us; omega
  have hcb : countL bs ≤ 300 := by have := countL_le bs; omega
  have Hpj := Lib.hid hpj
  have Hal := Lib.hid hal
  have HM := Lib.hid hM
  clear hpj hal hM hk8
  have hs6 : (packL us).length + (packL bs).length ≤ maxLen := by simp only [maxLen]; omega
  have hs7 : ((packL us).length + (packL bs).length) * 1 ≤ 70368744177664 := by omega
  go_wp2_with (at_builtin
               first
               | (refine wpList_append_any _ rfl (.tmp 18) (.tmp 19) 22 rfl w2.heap.size 4 i0 (.bool false) 1 1 Try.underlying22 hi0 hz0 hz1 hz2 rfl (by decide) _ 0 0 [] rfl (World.ownsRow_made w2 #[] 0 (Nat.le_refl _) (by simp [maxLen]) rfl) A1 (N / 8 * 8) c1 (bls us) rfl (ra.al _) (bls_one _) hs1 hs2 (by simp) ?_
                  intro A3 c3 w3 o3 hb hg3 hc3 hm3
                  simp only [Nat.zero_add, List.nil_append] at o3 hc3
                  have hb3 := ((Below.refl w2.heap.size w2).alloc (Nat.le_refl _) _).trans hb
                  clear hb hg3)
               | (refine wpList_append_any _ rfl (.tmp 20) (.tmp 21) 22 rfl w2.heap.size 4 i0 (.bool false) 1 1 Try.underlying22 hi0 hz0 hz1 hz2 rfl (by decide) A3 (N / 8 * 8) c3 (bls us) rfl o3 A2 M c2 (bls bs) rfl (r2.on hb3) (bls_one _) hs3 hs4 hb3.size ?_
                  intro A4 c4 w4 o4 hb hg4 hc4 hm4
                  rw [← bls_append] at o4
                  have hb4 := hb3.trans hb
                  clear hb hg4 o3 hb3))
  replace ra := ra.on hb4
  replace r2 := r2.on hb4
  replace hB := bon hB hb4
  have r4 := own_reads o4
  clear hb4 o4
  with_reducible refine (mpack_any A4 _ c4 (us ++ bs) _ r4 hc4 hm4 (by omega)).mono ?_
  rintro e w5 ⟨A5, c5, rfl, hc5, hd5, o5, hb⟩
  replace ra := ra.on hb
  replace r2 := r2.on hb
  replace r4 := r4.on hb
  replace hB := bon hB hb
  have r5 := own_reads o5
  clear hb
  go_wp2_with fail
  with_reducible refine (mpack_any A1 _ c1 us _ ra hkc hd1 (by omega)).mono ?_
  rintro e w6 ⟨A6, c6, rfl, hc6, hd6, o6, hb6⟩
  have ra6 := ra.on hb6
  have r26 := r2.on hb6
  go_wp2_with fail
  with_reducible refine (mpack_any A2 _ c2 bs _ r26 hc2 hd2 (by omega)).mono ?_
  rintro e w7 ⟨A7, c7, rfl, hc7, hd7, o7, hb7⟩
  have o6' := own_below o6 hb7
  have hb57 := bon hb6 hb7
  have r7 := own_reads o7
  go_wp2_with (at_builtin
               refine wpList_append_any _ rfl (.tmp 26) (.tmp 28) 24 rfl w5.heap.size 5 j0 (.int .u8 0) 1 1 Try.underlying24 hj0 hy0 hy1 hy2 rfl (by decide) A6 _ c6 (u8s (packL us)) rfl o6' A7 _ c7 (u8s (packL bs)) rfl r7 (u8s_one _) hs6 hs7 hb57.size ?_
               intro A8 c8 w8 o8 hb hg8 hc8 hm8
               rw [← u8s_append] at o8
               have hb58 := hb57.trans hb
               clear hb hg8)
  replace ra := ra.on hb58
  replace r2 := r2.on hb58
  replace r4 := r4.on hb58
  replace r5 := r5.on hb58
  replace hB := bon hB hb58
  have r8 := own_reads o8
  clear hb58 hb57 hb6 hb7 o8 o7 o6 o6' ra6 r26 r7 o5
  with_reducible refine (eq_yes _ _ _ _ _ _ (packL (us ++ bs)) (packL us ++ packL bs) _ r5 r8 Hpj.out).mono ?_
  rintro e w' ⟨rfl, rfl⟩
  go_wp2_with fail
  with_reducible refine (mcount_any _ _ _ _ _ r4 hc4 hm4).mono ?_
  rintro e w' ⟨rfl, rfl⟩
  go_wp2_with fail
  with_reducible refine (mcount_any _ _ _ _ _ ra hkc hd1).mono ?_
  rintro e w' ⟨rfl, rfl⟩
  go_wp2_with fail
  with_reducible refine (mcount_any _ _ _ _ _ r2 hc2 hd2).mono ?_
  rintro e w' ⟨rfl, rfl⟩
  go_wp2_with fail
  with_reducible refine (mworks_any _).mono ?_
  rintro e w9 ⟨rfl, hb⟩
  replace hB := bon hB hb
  clear hb
  go_wp2
  go_ret
  exact ⟨rfl, hB⟩
end Go.Proofs.Ytbcfdlhhmifneaa
