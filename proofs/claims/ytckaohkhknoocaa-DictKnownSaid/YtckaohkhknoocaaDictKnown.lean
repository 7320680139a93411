/- The law DictKnown, walked. -/
import Derived.Test.YtckaohkhknoocaaDictJoins
import Derived.Test.YtckaohkhknoocaaDictOnly
import Derived.Test.YtckaohkhknoocaaDictReads
set_option linter.unusedVariables false
set_option linter.unusedSimpArgs false
namespace Go.Proofs.Ytckaohkhknoocaa
open Go.RowKit
def tX : ByteArray := ⟨#[120]⟩
def tY : ByteArray := ⟨#[121]⟩
def tCC : ByteArray := ⟨#[99, 99]⟩
theorem three_ints (x y z : Int) (h : (-10 ≤ x ∧ x ≤ 10) ∧ (-10 ≤ y ∧ y ≤ 10) ∧ (-10 ≤ z ∧ z ≤ 10)) : ∀ n ∈ [x, y, z], -9223372036854775808 ≤ n ∧ n ≤ 9223372036854775807 := by
  intro n hn
  simp only [List.mem_cons, List.not_mem_nil, or_false] at hn
  omega
theorem sub_ints {l m : List Int} (h : ∀ n ∈ l, -9223372036854775808 ≤ n ∧ n ≤ 9223372036854775807) (hs : ∀ n ∈ m, n ∈ l) : ∀ n ∈ m, -9223372036854775808 ≤ n ∧ n ≤ 9223372036854775807 := fun n hn => h n (hs n hn)
set_option maxRecDepth 100000 in
set_option maxHeartbeats 4000000 in
theorem dictKnown_walk (w : World) :
    Calls Try.prog 10 #[] w fun e w' => e = .returned (.bool true) ∧ Below w.heap.size w w' := by
  go_enter Try.func10, Try.ntmps10
  go_wp2
  go_loopw [1] (fun i wr => ∃ k : Nat, k ≤ 64 ∧ i = .int .i64 (k : Int) ∧ Below w.heap.size w wr) (fun i _ => 64 - (intOf i).toNat)
  case atStart => exact ⟨0, by omega, rfl, Below.refl _ _⟩
  case round =>
    obtain ⟨k, hk, rfl, hB⟩ := hrel
    by_cases hlt : k < 64
    · obtain ⟨x, hx⟩ : ∃ x : Int, x = (k : Int) % 4 - 1 := ⟨_, rfl⟩
      obtain ⟨y, hy⟩ : ∃ x : Int, x = (k : Int) / 4 % 4 - 1 := ⟨_, rfl⟩
      obtain ⟨z, hz⟩ : ∃ x : Int, x = (k : Int) / 16 - 1 := ⟨_, rfl⟩
      have h3 := three_ints x y z (by omega)
      have H3 := Lib.hid h3
      replace hx := hx.symm
      replace hy := hy.symm
      replace hz := hz.symm
      clear h3
      obtain ⟨m2, hm2⟩ : ∃ m2 : Nat, (k : Int) % 2 = (m2 : Int) := ⟨k % 2, by omega⟩
      have hm3 : m2 ≤ 1 := by omega
      have Ht2 : Hid ((ins [x, y, z]).take (m2 * 1) = ins ([x, y, z].take m2)) := Lib.hid (by rw [Nat.mul_one, ins_take])
      have Hsub2 := Lib.hid (show ∀ n ∈ [x, y, z].take m2, n ∈ [x, y, z] from fun n hn => List.mem_of_mem_take hn)
      generalize hqq : [x, y, z].take m2 = q2 at Ht2 Hsub2
      clear hqq
      have rn : Reads (wr.alloc (.cells #[.int .i64 x, .int .i64 y, .int .i64 z] 3)) (wr.alloc (.cells #[.int .i64 x, .int .i64 y, .int .i64 z] 3)).heap.size 1 (some ⟨wr.heap.size, 0, none⟩) 3 (ins [x, y, z]) := reads_lit _ _ _ _ _ _ rfl rfl rfl
      have hB1 := bal hB (.cells #[.int .i64 x, .int .i64 y, .int .i64 z] 3)
      go_wp2_with fail
      with_reducible refine (dictJoins_walk _ 2 2 [tX, tE] _ 3 3 [x, y, z] _ (by exact reads_lit _ _ _ _ _ _ (by simp) rfl rfl) (by decide) (by decide) (small_texts _ (by decide +kernel)) (rn.al _) (by decide) (by decide) H3.out).mono ?_
      rintro e w1 ⟨rfl, hb1⟩
      replace rn := (rn.al _).on hb1
      replace hB1 := bon (bal hB1 _) hb1
      clear hb1 hB
      go_wp2_with fail
      with_reducible refine (dictJoins_walk _ 2 2 [tX, tX] _ 3 3 [x, y, z] _ (by exact reads_lit _ _ _ _ _ _ (by simp) rfl rfl) (by decide) (by decide) (small_texts _ (by decide +kernel)) (rn.al _) (by decide) (by decide) H3.out).mono ?_
      rintro e w2 ⟨rfl, hb2⟩
      replace rn := (rn.al _).on hb2
      replace hB1 := bon (bal hB1 _) hb2
      clear hb2
      go_wp2_with fail
      have rh := (rn.al (.cells #[.string tX] 9)).head (k := 2) (by decide)
      with_reducible refine (dictJoins_walk _ 1 1 [tX] _ 2 3 [x, y] _ (by exact reads_lit _ _ _ _ _ _ (by simp) rfl rfl) (by decide) (by decide) (small_texts _ (by decide +kernel)) rh (by decide) (by decide) (sub_ints H3.out (by simp))).mono ?_
      rintro e w3 ⟨rfl, hb3⟩
      replace rn := (rn.al _).on hb3
      replace hB1 := bon (bal hB1 _) hb3
      clear hb3 rh
      go_wp2_with fail
      have rh := rn.head (k := m2) (by omega)
      rw [Ht2.out] at rh
      with_reducible refine (dictJoins_walk none 0 0 [] _ m2 3 q2 _ reads_t0 (by decide) (by decide) (small_texts _ (by decide +kernel)) rh (by omega) (by decide) (sub_ints H3.out Hsub2.out)).mono ?_
      rintro e w4 ⟨rfl, hb4⟩
      replace rn := rn.on hb4
      replace hB1 := bon hB1 hb4
      clear hb4 rh
      go_wp2_with fail
      with_reducible refine (dictOnly_walk _ 3 3 [tX, tE, tY] _ 3 3 [x, y, z] _ (by exact reads_lit _ _ _ _ _ _ (by simp) rfl rfl) (by decide) (by decide) (small_texts _ (by decide +kernel)) (rn.al _) (by decide) (by decide) H3.out).mono ?_
      rintro e w5 ⟨rfl, hb5⟩
      replace hB1 := bon (bal hB1 _) hb5
      clear hb5 rn hx hy hz hm2
      go_wp2
      go_roundw
      case rel => exact ⟨k + 1, by omega, by go_num, hB1⟩
      case measure => simp [intOf]; omega
    · have hk64 : 64 ≤ k := by omega
      go_wp2_with fail
      with_reducible refine (put_lit _ 5 5 [tB, tE, tB, tCC, tE] [3, 1, 98, 0, 2, 99, 99, 0, 1, 0, 2, 1] 12 _ (by exact reads_lit _ _ _ _ _ _ (by simp) rfl rfl) (by decide) (small_texts _ (by decide +kernel)) (by decide) (by decide +kernel) rfl).mono ?_
      rintro e w6 ⟨Ab, cb, rfl, hcb, hdb, rb, hb6⟩
      have hB6 : Below w.heap.size w w6 := bon (bal hB _) hb6
      have hcb63 : cb ≤ 9223372036854775807 := by unfold maxLen at hdb; omega
      clear hb6 hB hlt hk64
      generalize hbs : ([3, 1, 98, 0, 2, 99, 99, 0, 1, 0, 2, 1] : List UInt8) = bs at rb
      have hbl : bs.length = 12 := by rw [← hbs]; rfl
      have Hbl := Lib.hid hbl
      clear hbs hbl
      go_wp2
      go_loopw [4] (fun i wr => ∃ k : Nat, k ≤ 13 ∧ i = .int .i64 (k : Int) ∧ Below w6.heap.size w6 wr) (fun i _ => 13 - (intOf i).toNat)
      case atStart => exact ⟨0, by omega, rfl, Below.refl _ _⟩
      case round =>
        obtain ⟨j, hj, rfl, hB⟩ := hrel
        by_cases hlt : j < 13
        · have hj12 : j ≤ 12 := by omega
          have hjc : j ≤ cb := by omega
          have rbw := (rb.below hB).more hB.size
          have rh := rbw.head (k := j) hj12
          rw [Nat.mul_one, u8s_take] at rh
          go_wp2_with fail
          with_reducible refine (dictReads_walk Ab j cb (bs.take j) 5 2 _ rh hjc hdb (by decide) (by decide) (by decide)).mono ?_
          rintro e w7 ⟨rfl, hb7⟩
          have hB7 : Below w6.heap.size w6 w7 := bon hB hb7
          clear hB hb7 rbw rh
          go_wp2
          go_loopw [5] (fun i wr => ∃ c : Nat, c ≤ 256 ∧ i = .int .i64 (c : Int) ∧ Below w6.heap.size w6 wr) (fun i _ => 256 - (intOf i).toNat)
          case atStart => exact ⟨0, by omega, rfl, hB7⟩
          case round =>
            clear hB7
            obtain ⟨c, hc, rfl, hB⟩ := hrel
            by_cases hlt2 : c < 256 ∧ j < 12
            · obtain ⟨hlc, hlj⟩ := hlt2
              have rbw := (rb.below hB).more hB.size
              have d1 : decide ((c : Int) < 256) = true := by simp; omega
              have d2 : decide ((j : Int) < 12) = true := by simp; omega
              go_wp2_with fail
              with_reducible refine (copyBytes_any Ab 12 cb bs _ rbw (by decide)).mono ?_
              rintro e w8 ⟨A8, c8, rfl, hc8, hd8, o8, hb8⟩
              have hB8 : Below w6.heap.size w6 w8 := bon hB hb8
              obtain ⟨g, rfl, hg, hg2, hcell, hfz⟩ := own_at o8 (by decide)
              obtain ⟨z, hz1⟩ : ∃ z, bs[j]? = some z := ⟨_, List.getElem?_eq_getElem (by rw [Hbl.out]; exact hlj)⟩
              have hck := hcell j (.int .u8 (z.toNat : Int)) (by simp [u8s, hz1])
              have hfk := hfz j
              have o9 := own_set o8 j hlj (.int .u8 ((UInt8.ofNat c).toNat : Int))
              rw [u8s_set] at o9
              have hcv : (((UInt8.ofNat c).toNat : Nat) : Int) = (c : Int) := by rw [UInt8.toNat_ofNat']; omega
              rw [hcv] at o9
              have hbw := hB.size
              have hgw : w6.heap.size ≤ g := Nat.le_trans hbw hg
              have hB9 := hB8.setCell (p := ⟨g, j, none⟩) hgw (.int .u8 (c : Int))
              have r9 := own_reads o9
              generalize bs.set j (UInt8.ofNat c) = xs9 at r9
              clear hcell hfz o8 o9 hz1 hcv hb8 rbw hB8
              go_wp2_with fail
              with_reducible refine (dictReads_walk _ 12 c8 xs9 5 2 _ r9 hc8 hd8 (by decide) (by decide) (by decide)).mono ?_
              rintro e w10 ⟨rfl, hb10⟩
              have hB10 : Below w6.heap.size w6 w10 := bon hB9 hb10
              have r10 := r9.on hb10
              clear hB9 hb10 r9
              by_cases hc16 : c % 16 = 0
              · have e16 : (((c : Int) % 16) == 0) = true := by simp; omega
                obtain ⟨nn, hnn⟩ : ∃ x : Int, (c : Int) / 16 - 2 = x := ⟨_, rfl⟩
                obtain ⟨mm, hmm⟩ : ∃ x : Int, (c : Int) / 32 - 1 = x := ⟨_, rfl⟩
                have hn1 : -9223372036854775808 ≤ nn ∧ nn ≤ 9223372036854775807 := by omega
                have hm1 : mm ≤ 9223372036854775807 := by omega
                clear hc16
                go_wp2_with fail
                with_reducible refine (dictReads_walk _ 12 c8 xs9 nn mm _ r10 hc8 hd8 hn1.1 hn1.2 hm1).mono ?_
                rintro e w11 ⟨rfl, hb11⟩
                have hB11 : Below w6.heap.size w6 w11 := bon hB10 hb11
                clear hnn hmm hn1 hm1
                go_wp2
                go_roundw
                case rel => exact ⟨c + 1, by omega, by go_num, hB11⟩
                case measure => simp [intOf]; omega
              · have e16 : (((c : Int) % 16) == 0) = false := by simp; omega
                clear hc16
                go_wp2
                go_roundw
                case rel => exact ⟨c + 1, by omega, by go_num, hB10⟩
                case measure => simp [intOf]; omega
            · by_cases hc2 : c < 256
              · have d1 : decide ((c : Int) < 256) = true := by simp; omega
                have hj2 : ¬ (j : Int) < 12 := by omega
                have d2 : decide ((j : Int) < 12) = false := by simp; omega
                clear hlt2
                go_wp2
                go_roundw
                case rel => exact ⟨j + 1, by omega, by go_num, hB⟩
                case measure => simp [intOf]; omega
              · have d1 : decide ((c : Int) < 256) = false := by simp; omega
                clear hlt2
                go_wp2
                go_roundw
                case rel => exact ⟨j + 1, by omega, by go_num, hB⟩
                case measure => simp [intOf]; omega
        · have hj13 : 13 ≤ j := by omega
          have hws := hB6.size
          have hBw : Below w.heap.size w wr := hB6.trans (hB.mono hws)
          clear hB hB6 rb hlt
          go_wp2_with fail
          with_reducible refine (dworks_any _).mono ?_
          rintro e w8 ⟨rfl, hb8⟩
          go_wp2_with fail
          with_reducible refine (dictReads_walk _ 1 1 [0] 1048577 9 _ (by exact reads_lit _ _ _ _ _ _ (by simp) rfl rfl) (by decide) (by decide) (by decide) (by decide) (by decide)).mono ?_
          rintro e w9 ⟨rfl, hb9⟩
          go_wp2_with fail
          with_reducible refine (dictReads_walk _ 10 10 [255, 255, 255, 255, 255, 255, 255, 255, 255, 1] 1048576 (-1) _ (by exact reads_lit _ _ _ _ _ _ (by simp) rfl rfl) (by decide) (by decide) (by decide) (by decide) (by decide)).mono ?_
          rintro e w10 ⟨rfl, hb10⟩
          go_wp2_with fail
          with_reducible refine (dictReads_walk none 0 0 [] (-9223372036854775808) (-9223372036854775808) _ reads_u0 (by decide) (by decide) (by decide) (by decide) (by decide)).mono ?_
          rintro e w11 ⟨rfl, hb11⟩
          go_wp2
          go_ret
          exact ⟨rfl, bon (bon (bal (bon (bal (bon hBw hb8) _) hb9) _) hb10) hb11⟩
end Go.Proofs.Ytckaohkhknoocaa
