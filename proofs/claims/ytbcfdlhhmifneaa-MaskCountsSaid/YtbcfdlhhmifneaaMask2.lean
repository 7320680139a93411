/- Layer 14, walked: the reference's Pack, and both Unpack. -/
import Derived.Test.YtbcfdlhhmifneaaMask
set_option linter.unusedVariables false
set_option linter.unusedSimpArgs false
namespace Go.Proofs.Ytbcfdlhhmifneaa
open Go.RowKit

theorem need_zero (i : Nat) (h : i % 8 = 0) : need (i + 1) = need i + 1 := by unfold need; omega
theorem need_same (i : Nat) (h : i % 8 ≠ 0) : need (i + 1) = need i := by unfold need; omega
/-- What a walk wants of the row while a bool is packed. -/
theorem pack_facts {W : World} {base c : Nat} {A : Option Addr} (xs : List Bool) (i : Nat) (b : Bool) (hb : xs[i]? = some b)
    (h : W.ownsRow base 5 1 (.slice A (need (i + 1)) c) (need (i + 1)) (u8s (packF (need (i + 1)) (xs.take i)))) :
    ∃ g x : Nat, A = some ⟨g, 0, none⟩ ∧ i / 8 < need (i + 1) ∧ base ≤ g ∧ g < W.heap.size ∧ x < 2 ^ (i % 8) ∧ x < 128 ∧ W.cell? ⟨g, i / 8, none⟩ = some (.int .u8 (x : Int)) ∧ W.frozen? ⟨g, i / 8, none⟩ = false ∧
      (b = true → (W.setCell ⟨g, i / 8, none⟩ (.int .u8 ((x + 2 ^ (i % 8) : Nat) : Int))).ownsRow base 5 1 (.slice A (need (i + 1)) c) (need (i + 1)) (u8s (packF (need (i + 1)) (xs.take (i + 1))))) ∧
      (b = false → packF (need (i + 1)) (xs.take (i + 1)) = packF (need (i + 1)) (xs.take i)) := by
  have hf : i / 8 < need (i + 1) := by unfold need; omega
  obtain ⟨g, rfl, h1, h1b, h2, h3⟩ := own_at h (by omega)
  obtain ⟨s1, s2, s3⟩ := packF_step (need (i + 1)) xs i b hb hf
  generalize byteOf (chunk xs i (i / 8)) = x at s1 s2 s3
  have hp : (2 : Nat) ^ (i % 8) ≤ 2 ^ 7 := Nat.pow_le_pow_right (by omega) (by omega)
  refine ⟨g, x, rfl, hf, h1, h1b, s2, by omega, h2 _ _ ?_, h3 _, fun hbt => ?_, fun hbf => ?_⟩
  · simp [u8s, s3, Nat.mod_eq_of_lt (by omega : x < 256)]
  · have := own_set h (i / 8) hf (.int .u8 ((UInt8.ofNat (x + 2 ^ (i % 8))).toNat : Int))
    rw [ofNat_toNat' _ (by omega)] at this
    rw [s1, if_pos hbt, ← u8s_set, ofNat_toNat' _ (by omega)]
    exact this
  · subst hbf
    exact packF_false _ _ _ hb hf
theorem pow8_le (i : Nat) : 2 ^ (i % 8) ≤ 128 := by
  have hp : (2 : Nat) ^ (i % 8) ≤ 2 ^ 7 := Nat.pow_le_pow_right (by omega) (by omega)
  omega
theorem pow8_next (i : Nat) (h : (i + 1) % 8 ≠ 0) : 2 * 2 ^ (i % 8) = 2 ^ ((i + 1) % 8) := by
  have : (i + 1) % 8 = i % 8 + 1 := by omega
  rw [this, Nat.pow_succ]; omega

set_option maxRecDepth 100000 in
set_option maxHeartbeats 1000000 in
theorem refmpack_any (A : Option Addr) (l c : Nat) (xs : List Bool) (w : World) (hr : Reads w w.heap.size 1 A l (bls xs)) (hl : l ≤ c) (hc : c ≤ maxLen) (hb : l ≤ 1099511627776) :
    Calls Try.prog 13 #[.slice A l c] w fun e w' => ∃ A' c', e = .returned (.slice A' (packL xs).length c') ∧ (packL xs).length ≤ c' ∧ c' ≤ maxLen ∧
      w'.ownsRow w.heap.size 5 1 (.slice A' (packL xs).length c') (packL xs).length (u8s (packL xs)) ∧ Below w.heap.size w w' := by
  obtain ⟨i0, hi0, hz0, hz1, hz2⟩ := info_parts u8_info
  unfold maxLen at hc
  have Hlen := Lib.hid (blen hr)
  have hN : need l ≤ 1099511627776 := by unfold need; omega
  go_enter Try.func13, Try.ntmps13
  go_wp2
  go_loopw [3, 4, 5] (fun o v u wr => ∃ (i p : Nat) (A1 : Option Addr) (c1 : Nat), i ≤ l ∧ u = .int .i64 (i : Int) ∧ v = .int .u8 (p : Int) ∧ p < 256 ∧ Hid (i % 8 ≠ 0 → p = 2 ^ (i % 8)) ∧ o = .slice A1 (need i) c1 ∧
    wr.ownsRow w.heap.size 5 1 (.slice A1 (need i) c1) (need i) (u8s (packF (need i) (xs.take i))) ∧ Below w.heap.size w wr) (fun _ _ u _ => l - (intOf u).toNat)
  case atStart => exact ⟨0, 1, none, 0, Nat.zero_le _, rfl, rfl, by omega, fun h => absurd rfl h, rfl, World.ownsRow_nil _ _ _ _, Below.refl _ _⟩
  case round =>
    obtain ⟨i, p, A1, c1, hi, rfl, rfl, hp, Hp, rfl, hown, hB⟩ := hrel
    by_cases hlt : i < l
    · obtain ⟨ad, v, rfl, hbk, hx, hcell⟩ := hr.at_ hlt
      rw [← hB.cell (p := ad.add i) (by rw [block_of_add]; exact hbk)] at hcell
      obtain ⟨b, hb', rfl⟩ := bls_get _ _ _ hx
      have hbase := hB.size
      clear hx
      by_cases h8 : i % 8 = 0
      · have ht : (((i : Int) % 8) == 0) = true := by simp; omega
        have hnl : need i ≤ need l := by unfold need; omega
        have hs1 : need i + 1 ≤ maxLen := by simp only [maxLen]; omega
        have hs2 : (need i + 1) * 1 ≤ 70368744177664 := by omega
        have H8 := Lib.hid h8
        clear h8
        cases b
        all_goals
          go_wp2_with (at_builtin
                       refine wpList_append_any _ rfl (.tmp 15) (.tmp 16) 24 rfl w.heap.size 5 i0 (.int .u8 0) 1 1 Try.underlying24 hi0 hz0 hz1 hz2 rfl (by decide) A1 _ c1 _ rfl (hown.alloc _) _ 1 1 _ rfl (reads_new _ _ _) (one_int _ _) hs1 hs2 (by simp; omega) ?_
                       intro A2 c2 w2 hown2 hb2 hg2 hc2 hm2
                       have hB2 := (hB.alloc hbase _).trans hb2
                       have hcell2 := hcell
                       rw [hB.cell (p := ad.add i) (by rw [block_of_add]; exact hbk), ← hB2.cell (p := ad.add i) (by rw [block_of_add]; exact hbk)] at hcell2
                       rw [show [Value.int .u8 0] = u8s [0] from rfl, ← u8s_append, ← packF_more _ _ (by rw [List.length_take]; have := need_le i; omega), ← need_zero i H8.out] at hown2
                       obtain ⟨g, x, rfl, hf, hg, hg2', hx1, hx2, hc1', hf1, hst, hsf⟩ := pack_facts xs i _ hb' hown2
                       have hx0 : x = 0 := by rw [H8.out] at hx1; omega
                       subst hx0
                       rw [need_zero i H8.out] at *
                       clear hb2 hcell hB hown hx1 hx2)
        · go_roundw
          case rel =>
            refine ⟨i + 1, 2, some ⟨g, 0, none⟩, c2, by omega, by go_num, rfl, by omega, ?_, by rw [need_zero i H8.out], ?_, hB2⟩
            · intro _
              rw [show (i + 1) % 8 = 1 by have := H8.out; omega]
            · rw [need_zero i H8.out, hsf rfl]; exact hown2
          case measure => simp [intOf]; omega
        · go_roundw
          case rel =>
            refine ⟨i + 1, 2, some ⟨g, 0, none⟩, c2, by omega, by go_num, rfl, by omega, ?_, by rw [need_zero i H8.out], ?_, bset (p := ⟨g, i / 8, none⟩) hB2 hg _⟩
            · intro _
              rw [show (i + 1) % 8 = 1 by have := H8.out; omega]
            · rw [need_zero i H8.out]
              have := hst rfl
              rw [H8.out] at this
              exact this
          case measure => simp [intOf]; omega
      · have ht : (((i : Int) % 8) == 0) = false := by simp; omega
        rw [← need_same i h8] at hown ⊢
        obtain ⟨g, x, rfl, hf, hg, hg2', hx1, hx2, hc1', hf1, hst, hsf⟩ := pack_facts xs i _ hb' hown
        have hpp := Hp.out h8
        have H8 := Lib.hid h8
        have Hpp := Lib.hid hpp
        have Hx1 := Lib.hid hx1
        have hp128 : p ≤ 128 := by rw [hpp]; exact pow8_le i
        have hxp : x + p < 256 := by omega
        clear h8 hpp hx1
        have hpn : (i + 1) % 8 ≠ 0 → p * 2 % 256 = 2 ^ ((i + 1) % 8) := fun h => by
          rw [← pow8_next i h, ← Hpp.out]
          have := pow8_le (i + 1)
          rw [← pow8_next i h, ← Hpp.out] at this
          omega
        have Hpn := Lib.hid hpn
        clear hpn
        cases b
        · go_wp2
          go_roundw
          case rel => exact ⟨i + 1, p * 2 % 256, some ⟨g, 0, none⟩, c1, by omega, by go_num, by go_num, by omega, Hpn.out, rfl, by rw [hsf rfl]; exact hown, hB⟩
          case measure => simp [intOf]; omega
        · go_wp2
          go_roundw
          case rel =>
            refine ⟨i + 1, p * 2 % 256, some ⟨g, 0, none⟩, c1, by omega, by go_num, by go_num, by omega, Hpn.out, rfl, ?_, bset (p := ⟨g, i / 8, none⟩) hB hg _⟩
            have := hst rfl
            rw [← Hpp.out] at this
            exact this
          case measure => simp [intOf]; omega
    · go_wp2
      go_ret
      have hil : xs.take i = xs := List.take_of_length_le (by rw [Hlen.out]; omega)
      have hie : i = l := by omega
      have hpl : (packL xs).length = need i := by rw [packL_length, Hlen.out, hie]
      have hpe : packF (need i) xs = packL xs := by rw [packL, Hlen.out, hie]
      rw [hil, hpe] at hown
      rw [hpl]
      obtain ⟨A', c', hv, h1, h2⟩ := own_shape hown
      injection hv with hA hn hc'
      subst hA hc'
      exact ⟨A1, c1, rfl, h1, h2, hown, hB⟩
end Go.Proofs.Ytbcfdlhhmifneaa
