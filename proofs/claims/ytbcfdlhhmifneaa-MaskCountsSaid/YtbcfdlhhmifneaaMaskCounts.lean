/- The law MaskCounts, walked. -/
import Derived.Test.YtbcfdlhhmifneaaMaskLaw
import Derived.Test.YtbcfdlhhmifneaaMaskFlip
set_option linter.unusedVariables false
set_option linter.unusedSimpArgs false
namespace Go.Proofs.Ytbcfdlhhmifneaa
open Go.RowKit

theorem bit_int (b k : Nat) (hb : b < 256) : bits .and .u8 ((b : Int) / 2 ^ k) 1 = (((if (b / 2 ^ k % 2 == 1) then 1 else 0 : Nat)) : Int) := by
  have e : ((b : Int) / 2 ^ k) = ((b / 2 ^ k : Nat) : Int) := by rw [Int.natCast_ediv, Int.natCast_pow]; rfl
  have hle : b / 2 ^ k ≤ b := Nat.div_le_self _ _
  rw [e, show (1 : Int) = ((1 : Nat) : Int) from rfl, u8_and_nat _ _ (by omega) (by omega), nat_mask1]
  split <;> simp_all <;> omega
theorem wrap_add (m x : Nat) (h : m + x < 4611686018427387904) : wrap64 ((m : Int) + wrap64 (x : Int)) = ((m + x : Nat) : Int) := by
  unfold wrap64; omega
theorem count_next (ps : List UInt8) (i : Nat) (b : UInt8) (h : ps[i / 8]? = some b) :
    ∃ x : Nat, bits .and .u8 ((b.toNat : Int) / 2 ^ (i % 8)) 1 = (x : Int) ∧ x ≤ 1 ∧ countL ((allBits ps).take (i + 1)) = countL ((allBits ps).take i) + x := by
  refine ⟨_, bit_int b.toNat (i % 8) b.toNat_lt, by split <;> omega, ?_⟩
  have := allBits_get ps (i / 8) (i % 8) b h (by omega)
  rw [show 8 * (i / 8) + i % 8 = i by omega] at this
  exact count_step _ _ _ this
theorem reads_far' {w : World} {g n : Nat} {xs : List Value} (h : Reads w w.heap.size 1 (some ⟨g, 0, none⟩) n xs) {p : Addr} (hne : g ≠ p.block) (u : Value) :
    Reads (w.setCell p u) (w.setCell p u).heap.size 1 (some ⟨g, 0, none⟩) n xs := by
  refine ⟨h.1, fun hn => ?_⟩
  obtain ⟨ad, e, hb, hc⟩ := h.2 hn
  obtain rfl := Option.some.inj e
  refine ⟨_, rfl, by simpa [World.setCell] using hb, fun j u' hu => ?_⟩
  rw [← hc j u' hu]
  refine World.cell?_setCell_other w p _ u (fun e => ?_)
  have := congrArg Addr.block e
  simp only [block_of_add] at this
  omega
theorem add_row (g i : Nat) : (⟨g, 0, none⟩ : Addr).add i = ⟨g, i, none⟩ := by unfold Addr.add; split <;> simp_all
theorem bls_set (l : List Bool) (i : Nat) (c : Bool) : (bls l).set i (.bool c) = bls (l.set i c) := by
  simp [bls, List.map_set]
set_option maxRecDepth 100000 in
set_option maxHeartbeats 2000000 in
theorem maskCounts_any (A : Option Addr) (l c : Nat) (n : Int) (xs : List Bool) (w : World) (hr : Reads w w.heap.size 1 A l (bls xs)) (hl : l ≤ c) (hc : c ≤ maxLen) (h1 : -9223372036854775808 ≤ n) (h2 : n ≤ 9223372036854775807) :
    Calls Try.prog 8 #[.slice A l c, .int .i64 n] w fun e w' => e = .returned (.bool true) ∧ Below w.heap.size w w' := by
  have H1 := Lib.hid h1
  have H2 := Lib.hid h2
  clear h1 h2
  have hle := cut300_le xs
  have hB := Below.refl w.heap.size w
  go_enter Try.func8, Try.ntmps8
  go_wp2_with fail
  with_reducible refine (cutb_any A l c xs _ hr hl hc).mono ?_
  rintro e w1 ⟨A1, c1, rfl, hc1, hd1, o1, hb⟩
  clear hr
  replace hB := bon hB hb
  have hw1 := hb.size
  clear hb
  generalize cut300 xs = ys at o1 hc1 hle ⊢
  obtain ⟨L, hL⟩ : ∃ L, ys.length = L := ⟨_, rfl⟩
  rw [hL] at o1 hc1 hle ⊢
  have HL := Lib.hid hL
  clear hL
  go_wp2_with fail
  with_reducible refine (mpack_any A1 _ c1 ys _ (own_reads o1) hc1 hd1 (by omega)).mono ?_
  rintro e w2 ⟨A2, c2, rfl, hc2, hd2, o2, hb⟩
  have o1g : ∀ g, A1 = some ⟨g, 0, none⟩ → 0 < L → g < w1.heap.size := fun g e h => by
    obtain ⟨g', e', -, hl', -⟩ := own_at o1 h
    rw [e] at e'
    cases e'
    exact hl'
  have O1g := Lib.hid o1g
  clear o1g
  replace o1 := own_below o1 hb
  replace hB := bon hB hb
  have hcl := countL_all ys
  have hN : (packL ys).length = need L := by rw [packL_length, HL.out]
  have hfl := fun t b h j hj => packL_flip ys t b h j hj
  have hNb : need L ≤ 40 := by unfold need; omega
  have hLN : L ≤ 8 * need L := by unfold need; omega
  have hcle : countL ys ≤ 300 := by have := countL_le ys; have := HL.out; omega
  generalize hps : packL ys = ps at o2 hc2 hcl hN hfl ⊢
  rw [hN] at o2 hc2 ⊢
  have HN := Lib.hid hN
  have Hcl := Lib.hid hcl
  have Hfl := Lib.hid hfl
  have Hps := Lib.hid hps
  clear hN hcl hfl hps
  rw [HL.out] at Hfl
  generalize hNN : need L = N at o2 hc2 hNb HN hLN Hfl ⊢
  have HNN := Lib.hid hNN
  clear hNN
  have r2 := own_reads o2
  have hb12 := hb
  clear hb
  have hB2 := hB
  go_wp2
  go_loopw [7, 8] (fun a v wr => ∃ (i m : Nat), i ≤ 8 * N ∧ m ≤ i ∧ a = .int .i64 (m : Int) ∧ v = .int .i64 (i : Int) ∧ Hid (m = countL ((allBits ps).take i)) ∧ wr = w2) (fun _ v _ => 8 * N - (intOf v).toNat)
  case atStart => exact ⟨0, 0, Nat.zero_le _, Nat.le_refl _, rfl, rfl, by show 0 = _; simp [countL], rfl⟩
  case round =>
    obtain ⟨i, m, hi, hm, rfl, rfl, Hm, rfl⟩ := hrel
    by_cases hlt : i < 8 * N
    · have hq : i / 8 < N := by omega
      obtain ⟨ad, v, rfl, hbk, hx, hcell⟩ := r2.at_ (k := i / 8) hq
      obtain ⟨b, hb', rfl⟩ := u8s_get _ _ _ hx
      obtain ⟨x, hv, hx1, hcn⟩ := count_next ps i b hb'
      have Hcn := Lib.hid hcn
      have Hv := Lib.hid hv
      clear hx hb' hcn hv
      have db : decide ((i : Int) < 8 * (N : Int)) = true := by simp; omega
      go_wp2
      rw [Hv.out]
      go_roundw
      case rel => exact ⟨i + 1, m + x, by omega, by omega, by rw [wrap_add m x (by omega)], by go_num, by show m + x = _; rw [Hcn.out, ← Hm.out], trivial⟩
      case measure => simp [intOf]; omega
    · have db : decide ((i : Int) < 8 * (N : Int)) = false := by simp; omega
      obtain rfl : i = 8 * N := by omega
      have hmc : m = countL ys := by
        rw [Hm.out, ← Hcl.out, List.take_of_length_le (by rw [allBits_length, HN.out]; omega)]
      subst hmc
      go_wp2_with fail
      with_reducible refine (mcount_any _ _ _ _ _ (own_reads o1) hc1 hd1).mono ?_
      rintro e w' ⟨rfl, rfl⟩
      by_cases h0 : L = 0
      · subst h0
        go_wp2_with fail
        with_reducible refine (mworks_any _).mono ?_
        rintro e w3 ⟨rfl, hb⟩
        go_wp2
        go_ret
        exact ⟨rfl, bon hB hb⟩
      · have hL0 : 0 < L := by omega
        have dL : ((L : Int) == 0) = false := by simp; omega
        go_wp2_with fail
        with_reducible refine (bring_any n (L : Int) _ H1.out H2.out (by omega) (by omega)).mono ?_
        rintro e w' ⟨rfl, rfl⟩
        obtain ⟨t, ht, htL⟩ : ∃ t : Nat, n % (L : Int) = (t : Int) ∧ t < L := ⟨(n % (L : Int)).toNat, by have := Int.emod_nonneg n (by omega : (L : Int) ≠ 0); omega, by have := Int.emod_nonneg n (by omega : (L : Int) ≠ 0); have := Int.emod_lt_of_pos n (by omega : (0 : Int) < L); omega⟩
        rw [ht]
        clear ht
        obtain ⟨g, rfl, hg, hgl, hcells, hfz⟩ := own_at o1 hL0
        have hgw := O1g.out g rfl hL0
        obtain ⟨g2, rfl, hg2, -, -, -⟩ := own_at o2 (by omega)
        have hyl := HL.out
        have hyt : ys[t]? = some (ys[t]'(by omega)) := List.getElem?_eq_getElem (by omega)
        generalize ys[t]'(by omega) = b at hyt
        have hcell := hcells t (.bool b) (by simp [bls, hyt])
        have hf := hfz t
        have Hq := Lib.hid (Hfl.out t b hyt)
        have o1s := own_set o1 t htL (.bool (!b))
        rw [bls_set] at o1s
        have r2s := reads_far' r2 (p := ⟨g, t, none⟩) (show g2 ≠ g by omega) (.bool (!b))
        have hBs := bset (p := ⟨g, t, none⟩) hB hg (.bool (!b))
        have hqN : (packL (ys.set t (!b))).length = N := by rw [packL_length, List.length_set, hyl, HNN.out]
        have HqN := Lib.hid hqN
        clear hqN hyt hcells hfz hyl r2 hg2
        go_wp2_with fail
        with_reducible refine (mpack_any _ _ c1 (ys.set t (!b)) _ (own_reads o1s) hc1 hd1 (by omega)).mono ?_
        rintro e w3 ⟨A3, c3, rfl, hc3, hd3, o3, hb⟩
        have r2 := r2s.on hb
        replace hBs := bon hBs hb
        clear hb r2s o1s
        have r3 := own_reads o3
        rw [HqN.out] at r3 hc3 ⊢
        obtain ⟨g3, rfl, -, -, -, -⟩ := own_at o3 (by rw [HqN.out]; omega)
        clear o3 o1 o2
        generalize packL (ys.set t (!b)) = qs at r3 Hq
        go_wp2
        go_loopw [10, 11] (fun v _ wr => ∃ i : Nat, i ≤ N ∧ v = .int .i64 (i : Int) ∧ Below w3.heap.size w3 wr) (fun v _ _ => N - (intOf v).toNat)
        case atStart => exact ⟨0, Nat.zero_le _, rfl, Below.refl _ _⟩
        case round =>
          obtain ⟨i, hi, rfl, hb0⟩ := hrel
          by_cases hlt : i < N
          · have dN : decide ((i : Int) < (N : Int)) = true := by simp; omega
            have p2 := r2.on hb0
            have p3 := r3.on hb0
            obtain ⟨ad, v, e2, hbk, hx, hcell2⟩ := p2.at_ hlt
            obtain ⟨ad3, v3, e3, hbk3, hx3, hcell3⟩ := p3.at_ hlt
            obtain rfl := Option.some.inj e2
            obtain rfl := Option.some.inj e3
            rw [add_row] at hcell2 hcell3
            clear e2 e3 hbk hbk3 p2 p3
            obtain ⟨x, y, hpx, hqy, hxy⟩ := Hq.out i hlt
            obtain ⟨x', hx', rfl⟩ := u8s_get _ _ _ hx
            obtain ⟨y', hy', rfl⟩ := u8s_get _ _ _ hx3
            obtain rfl : x = x' := by rw [hpx] at hx'; exact Option.some.inj hx'
            obtain rfl : y = y' := by rw [hqy] at hy'; exact Option.some.inj hy'
            have hv : bits .xor .u8 (x.toNat : Int) (y.toNat : Int) = ((if i = t / 8 then 2 ^ (t % 8) else 0 : Nat) : Int) := by
              rw [u8_xor_nat _ _ x.toNat_lt y.toNat_lt, hxy]
            clear hpx hqy hxy hx' hy' hx hx3
            by_cases hit : i = t / 8
            · have dt : ((i : Int) == (t : Int) / 8) = true := by simp; omega
              have hne : (bits .xor .u8 (x.toNat : Int) (y.toNat : Int) != (2 : Int) ^ (t % 8) % 256) = false := by
                rw [hv, if_pos hit]
                have h2 : (2 : Nat) ^ (t % 8) ≤ 2 ^ 7 := Nat.pow_le_pow_right (by omega) (by omega)
                have e : ((2 : Int) ^ (t % 8)) = ((2 ^ (t % 8) : Nat) : Int) := by rw [Int.natCast_pow]; rfl
                rw [e]
                generalize 2 ^ (t % 8) = q at h2 ⊢
                simp
                omega
              clear hv hit
              go_wp2
              go_region
              go_wp2
              go_roundw
              case rel => exact ⟨i + 1, by omega, by go_num, hb0.drew⟩
              case measure => simp [intOf]; omega
            · have dt : ((i : Int) == (t : Int) / 8) = false := by simp; omega
              have hne : (bits .xor .u8 (x.toNat : Int) (y.toNat : Int) != 0) = false := by
                rw [hv, if_neg hit]
                rfl
              clear hv hit
              go_wp2
              go_region
              go_wp2
              go_roundw
              case rel => exact ⟨i + 1, by omega, by go_num, hb0.drew⟩
              case measure => simp [intOf]; omega
          · have dN : decide ((i : Int) < (N : Int)) = false := by simp; omega
            go_wp2_with fail
            with_reducible refine (mworks_any _).mono ?_
            rintro e w4 ⟨rfl, hb⟩
            go_wp2
            go_ret
            exact ⟨rfl, bon hBs (bon hb0 hb)⟩
end Go.Proofs.Ytbcfdlhhmifneaa
