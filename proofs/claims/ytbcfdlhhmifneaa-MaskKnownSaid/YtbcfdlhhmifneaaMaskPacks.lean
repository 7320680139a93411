/- The law MaskPacks, walked. -/
import Derived.Test.YtbcfdlhhmifneaaMaskLaw
set_option linter.unusedVariables false
set_option linter.unusedSimpArgs false
namespace Go.Proofs.Ytbcfdlhhmifneaa
open Go.RowKit
theorem flip_byte (b : UInt8) : ∃ b' : UInt8, bits BinOp.xor IntKind.u8 (if IntKind.u8.signed = true then -1 else IntKind.u8.max) (b.toNat : Int) = (b'.toNat : Int) := by
  have h : b.toNat < 256 := b.toNat_lt
  have e : (if IntKind.u8.signed = true then (-1 : Int) else IntKind.u8.max) = ((255 : Nat) : Int) := by decide
  refine ⟨UInt8.ofNat (255 ^^^ b.toNat), ?_⟩
  have hx : 255 ^^^ b.toNat < 2 ^ 8 := Nat.xor_lt_two_pow (by omega) (by omega)
  rw [e, u8_xor_nat _ _ (by omega) h, ofNat_toNat' _ (by omega)]
set_option maxRecDepth 100000 in
set_option maxHeartbeats 2000000 in
theorem maskPacks_any (A : Option Addr) (l c : Nat) (n : Int) (xs : List Bool) (w : World) (hr : Reads w w.heap.size 1 A l (bls xs)) (hl : l ≤ c) (hc : c ≤ maxLen) (h1 : -9223372036854775808 ≤ n) (h2 : n ≤ 9223372036854775807) :
    Calls Try.prog 3 #[.slice A l c, .int .i64 n] w fun e w' => e = .returned (.bool true) ∧ Below w.heap.size w w' := by
  have H1 := Lib.hid h1
  have H2 := Lib.hid h2
  clear h1 h2
  have hle := cut300_le xs
  have hB := Below.refl w.heap.size w
  go_enter Try.func3, Try.ntmps3
  go_wp2_with fail
  with_reducible refine (cutb_any A l c xs _ hr hl hc).mono ?_
  rintro e w1 ⟨A1, c1, rfl, hc1, hd1, o1, hb⟩
  replace hr := hr.on hb
  replace hB := bon hB hb
  have r1 := own_reads o1
  clear hb
  have hr1 := hr
  have rin := r1
  have hB1 := hB
  have hb0 := Below.refl w1.heap.size w1
  go_wp2_with fail
  with_reducible refine (mpack_any A1 _ c1 _ _ r1 hc1 hd1 (by omega)).mono ?_
  rintro e w2 ⟨A2, c2, rfl, hc2, hd2, o2, hb⟩
  replace hr := hr.on hb
  replace r1 := r1.on hb
  replace hb0 := bon hb0 hb
  have r2 := own_reads o2
  clear hb
  go_wp2_with fail
  with_reducible refine (refmpack_any A1 _ c1 _ _ r1 hc1 hd1 (by omega)).mono ?_
  rintro e w3 ⟨A3, c3, rfl, hc3, hd3, o3, hb⟩
  replace r2 := r2.on hb
  have o2' := own_below o2 hb
  replace hb0 := bon hb0 hb
  clear hb
  go_wp2_with fail
  with_reducible refine (eq_yes _ _ _ _ _ _ _ _ _ r2 (own_reads o3) rfl).mono ?_
  rintro e w' ⟨rfl, rfl⟩
  have hpl := packL_length (cut300 xs)
  have hN : (packL (cut300 xs)).length ≤ 300 := by rw [hpl]; unfold need; omega
  clear hr r1 r2 o3 o2 hpl
  generalize packL (cut300 xs) = ys at o2' hN hc2 ⊢
  obtain ⟨N, hNe⟩ : ∃ N, ys.length = N := ⟨_, rfl⟩
  rw [hNe] at o2' hN hc2 ⊢
  clear hNe
  unfold maxLen at hd2
  go_wp2
  go_loopw [8] (fun v wr => ∃ (i : Nat) (zs : List UInt8), i ≤ N ∧ v = .int .i64 (i : Int) ∧ wr.ownsRow w1.heap.size 5 1 (.slice A2 N c2) N (u8s zs) ∧ Below w1.heap.size w1 wr) (fun v _ => N - (intOf v).toNat)
  case atStart => exact ⟨0, ys, Nat.zero_le _, rfl, o2', hb0⟩
  case round =>
    clear o2' hb0
    obtain ⟨i, zs, hi, rfl, hown, hb0⟩ := hrel
    by_cases hlt : i < N
    · obtain ⟨g, rfl, hg, hgl, hcells, hfz⟩ := own_at hown (by omega)
      have hzl : zs.length = N := by have := hown.1; simpa using this
      have hz : (u8s zs)[i]? = some (.int .u8 ((zs[i]'(by omega)).toNat : Int)) := by simp [u8s, List.getElem?_eq_getElem (show i < zs.length by omega)]
      have hcell := hcells i _ hz
      have hf := hfz i
      generalize zs[i]'(by omega) = b at hcell
      have Hzl := Lib.hid hzl
      clear hcells hfz hz hzl
      have hb256 : b.toNat < 256 := b.toNat_lt
      go_wp2
      obtain ⟨b', hv⟩ := flip_byte b
      rw [hv]
      go_roundw
      case rel => exact ⟨i + 1, zs.set i b', by omega, by go_num, by rw [← u8s_set]; exact own_set hown i hlt _, bset (p := ⟨g, i, none⟩) hb0 hg _⟩
      case measure => simp [intOf]; omega
    · have hr := hr1.on hb0
      have r1 := rin.on hb0
      have hB := bon hB1 hb0
      go_wp2_with fail
      with_reducible refine (cutb_any A l c xs _ hr hl hc).mono ?_
      rintro e w4 ⟨A4, c4, rfl, hc4, hd4, o4, hb⟩
      replace hr := hr.on hb
      replace r1 := r1.on hb
      replace hB := bon hB hb
      have r4 := own_reads o4
      clear hb
      go_wp2_with fail
      with_reducible refine (same_yes _ _ _ _ _ _ _ _ _ r1 r4 hc1 hd1 hc4 hd4 rfl).mono ?_
      rintro e w5 ⟨rfl, hb⟩
      replace hr := hr.on hb
      replace r1 := r1.on hb
      replace r4 := r4.on hb
      replace hB := bon hB hb
      clear hb
      go_wp2_with fail
      with_reducible refine (mcount_any _ _ _ _ _ r1 hc1 hd1).mono ?_
      rintro e w' ⟨rfl, rfl⟩
      go_wp2_with fail
      with_reducible refine (refmcount_any _ _ _ _ _ r1 hc1 hd1).mono ?_
      rintro e w' ⟨rfl, rfl⟩
      go_wp2_with fail
      with_reducible refine (msize_any n _ H1.out H2.out).mono ?_
      rintro e w' ⟨rfl, rfl⟩
      go_wp2_with fail
      with_reducible refine (refmsize_any n _ H1.out H2.out).mono ?_
      rintro e w' ⟨rfl, rfl⟩
      go_wp2_with fail
      with_reducible refine (mworks_any _).mono ?_
      rintro e w6 ⟨rfl, hb⟩
      replace hr := hr.on hb
      replace r1 := r1.on hb
      replace r4 := r4.on hb
      replace hB := bon hB hb
      clear hb
      go_wp2
      go_ret
      exact ⟨rfl, hB⟩
end Go.Proofs.Ytbcfdlhhmifneaa
