/- The law MaskKnown, walked. -/
import Derived.Test.YtbcfdlhhmifneaaMaskReads
import Derived.Test.YtbcfdlhhmifneaaMaskOnly
import Derived.Test.YtbcfdlhhmifneaaMaskPacks
set_option linter.unusedVariables false
set_option linter.unusedSimpArgs false
namespace Go.Proofs.Ytbcfdlhhmifneaa
open Go.RowKit

def ends : List Int := [-9223372036854775808, -8, -1, 0, 1, 7, 8, 9, 1048575, 1048576, 1048577, 9223372036854775800, 9223372036854775807]
theorem ends_ok : ∀ z ∈ ends, -9223372036854775808 ≤ z ∧ z ≤ 9223372036854775807 := by decide
theorem ends_at {w : World} {B : Nat} {g : Nat} {i : Nat} (h : Reads w B 1 (some ⟨g, 0, none⟩) 13 (ends.map (.int .i64))) (hi : i < 13) :
    ∃ z : Int, w.cell? ⟨g, i, none⟩ = some (.int .i64 z) ∧ -9223372036854775808 ≤ z ∧ z ≤ 9223372036854775807 := by
  obtain ⟨ad, e, _, hc⟩ := h.2 (by omega)
  obtain rfl := Option.some.inj e
  have hl : i < ends.length := hi
  have := hc i (.int .i64 (ends[i])) (by rw [List.getElem?_map, List.getElem?_eq_getElem hl]; rfl)
  have hb := ends_ok _ (List.getElem_mem hl)
  have hadd : (⟨g, 0, none⟩ : Addr).add i = ⟨g, i, none⟩ := by unfold Addr.add; split <;> simp_all
  rw [hadd] at this
  exact ⟨_, this, hb.1, hb.2⟩
set_option maxRecDepth 100000 in
set_option maxHeartbeats 2000000 in
theorem maskKnown_any (w : World) :
    Calls Try.prog 9 #[] w fun e w' => e = .returned (.bool true) ∧ Below w.heap.size w w' := by
  have hB := Below.refl w.heap.size w
  go_enter Try.func9, Try.ntmps9
  go_wp2
  go_loopw [1, 2] (fun i _ wr => ∃ j : Nat, j ≤ 256 ∧ i = .int .i64 (j : Int) ∧ Below w.heap.size w wr) (fun i _ _ => 256 - (intOf i).toNat)
  case atStart => exact ⟨0, by omega, rfl, Below.refl _ _⟩
  case round =>
    obtain ⟨j, hj, rfl, hB1⟩ := hrel
    by_cases hlt : j < 256
    · have dj : decide ((j : Int) < 256) = true := by simp; omega
      go_wp2
      go_loopw [2] (fun i wr => ∃ k : Nat, k ≤ 11 ∧ i = .int .i64 ((k : Int) - 1) ∧ Below w.heap.size w wr) (fun i _ => 11 - (intOf i + 1).toNat)
      case atStart => exact ⟨0, by omega, rfl, hB1⟩
      case round =>
        clear hB1
        obtain ⟨k, hk, rfl, hB1⟩ := hrel
        by_cases hlt2 : k < 11
        · have db : decide ((k : Int) - 1 < 10) = true := by simp; omega
          go_wp2_with fail
          refine (maskReads_any _ 1 1 ((k : Int) - 1) [UInt8.ofNat j] _ (by exact reads_lit _ _ _ _ _ _ (by simp) (by simp [u8s, ofNat_toNat' j (by omega)]) rfl) (by decide) (by simp [maxLen]) (by omega) (by omega)).mono ?_
          rintro e w1 ⟨rfl, hb⟩
          replace hB1 := bon (bal hB1 _) hb
          clear hb
          go_wp2_with fail
          refine (maskOnly_any _ 1 1 ((k : Int) - 1) [UInt8.ofNat j] _ (by exact reads_lit _ _ _ _ _ _ (by simp) (by simp [u8s, ofNat_toNat' j (by omega)]) rfl) (by decide) (by simp [maxLen]) (by omega) (by omega)).mono ?_
          rintro e w2 ⟨rfl, hb⟩
          replace hB1 := bon (bal hB1 _) hb
          clear hb
          go_wp2
          go_roundw
          case rel => exact ⟨k + 1, by omega, by go_num, hB1⟩
          case measure => simp [intOf]; omega
        · have db : decide ((k : Int) - 1 < 10) = false := by simp; omega
          go_wp2
          go_roundw
          case rel => exact ⟨j + 1, by omega, by go_num, hB1⟩
          case measure => simp [intOf]; omega
    · have dj : decide ((j : Int) < 256) = false := by simp; omega
      go_wp2
      have rE := reads_lit wr #[.int .i64 (-9223372036854775808), .int .i64 (-8), .int .i64 (-1), .int .i64 0, .int .i64 1, .int .i64 7, .int .i64 8, .int .i64 9, .int .i64 1048575, .int .i64 1048576, .int .i64 1048577, .int .i64 9223372036854775800, .int .i64 9223372036854775807] 3 (ends.map (.int .i64)) wr.heap.size 13 rfl rfl rfl
      replace hB1 := bal hB1 (.cells #[.int .i64 (-9223372036854775808), .int .i64 (-8), .int .i64 (-1), .int .i64 0, .int .i64 1, .int .i64 7, .int .i64 8, .int .i64 9, .int .i64 1048575, .int .i64 1048576, .int .i64 1048577, .int .i64 9223372036854775800, .int .i64 9223372036854775807] 3)
      have hg : wr.heap.size < (wr.alloc (.cells #[.int .i64 (-9223372036854775808), .int .i64 (-8), .int .i64 (-1), .int .i64 0, .int .i64 1, .int .i64 7, .int .i64 8, .int .i64 9, .int .i64 1048575, .int .i64 1048576, .int .i64 1048577, .int .i64 9223372036854775800, .int .i64 9223372036854775807] 3)).heap.size := by simp
      generalize wr.alloc (.cells #[.int .i64 (-9223372036854775808), .int .i64 (-8), .int .i64 (-1), .int .i64 0, .int .i64 1, .int .i64 7, .int .i64 8, .int .i64 9, .int .i64 1048575, .int .i64 1048576, .int .i64 1048577, .int .i64 9223372036854775800, .int .i64 9223372036854775807] 3) = wn at rE hB1 hg ⊢
      generalize wr.heap.size = g at rE hg ⊢
      go_loopw [4] (fun i wr => ∃ j : Nat, j ≤ 13 ∧ i = .int .i64 (j : Int) ∧ Below wn.heap.size wn wr) (fun i _ => 13 - (intOf i).toNat)
      case atStart => exact ⟨0, by omega, rfl, Below.refl _ _⟩
      case round =>
        obtain ⟨i, hi, rfl, hb0⟩ := hrel
        by_cases hlt2 : i < 13
        · have db : decide ((i : Int) < 13) = true := by simp; omega
          obtain ⟨z, hcell, hz1, hz2⟩ := ends_at (rE.on hb0) hlt2
          have Z1 := Lib.hid hz1
          have Z2 := Lib.hid hz2
          clear hz1 hz2
          go_wp2_with fail
          refine (maskPacks_any none 0 0 z [] _ (by exact Reads.none_) (by decide) (by simp [maxLen]) Z1.out Z2.out).mono ?_
          rintro e w1 ⟨rfl, hb⟩
          replace hb0 := bon hb0 hb
          clear hb hcell
          obtain ⟨z', hcell, hz1, hz2⟩ := ends_at ((rE.on hb0).al (.cells #[.int .u8 1, .int .u8 2, .int .u8 3] 5)) hlt2
          have Z3 := Lib.hid hz1
          have Z4 := Lib.hid hz2
          clear hz1 hz2
          go_wp2_with fail
          refine (maskReads_any _ 3 3 z' [1, 2, 3] _ (by exact reads_lit _ _ _ _ _ _ (by simp) (by simp [u8s]) rfl) (by decide) (by simp [maxLen]) Z3.out Z4.out).mono ?_
          rintro e w2 ⟨rfl, hb⟩
          replace hb0 := bon (bal hb0 _) hb
          clear hb hcell
          go_wp2
          go_roundw
          case rel => exact ⟨i + 1, by omega, by go_num, hb0⟩
          case measure => simp [intOf]; omega
        · have db : decide ((i : Int) < 13) = false := by simp; omega
          go_wp2_with fail
          with_reducible refine (mworks_any _).mono ?_
          rintro e w3 ⟨rfl, hb⟩
          go_wp2
          go_ret
          exact ⟨rfl, bon hB1 (bon hb0 hb)⟩
end Go.Proofs.Ytbcfdlhhmifneaa
