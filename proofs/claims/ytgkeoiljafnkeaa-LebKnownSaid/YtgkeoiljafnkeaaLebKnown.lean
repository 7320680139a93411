/- The law LebKnown, walked. -/
import Derived.Test.YtgkeoiljafnkeaaLebWrites
import Derived.Test.YtgkeoiljafnkeaaLebReads
import Derived.Test.YtgkeoiljafnkeaaLebBack
set_option linter.unusedVariables false
set_option linter.unusedSimpArgs false
namespace Go.Proofs.Ytgkeoiljafnkeaa
open Go.RowKit

theorem lebReads_lit (w : World) (A : Option Addr) (l c : Nat) (xs : List UInt8) (hr : Reads w w.heap.size 1 A l (u8s xs)) (hl : l ≤ c) (hc : c ≤ 60) :
    Calls Try.prog 4 #[.slice A l c] w fun e w' => e = .returned (.bool true) ∧ Below w.heap.size w w' :=
  lebReads_any A l c xs w hr hl (by simp only [maxLen]; omega)

theorem wrap_nat (x : Int) : ∃ n : Nat, IntKind.u64.wrap x = (n : Int) ∧ n < 18446744073709551616 := by
  rw [IntKind.wrap_u64]
  exact ⟨(x % 18446744073709551616).toNat, by omega, by omega⟩
theorem wrap64_bounds (x : Int) : -9223372036854775808 ≤ wrap64 x ∧ wrap64 x ≤ 9223372036854775807 := by
  unfold wrap64; omega
set_option maxRecDepth 100000 in
set_option maxHeartbeats 2000000 in
theorem lebKnown_any (w : World) :
    Calls Try.prog 10 #[] w fun e w' => e = .returned (.bool true) ∧ Below w.heap.size w w' := by
  have hB := Below.refl w.heap.size w
  go_enter Try.func10, Try.ntmps10
  go_wp2
  go_loopw [1, 2] (fun i _ wr => ∃ j : Nat, j ≤ 256 ∧ i = .int .i64 (j : Int) ∧ Below w.heap.size w wr) (fun i _ _ => 256 - (intOf i).toNat)
  case atStart => exact ⟨0, by omega, rfl, Below.refl _ _⟩
  case round =>
    obtain ⟨j, hj, rfl, hB1⟩ := hrel
    by_cases hlt : j < 256
    · skip
      go_wp2_with fail
      refine (lebReads_lit _ _ _ _ [UInt8.ofNat j] (by exact reads_lit _ _ _ _ _ _ (by simp) (by simp [u8s, ofNat_toNat j (by omega)]) rfl) (by decide) (by decide)).mono ?_
      rintro e w1 ⟨rfl, hb⟩
      replace hB1 := bon (bal hB1 _) hb
      clear hb
      go_wp2_with fail
      refine (lebReads_lit _ _ _ _ [255, 255, 255, 255, 255, 255, 255, 255, 255, UInt8.ofNat j] (by exact reads_lit _ _ _ _ _ _ (by simp) (by simp [u8s, ofNat_toNat j (by omega)]) rfl) (by decide) (by decide)).mono ?_
      rintro e w2 ⟨rfl, hb⟩
      replace hB1 := bon (bal hB1 _) hb
      clear hb
      go_wp2_with fail
      refine (lebReads_lit _ _ _ _ [128, 128, 128, 128, 128, 128, 128, 128, UInt8.ofNat j, 1] (by exact reads_lit _ _ _ _ _ _ (by simp) (by simp [u8s, ofNat_toNat j (by omega)]) rfl) (by decide) (by decide)).mono ?_
      rintro e w3 ⟨rfl, hb⟩
      replace hB1 := bon (bal hB1 _) hb
      clear hb
      go_wp2_with fail
      refine (lebReads_lit _ _ _ _ [255, 255, 255, 255, 255, 255, 255, 255, UInt8.ofNat j] (by exact reads_lit _ _ _ _ _ _ (by simp) (by simp [u8s, ofNat_toNat j (by omega)]) rfl) (by decide) (by decide)).mono ?_
      rintro e w4 ⟨rfl, hb⟩
      replace hB1 := bon (bal hB1 _) hb
      clear hb
      go_wp2
      go_loopw [2] (fun i wr => ∃ k : Nat, k ≤ 258 ∧ i = .int .i64 (k : Int) ∧ Below w.heap.size w wr) (fun i _ => 300 - (intOf i).toNat)
      case atStart => exact ⟨0, by omega, rfl, hB1⟩
      case round =>
        clear hB1
        obtain ⟨k, hk, rfl, hB1⟩ := hrel
        by_cases hlt2 : k < 256
        · skip
          go_wp2_with fail
          refine (lebReads_lit _ _ _ _ [UInt8.ofNat j, UInt8.ofNat k] (by exact reads_lit _ _ _ _ _ _ (by simp) (by simp [u8s, ofNat_toNat j (by omega), ofNat_toNat k (by omega)]) rfl) (by decide) (by decide)).mono ?_
          rintro e w5 ⟨rfl, hb⟩
          replace hB1 := bon (bal hB1 _) hb
          clear hb
          go_wp2
          go_roundw
          case rel => exact ⟨k + 3, by omega, by go_num, hB1⟩
          case measure => simp [intOf]; omega
        · go_wp2
          go_roundw
          case rel => exact ⟨j + 1, by omega, by go_num, hB1⟩
          case measure => simp [intOf]; omega
    · go_wp2
      go_loopw [3, 4, 5] (fun i _ _ wr => ∃ j : Nat, j ≤ 64 ∧ i = .int .i64 (j : Int) ∧ Below w.heap.size w wr) (fun i _ _ _ => 64 - (intOf i).toNat)
      case atStart => exact ⟨0, by omega, rfl, hB1⟩
      case round =>
        obtain ⟨i, hi, rfl, hB2⟩ := hrel
        by_cases hlt2 : i < 64
        · have db : decide ((i : Int) < 64) = true := by simp; omega
          go_wp2
          go_loopw [4, 5] (fun k _ wr => ∃ j : Nat, j ≤ 3 ∧ k = .int .i64 (j : Int) ∧ Below w.heap.size w wr) (fun k _ _ => 3 - (intOf k).toNat)
          case atStart => exact ⟨0, by omega, rfl, hB2⟩
          case round =>
            obtain ⟨k, hk, rfl, hB3⟩ := hrel
            by_cases hlt3 : k < 3
            · go_wp2_with fail
              obtain ⟨n, hn, hn2⟩ : ∃ n : Nat, IntKind.u64.wrap (IntKind.u64.wrap (IntKind.u64.wrap (2 ^ i) + (k : Int)) - 1) = (n : Int) ∧ n < 18446744073709551616 := wrap_nat _
              rw [hn]
              have Hn := Lib.hid hn2
              clear hn hn2
              have hw1 := wrap64_bounds (n : Int)
              have hw2 := wrap64_bounds (-wrap64 (n : Int))
              have W1 := Lib.hid hw1
              have W2 := Lib.hid hw2
              clear hw1 hw2
              with_reducible refine (lebWrites_any none 0 0 n _ [] _ Reads.none_ (by decide) (by decide) Hn.out W1.out.1 W1.out.2).mono ?_
              rintro e w1 ⟨rfl, hb⟩
              replace hB3 := bon hB3 hb
              clear hb
              go_wp2_with fail
              with_reducible refine (lebBack_any none 0 0 n _ [] _ Reads.none_ (by decide) (by decide) Hn.out W2.out.1 W2.out.2).mono ?_
              rintro e w2 ⟨rfl, hb⟩
              replace hB3 := bon hB3 hb
              clear hb
              go_wp2_with fail
              obtain ⟨n', hn, hn2⟩ : ∃ n' : Nat, IntKind.u64.wrap (-(n : Int)) = (n' : Int) ∧ n' < 18446744073709551616 := wrap_nat _
              rw [hn]
              have Hn' := Lib.hid hn2
              clear hn hn2
              refine (lebBack_any _ 1 1 n' _ [0] _ (by exact reads_lit _ _ _ _ _ _ (by simp) rfl rfl) (by decide) (by decide) Hn'.out W1.out.1 W1.out.2).mono ?_
              rintro e w3 ⟨rfl, hb⟩
              replace hB3 := bon (bal hB3 _) hb
              clear hb
              go_wp2
              go_roundw
              case rel => exact ⟨k + 1, by omega, by go_num, hB3⟩
              case measure => simp [intOf]; omega
            · go_wp2
              go_roundw
              case rel => exact ⟨i + 1, by omega, by go_num, hB3⟩
              case measure => simp [intOf]; omega
        · go_wp2_with fail
          with_reducible refine (works_any _).mono ?_
          rintro e w3 ⟨rfl, hb⟩
          go_wp2
          go_ret
          exact ⟨rfl, bon hB2 hb⟩
end Go.Proofs.Ytgkeoiljafnkeaa
