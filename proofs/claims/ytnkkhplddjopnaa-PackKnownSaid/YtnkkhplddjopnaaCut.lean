/- What a law cuts off its arguments: a row's first elements, under a name of their own. -/
import Derived.Test.YtnkkhplddjopnaaLists
set_option linter.unusedVariables false
set_option linter.unusedSimpArgs false
namespace Go.Proofs.Ytnkkhplddjopnaa
open Go.RowKit
theorem cut_head {w : World} {B : Nat} {A : Option Addr} {l : Nat} {xs : List UInt8} (hr : Reads w B 1 A l (u8s xs)) (K : Nat) (KI : Int) (hK : (K : Int) = KI) :
    ∃ (m : Nat) (ys : List UInt8), Hid (ys = xs.take K) ∧ min (l : Int) KI = (m : Int) ∧ m ≤ l ∧ m ≤ K ∧ Reads w B 1 A m (u8s ys) := by
  subst hK
  have hl := reads_len hr
  have h := hr.head (k := min l K) (Nat.min_le_left _ _)
  rw [Nat.mul_one, u8s_take] at h
  refine ⟨min l K, xs.take K, Lib.hid rfl, by omega, Nat.min_le_left _ _, Nat.min_le_right _ _, ?_⟩
  have ht : xs.take (min l K) = xs.take K := by
    rw [← hl]
    by_cases hk : K ≤ xs.length
    · rw [Nat.min_eq_right hk]
    · rw [Nat.min_eq_left (by omega), List.take_of_length_le (Nat.le_refl _), List.take_of_length_le (by omega)]
  rwa [ht] at h
theorem cut_head_ins {w : World} {B : Nat} {A : Option Addr} {l : Nat} {xs : List Int} (hr : Reads w B 1 A l (ins xs)) (K : Nat) (KI : Int) (hK : (K : Int) = KI) :
    ∃ (m : Nat) (ys : List Int), Hid (ys = xs.take K) ∧ min (l : Int) KI = (m : Int) ∧ m ≤ l ∧ m ≤ K ∧ Reads w B 1 A m (ins ys) := by
  subst hK
  have hl := ilen hr
  have h := hr.head (k := min l K) (Nat.min_le_left _ _)
  rw [Nat.mul_one, ins_take] at h
  refine ⟨min l K, xs.take K, Lib.hid rfl, by omega, Nat.min_le_left _ _, Nat.min_le_right _ _, ?_⟩
  have ht : xs.take (min l K) = xs.take K := by
    rw [← hl]
    by_cases hk : K ≤ xs.length
    · rw [Nat.min_eq_right hk]
    · rw [Nat.min_eq_left (by omega), List.take_of_length_le (Nat.le_refl _), List.take_of_length_le (by omega)]
  rwa [ht] at h
end Go.Proofs.Ytnkkhplddjopnaa
