/- A bool that is turned turns one bit; as many bits are 1 as bools are true. -/
import Derived.Test.YtbcfdlhhmifneaaMaskPure
set_option linter.unusedVariables false
set_option linter.unusedSimpArgs false
namespace Go.Proofs.Ytbcfdlhhmifneaa
theorem bit_xor (b c : Bool) (X Y : Nat) : ((if b then 1 else 0) + 2 * X) ^^^ ((if c then 1 else 0) + 2 * Y) = (if (b ^^ c) then 1 else 0) + 2 * (X ^^^ Y) := by
  apply Nat.eq_of_testBit_eq
  intro i
  cases i with
  | zero => cases b <;> cases c <;> simp [Nat.testBit_zero, Nat.testBit_xor] <;> omega
  | succ i =>
    have h : ∀ (b : Bool) (X : Nat), ((if b then 1 else 0) + 2 * X) / 2 = X := by intro b X; cases b <;> simp <;> omega
    rw [Nat.testBit_xor, Nat.testBit_succ, Nat.testBit_succ, Nat.testBit_succ, h, h, h, Nat.testBit_xor]
theorem byteOf_flip : ∀ (l : List Bool) (k : Nat) (b : Bool), l[k]? = some b → byteOf l ^^^ byteOf (l.set k (!b)) = 2 ^ k
  | c :: r, 0, b, h => by
    obtain rfl : c = b := by simpa using h
    simp only [List.set_cons_zero, byteOf]
    rw [bit_xor]
    cases c <;> simp
  | c :: r, k + 1, b, h => by
    simp only [List.set_cons_succ, byteOf]
    rw [bit_xor, byteOf_flip r k b (by simpa using h)]
    simp
    omega
theorem packL_flip (l : List Bool) (t : Nat) (b : Bool) (h : l[t]? = some b) (j : Nat) (hj : j < need l.length) :
    ∃ x y : UInt8, (packL l)[j]? = some x ∧ (packL (l.set t (!b)))[j]? = some y ∧ x.toNat ^^^ y.toNat = if j = t / 8 then 2 ^ (t % 8) else 0 := by
  refine ⟨_, _, packF_get _ l j hj, packF_get _ _ j (by rw [List.length_set]; exact hj), ?_⟩
  rw [ofNat_toNat' _ (byteOf_lt8 _ (List.length_take_le _ _)), ofNat_toNat' _ (byteOf_lt8 _ (List.length_take_le _ _))]
  rw [List.drop_set]
  split
  · rename_i hlt
    rw [Nat.xor_self, if_neg (by omega)]
  · rename_i hge
    rw [List.take_set]
    by_cases h8 : t - 8 * j < 8
    · have e : t - 8 * j = t % 8 := by omega
      rw [if_pos (by omega), byteOf_flip _ _ b, e]
      rw [List.getElem?_take, if_pos h8, List.getElem?_drop, ← h]
      congr 1
      omega
    · rw [List.set_eq_of_length_le (by rw [List.length_take]; omega), Nat.xor_self, if_neg (by omega)]
theorem countL_all (l : List Bool) : countL (allBits (packL l)) = countL l := by
  unfold packL
  rw [allBits_packF, countL_append, List.take_of_length_le (by unfold need; omega)]
  have : countL (List.replicate (8 * need l.length - l.length) false) = 0 := by
    unfold countL; simp
  rw [this, Nat.add_zero]
end Go.Proofs.Ytbcfdlhhmifneaa
