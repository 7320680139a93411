/- Layer 3, plain: what is put is taken; what is cut off. -/
import Derived.Test.YtnkkhplddjopnaaPackOpen
set_option linter.unusedVariables false
set_option linter.unusedSimpArgs false
namespace Go.Proofs.Ytnkkhplddjopnaa
open Go.RowKit
theorem getL_cut : ∀ (f m i acc j : Nat), i + f = 9 → m < 128 ^ (f + 1) → (0 < i → 0 < m) → m * 128 ^ i < 18446744073709551616 → j < (lebF f m).length → getL ((lebF f m).take j) i acc = (0, 0, 3) := by
  intro f
  induction f with
  | zero =>
    intro m i acc j h1 h2 h3 h4 hj
    have : j = 0 := by simp [lebF] at hj; omega
    subst this
    rfl
  | succ f ih =>
    intro m i acc j h1 h2 h3 h4 hj
    by_cases hm : m < 128
    · rw [lebF_small _ _ hm] at hj ⊢
      have : j = 0 := by simpa using hj
      subst this
      rfl
    · rw [lebF_big _ _ (by omega)] at hj ⊢
      cases j with
      | zero => rfl
      | succ j =>
        rw [List.take_succ_cons, getL]
        have hb : (UInt8.ofNat (m % 128 + 128)).toNat = m % 128 + 128 := ofNat_toNat _ (by omega)
        rw [hb, if_neg (by omega), if_neg (by omega), if_neg (by omega)]
        refine ih (m / 128) (i + 1) _ j (by omega) ?_ (fun _ => by omega) ?_ (by simpa using hj)
        · rw [Nat.pow_succ] at h2
          omega
        · refine Nat.lt_of_le_of_lt ?_ h4
          rw [Nat.pow_succ, ← Nat.mul_assoc, Nat.mul_right_comm]
          exact Nat.mul_le_mul_right _ (Nat.div_mul_le_self _ _)
theorem get_cut (n j : Nat) (hn : n < 18446744073709551616) (hj : j < (leb n).length) : get ((leb n).take j) = (0, 0, 3) :=
  getL_cut 9 n 0 0 j rfl (by omega) (fun h => absurd h (by omega)) (by omega) hj
theorem rawA_ok (xs : List UInt8) (p : Nat) (b r : List UInt8) (h : xs.drop p = b ++ r) : rawA xs p 0 (b.length : Int) = (b, p + b.length, 0) := by
  unfold rawA rawE
  rw [if_neg (by simp), h, if_neg (by omega), if_neg (by rw [List.length_append]; omega)]
  simp
theorem rawA_cut (xs : List UInt8) (p n : Nat) (h : (xs.drop p).length < n) : rawA xs p 0 (n : Int) = ([], p, 3) := by
  unfold rawA rawE
  rw [if_neg (by simp), if_neg (by omega), if_pos (by omega)]
theorem toI_zag (n : Nat) : zag (zig (toI n)) = toI n := zag_zig _
theorem txt_data (s : ByteArray) : txt s.data.toList = s := rfl
theorem wordN_wordB (n : Nat) (hn : n < 4294967296) : wordN (wordB n) = n := by
  simp only [wordB, wordN]
  rw [ofNat_toNat _ (by omega), ofNat_toNat _ (by omega), ofNat_toNat _ (by omega), ofNat_toNat _ (by omega)]
  omega
/-- What was put is taken as it was. -/
theorem takeA_ok (xs : List UInt8) (p : Nat) (k : Int) (n : Nat) (s : ByteArray) (r : List UInt8) (hk : k = 0 ∨ k = 1 ∨ k = 2 ∨ k = 3 ∨ k = 4 ∨ k = 5) (hn : n < 18446744073709551616) (h : xs.drop p = pieceB k n s ++ r) :
    takeA xs p 0 k n s = (true, p + (pieceB k n s).length, 0) := by
  have hI := toI_in n
  have hz : zig (toI n) < 18446744073709551616 := zig_lt _ hI.1 hI.2
  have hcs := clipT_size s
  unfold takeA
  rcases hk with rfl | rfl | rfl | rfl | rfl | rfl
  · rw [pieceB0] at h ⊢
    rw [if_pos rfl]
    have := rawA_ok xs p [UInt8.ofNat (n % 256)] r h
    rw [show (([UInt8.ofNat (n % 256)].length : Nat) : Int) = 1 from rfl] at this
    unfold byteA
    rw [this]
    have h2 : lastB [UInt8.ofNat (n % 256)] 1 = n % 256 := by
      show (UInt8.ofNat (n % 256)).toNat = _
      exact ofNat_toNat _ (by omega)
    simp [h2]
  · rw [pieceB1] at h ⊢
    rw [if_neg (by decide), if_pos rfl]
    unfold varA
    rw [if_neg (by simp), h, get_leb n hn r, if_neg (by simp)]
    simp
  · rw [pieceB2] at h ⊢
    rw [if_neg (by decide), if_neg (by decide), if_pos rfl]
    unfold varA
    rw [if_neg (by simp), h, get_leb _ hz r, if_neg (by simp)]
    simp [toI_zag]
  · rw [pieceB3] at h ⊢
    rw [if_neg (by decide), if_neg (by decide), if_neg (by decide), if_pos rfl]
    unfold textB at h ⊢
    have hlt : (clipT s).size < 18446744073709551616 := by omega
    have hts : takeT 40 (xs.drop p) = .ok (clipT s, (leb (clipT s).size).length + (clipT s).size) := by
      unfold takeT
      rw [h, List.append_assoc, get_leb _ hlt, if_neg (by simp), if_neg (by simp only []; omega)]
      have hl : ¬ ((leb (clipT s).size ++ ((clipT s).data.toList ++ r)).length - (leb (clipT s).size).length < (clipT s).size) := by
        rw [List.length_append, List.length_append, bts_size]; omega
      simp only []
      rw [if_neg hl, List.drop_left, List.take_append_of_le_length (by rw [bts_size]; exact Nat.le_refl _), List.take_of_length_le (by rw [bts_size]; exact Nat.le_refl _), txt_data]
    unfold textA
    rw [if_neg (by simp), hts]
    simp [List.length_append, bts_size, Nat.add_assoc]
  · rw [pieceB4] at h ⊢
    rw [if_neg (by decide), if_neg (by decide), if_neg (by decide), if_neg (by decide), if_pos rfl]
    have := rawA_ok xs p _ r h
    rw [bts_size] at this
    rw [this, txt_data, bts_size]
    simp
  · rw [pieceB5] at h ⊢
    rw [if_neg (by decide), if_neg (by decide), if_neg (by decide), if_neg (by decide), if_neg (by decide)]
    have := rawA_ok xs p _ r h
    rw [show (((wordB (n % 4294967296)).length : Nat) : Int) = 4 from rfl] at this
    unfold wordA
    rw [this, wordN_wordB _ (by omega)]
    simp
/-- What was cut off is ErrTrunc, and the place stays. -/
theorem takeA_cut (xs : List UInt8) (p : Nat) (k : Int) (n : Nat) (s : ByteArray) (j : Nat) (hk : k = 0 ∨ k = 1 ∨ k = 2 ∨ k = 3 ∨ k = 4 ∨ k = 5) (hn : n < 18446744073709551616) (h : xs.drop p = (pieceB k n s).take j) (hj : j < (pieceB k n s).length) :
    (takeA xs p 0 k n s).2 = (p, 3) := by
  have hI := toI_in n
  have hz : zig (toI n) < 18446744073709551616 := zig_lt _ hI.1 hI.2
  have hcs := clipT_size s
  have hdl : (xs.drop p).length = j := by rw [h, List.length_take]; omega
  unfold takeA
  rcases hk with rfl | rfl | rfl | rfl | rfl | rfl
  · rw [pieceB0] at h hj
    rw [if_pos rfl]
    have := rawA_cut xs p 1 (by simp at hj; omega)
    rw [show ((1 : Nat) : Int) = 1 from rfl] at this
    unfold byteA
    rw [this]
  · rw [pieceB1] at h hj
    rw [if_neg (by decide), if_pos rfl]
    unfold varA
    rw [if_neg (by simp), h, get_cut n j hn hj, if_pos (by simp)]
  · rw [pieceB2] at h hj
    rw [if_neg (by decide), if_neg (by decide), if_pos rfl]
    unfold varA
    rw [if_neg (by simp), h, get_cut _ j hz hj, if_pos (by simp)]
  · rw [pieceB3] at h hj
    rw [if_neg (by decide), if_neg (by decide), if_neg (by decide), if_pos rfl]
    have hlt : (clipT s).size < 18446744073709551616 := by omega
    have hts : takeT 40 (xs.drop p) = .error 3 := by
      unfold takeT
      unfold textB at h hj
      by_cases hjl : j < (leb (clipT s).size).length
      · rw [h, List.take_append_of_le_length (by omega), get_cut _ j hlt hjl, if_pos (by simp)]
      · rw [h, List.take_append, List.take_of_length_le (by omega : (leb (clipT s).size).length ≤ j), get_leb _ hlt, if_neg (by simp), if_neg (by simp only []; omega)]
        rw [List.length_append, bts_size] at hj
        have hl : (leb (clipT s).size ++ ((clipT s).data.toList).take (j - (leb (clipT s).size).length)).length - (leb (clipT s).size).length < (clipT s).size := by
          rw [List.length_append, List.length_take, bts_size]; omega
        simp only []
        rw [if_pos hl]
    unfold textA
    rw [if_neg (by simp), hts]
  · rw [pieceB4] at h hj
    rw [if_neg (by decide), if_neg (by decide), if_neg (by decide), if_neg (by decide), if_pos rfl]
    rw [bts_size] at hj
    rw [rawA_cut xs p (clipT s).size (by omega)]
  · rw [pieceB5] at h hj
    rw [if_neg (by decide), if_neg (by decide), if_neg (by decide), if_neg (by decide), if_neg (by decide)]
    have := rawA_cut xs p 4 (by rw [hdl]; exact hj)
    rw [show ((4 : Nat) : Int) = 4 from rfl] at this
    unfold wordA
    rw [this]
end Go.Proofs.Ytnkkhplddjopnaa
