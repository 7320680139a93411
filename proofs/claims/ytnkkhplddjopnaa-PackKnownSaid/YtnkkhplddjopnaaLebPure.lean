/- The numbers of layer 1, in plain Lean: their bytes, how they are read, the zigzag. No program is in sight here. -/
import Derived.Laws.BitsLemmas
import Derived.Laws.MathBits
set_option linter.unusedVariables false
set_option linter.unusedSimpArgs false
namespace Go.Proofs.Ytnkkhplddjopnaa

/-- A number's bytes; the first argument is how many may follow the first one. -/
def lebF : Nat → Nat → List UInt8
  | 0, n => [UInt8.ofNat n]
  | f + 1, n => if n < 128 then [UInt8.ofNat n] else UInt8.ofNat (n % 128 + 128) :: lebF f (n / 128)
def leb (n : Nat) : List UInt8 := lebF 9 n
theorem lebF_small (f n : Nat) (h : n < 128) : lebF f n = [UInt8.ofNat n] := by
  cases f <;> simp [lebF, h]
theorem lebF_big (f n : Nat) (h : 128 ≤ n) : lebF (f + 1) n = UInt8.ofNat (n % 128 + 128) :: lebF f (n / 128) := by
  simp [lebF, Nat.not_lt.2 h]
theorem lebF_pos (f n : Nat) : 0 < (lebF f n).length := by
  cases f with
  | zero => simp [lebF]
  | succ f => unfold lebF; split <;> simp
theorem lebF_le : ∀ f n : Nat, (lebF f n).length ≤ f + 1
  | 0, n => by simp [lebF]
  | f + 1, n => by
    have := lebF_le f (n / 128)
    unfold lebF
    split <;> simp <;> omega
theorem leb_le (n : Nat) : (leb n).length ≤ 10 := lebF_le 9 n
theorem leb_pos (n : Nat) : 0 < (leb n).length := lebF_pos 9 n

/-- The number that bytes begin with: the number, its size, the errno. -/
def getL : List UInt8 → Nat → Nat → Nat × Nat × Nat
  | [], _, _ => (0, 0, 3)
  | c :: r, i, acc =>
    if i = 9 ∧ 1 < c.toNat then (0, 0, 6)
    else if 0 < i ∧ c.toNat = 0 then (0, 0, 10)
    else if c.toNat < 128 then (acc + c.toNat * 128 ^ i, i + 1, 0)
    else getL r (i + 1) (acc + c.toNat % 128 * 128 ^ i)
def get (l : List UInt8) : Nat × Nat × Nat := getL l 0 0

def zig (n : Int) : Nat := if n < 0 then (2 * (-(n + 1)) + 1).toNat else (2 * n).toNat
def zag (u : Nat) : Int := if u % 2 = 1 then -((u / 2 : Nat) : Int) - 1 else ((u / 2 : Nat) : Int)

theorem ofNat_toNat (n : Nat) (h : n < 256) : (UInt8.ofNat n).toNat = n := by
  simp [Nat.mod_eq_of_lt h]

theorem getL_lebF : ∀ (f m i acc : Nat) (r : List UInt8), i + f = 9 → m < 128 ^ (f + 1) → (0 < i → 0 < m) → m * 128 ^ i < 18446744073709551616 →
    getL (lebF f m ++ r) i acc = (acc + m * 128 ^ i, i + (lebF f m).length, 0) := by
  intro f
  induction f with
  | zero =>
    intro m i acc r hi hm hp hb
    have hi9 : i = 9 := by omega
    subst hi9
    have hm2 : m < 2 := by
      have h128 : (128 : Nat) ^ 9 = 9223372036854775808 := by decide
      rw [h128] at hb; omega
    have hm1 : m = 1 := by have := hp (by omega); omega
    subst hm1
    simp [lebF, getL]
  | succ f ih =>
    intro m i acc r hi hm hp hb
    by_cases hs : m < 128
    · rw [lebF_small _ _ hs]
      have ht := ofNat_toNat m (by omega)
      simp only [List.cons_append, List.nil_append, getL, ht, List.length_cons, List.length_nil]
      rw [if_neg (by omega), if_neg (by intro ⟨h1, h2⟩; have := hp h1; omega), if_pos hs]
    · have hs' : 128 ≤ m := by omega
      rw [lebF_big _ _ hs']
      have ht := ofNat_toNat (m % 128 + 128) (by omega)
      simp only [List.cons_append, getL, ht, List.length_cons]
      have hpow : 128 ^ (i + 1) = 128 * 128 ^ i := by rw [Nat.pow_succ, Nat.mul_comm]
      have hdm : m / 128 * 128 ^ (i + 1) ≤ m * 128 ^ i := by
        rw [hpow, ← Nat.mul_assoc]; exact Nat.mul_le_mul_right _ (Nat.div_mul_le_self m 128)
      rw [if_neg (by omega), if_neg (by omega), if_neg (by omega)]
      rw [ih (m / 128) (i + 1) _ r (by omega) (by
        rw [Nat.pow_succ] at hm
        exact Nat.div_lt_of_lt_mul (by rw [Nat.mul_comm]; exact hm)) (by omega) (Nat.lt_of_le_of_lt hdm hb)]
      have h1 : (m % 128 + 128) % 128 = m % 128 := by omega
      have h2 : m * 128 ^ i = m % 128 * 128 ^ i + m / 128 * 128 ^ (i + 1) := by
        rw [hpow, ← Nat.mul_assoc, ← Nat.add_mul]
        congr 1
        omega
      rw [h1, h2]
      simp only [Prod.mk.injEq, and_true]
      constructor
      · omega
      · omega

/-- What is written is read, whatever stands behind. -/
theorem get_leb (n : Nat) (hn : n < 18446744073709551616) (r : List UInt8) : get (leb n ++ r) = (n, (leb n).length, 0) := by
  have h := getL_lebF 9 n 0 0 r rfl (by
    have h128 : (128 : Nat) ^ (9 + 1) = 1180591620717411303424 := by decide
    rw [h128]; omega) (by omega) (by simpa using hn)
  simpa [get, leb] using h

theorem getL_only : ∀ (l : List UInt8) (i acc : Nat), i ≤ 9 →
    (∃ m, getL l i acc = (acc + m * 128 ^ i, i + (lebF (9 - i) m).length, 0) ∧ (lebF (9 - i) m).length ≤ l.length ∧ lebF (9 - i) m = l.take (lebF (9 - i) m).length ∧ (0 < i → 0 < m) ∧ m * 128 ^ i < 18446744073709551616 ∧ m < 128 ^ (10 - i)) ∨
    ∃ e, getL l i acc = (0, 0, e) ∧ e ≠ 0 ∧ e < 11 := by
  intro l
  induction l with
  | nil => intro i acc _; exact .inr ⟨3, rfl, by omega, by omega⟩
  | cons c r ih =>
    intro i acc hi
    unfold getL
    have hc : c.toNat < 256 := c.toNat_lt
    by_cases h1 : i = 9 ∧ 1 < c.toNat
    · rw [if_pos h1]; exact .inr ⟨6, rfl, by omega, by omega⟩
    rw [if_neg h1]
    by_cases h2 : 0 < i ∧ c.toNat = 0
    · rw [if_pos h2]; exact .inr ⟨10, rfl, by omega, by omega⟩
    rw [if_neg h2]
    have hci : UInt8.ofNat c.toNat = c := by simp
    by_cases h3 : c.toNat < 128
    · rw [if_pos h3]
      refine .inl ⟨c.toNat, ?_⟩
      rw [lebF_small _ _ h3]
      have hpow : c.toNat * 128 ^ i < 18446744073709551616 := by
        rcases Nat.lt_or_ge i 9 with hlt | hge
        · have h8 : 128 ^ i ≤ 128 ^ 8 := Nat.pow_le_pow_right (by omega) (by omega)
          have h128 : (128 : Nat) ^ 8 = 72057594037927936 := by decide
          have := Nat.mul_le_mul (Nat.le_of_lt_succ h3 : c.toNat ≤ 127) h8
          rw [h128] at this
          omega
        · have hi9 : i = 9 := by omega
          subst hi9
          have h128 : (128 : Nat) ^ 9 = 9223372036854775808 := by decide
          rw [h128]
          omega
      refine ⟨rfl, by simp, by simp [hci], by omega, hpow, ?_⟩
      calc c.toNat < 128 ^ 1 := by simpa using h3
        _ ≤ 128 ^ (10 - i) := Nat.pow_le_pow_right (by omega) (by omega)
    · rw [if_neg h3]
      have hi8 : i ≤ 8 := by omega
      rcases ih (i + 1) (acc + c.toNat % 128 * 128 ^ i) (by omega) with ⟨m, hg, hl, htk, hpos, hlt, hlt2⟩ | h
      · refine .inl ⟨c.toNat % 128 + 128 * m, ?_⟩
        have hm := hpos (by omega)
        have e1 : 9 - i = (9 - (i + 1)) + 1 := by omega
        have hm0 : (c.toNat % 128 + 128 * m) % 128 = c.toNat % 128 := by omega
        have hm1 : (c.toNat % 128 + 128 * m) / 128 = m := by omega
        have hbig := lebF_big (9 - (i + 1)) (c.toNat % 128 + 128 * m) (by omega)
        rw [hm0, hm1] at hbig
        have hc2 : UInt8.ofNat (c.toNat % 128 + 128) = c := by
          have : c.toNat % 128 + 128 = c.toNat := by omega
          rw [this, hci]
        rw [hc2] at hbig
        rw [e1, hbig, hg]
        have hpow : 128 ^ (i + 1) = 128 * 128 ^ i := by rw [Nat.pow_succ, Nat.mul_comm]
        have e2 : (c.toNat % 128 + 128 * m) * 128 ^ i = c.toNat % 128 * 128 ^ i + m * 128 ^ (i + 1) := by
          rw [hpow, Nat.add_mul, ← Nat.mul_assoc, Nat.mul_comm m 128]
        have e10 : 10 - i = (10 - (i + 1)) + 1 := by omega
        refine ⟨?_, by simpa using hl, by rw [List.length_cons, List.take_succ_cons, ← htk], fun _ => by omega, ?_, ?_⟩
        · rw [e2]
          simp only [Prod.mk.injEq, List.length_cons, and_true]
          constructor <;> omega
        · -- the bound: m * 128^(i+1) < 2^64 with room for the lower digit
          have hdig : c.toNat % 128 * 128 ^ i < 128 ^ (i + 1) := by
            rw [hpow]; exact Nat.mul_lt_mul_of_lt_of_le (by omega) (Nat.le_refl _) (Nat.pow_pos (by omega))
          rw [e2]
          have hdvd : 18446744073709551616 = (18446744073709551616 / 128 ^ (i + 1)) * 128 ^ (i + 1) := by
            have : i = 0 ∨ i = 1 ∨ i = 2 ∨ i = 3 ∨ i = 4 ∨ i = 5 ∨ i = 6 ∨ i = 7 ∨ i = 8 := by omega
            rcases this with rfl | rfl | rfl | rfl | rfl | rfl | rfl | rfl | rfl <;> decide
          generalize 18446744073709551616 / 128 ^ (i + 1) = q at hdvd
          rw [hdvd] at hlt ⊢
          have hmq : m < q := Nat.lt_of_mul_lt_mul_right hlt
          have : (m + 1) * 128 ^ (i + 1) ≤ q * 128 ^ (i + 1) := Nat.mul_le_mul_right _ hmq
          rw [Nat.add_mul, Nat.one_mul] at this
          omega
        · rw [e10, Nat.pow_succ]
          have : 10 - (i + 1) = 9 - i := by omega
          omega
      · exact .inr h

/-- Nothing is read but what is written. -/
theorem get_only (l : List UInt8) : (∃ n, get l = (n, (leb n).length, 0) ∧ n < 18446744073709551616 ∧ (leb n).length ≤ l.length ∧ leb n = l.take (leb n).length) ∨ ∃ e, get l = (0, 0, e) ∧ e ≠ 0 ∧ e < 11 := by
  rcases getL_only l 0 0 (by omega) with ⟨m, h1, h2, h3, _, h5, _⟩ | h
  · refine .inl ⟨m, ?_⟩
    simp only [Nat.pow_zero, Nat.mul_one, Nat.zero_add, Nat.sub_zero] at h1 h2 h3 h5
    exact ⟨h1, h5, h2, h3⟩
  · exact .inr h

theorem leb_apart (n m : Nat) (hn : n < 18446744073709551616) (hm : m < 18446744073709551616) (hne : n ≠ m) :
    (leb n).take (min (leb n).length (leb m).length) ≠ (leb m).take (min (leb n).length (leb m).length) := by
  intro h
  rcases Nat.le_total (leb n).length (leb m).length with hle | hle
  · rw [Nat.min_eq_left hle, List.take_of_length_le (Nat.le_refl _)] at h
    have hb : leb m = leb n ++ (leb m).drop (leb n).length := by
      conv => lhs; rw [← List.take_append_drop (leb n).length (leb m)]
      rw [← h]
    have h1 := get_leb m hm []
    rw [List.append_nil, hb, get_leb n hn] at h1
    exact hne (by injection h1)
  · rw [Nat.min_eq_right hle, List.take_of_length_le (Nat.le_refl (leb m).length)] at h
    have hb : leb n = leb m ++ (leb n).drop (leb m).length := by
      conv => lhs; rw [← List.take_append_drop (leb m).length (leb n)]
      rw [h]
    have h1 := get_leb n hn []
    rw [List.append_nil, hb, get_leb m hm] at h1
    exact hne (by injection h1 with h1; exact h1.symm)

theorem lebF_mono : ∀ (f n m : Nat), n ≤ m → (lebF f n).length ≤ (lebF f m).length := by
  intro f
  induction f with
  | zero => intro n m _; simp [lebF]
  | succ f ih =>
    intro n m h
    by_cases hn : n < 128
    · rw [lebF_small _ _ hn]; exact lebF_pos _ _
    · rw [lebF_big _ _ (by omega), lebF_big _ _ (by omega)]
      simp only [List.length_cons]
      have := ih (n / 128) (m / 128) (Nat.div_le_div_right h)
      omega
theorem leb_mono (n m : Nat) (h : n ≤ m) : (leb n).length ≤ (leb m).length := lebF_mono 9 n m h

theorem lebF_bounds : ∀ (f n : Nat), n < 128 ^ (f + 1) → n < 128 ^ (lebF f n).length ∧ (128 ≤ n → 128 ^ ((lebF f n).length - 1) ≤ n) := by
  intro f
  induction f with
  | zero => intro n h; simp [lebF] at h ⊢; omega
  | succ f ih =>
    intro n h
    by_cases hn : n < 128
    · rw [lebF_small _ _ hn]; simp; omega
    · rw [lebF_big _ _ (by omega)]
      simp only [List.length_cons, Nat.add_sub_cancel]
      obtain ⟨h1, h2⟩ := ih (n / 128) (by
        rw [Nat.pow_succ] at h
        exact Nat.div_lt_of_lt_mul (by rw [Nat.mul_comm]; exact h))
      refine ⟨?_, fun _ => ?_⟩
      · rw [Nat.pow_succ]
        have := (Nat.div_lt_iff_lt_mul (by omega : 0 < 128)).1 h1
        exact this
      · by_cases hd : n / 128 < 128
        · rw [lebF_small _ _ hd]; simp; omega
        · have h3 := h2 (by omega)
          have hp := lebF_pos f (n / 128)
          obtain ⟨k, hk⟩ : ∃ k, (lebF f (n / 128)).length = k + 1 := ⟨_, (Nat.succ_pred_eq_of_pos hp).symm⟩
          rw [hk] at h3 ⊢
          simp only [Nat.add_sub_cancel] at h3
          rw [Nat.pow_succ]
          have := Nat.mul_le_mul_right 128 h3
          have := Nat.div_mul_le_self n 128
          omega

theorem leb_bounds (n : Nat) (hn : n < 18446744073709551616) : n < 128 ^ (leb n).length ∧ (128 ≤ n → 128 ^ ((leb n).length - 1) ≤ n) :=
  lebF_bounds 9 n (by
    have h128 : (128 : Nat) ^ (9 + 1) = 1180591620717411303424 := by decide
    rw [h128]; omega)

/-- The size as the program reckons it, by the length in bits of n ||| 1. -/
theorem leb_size (n b : Nat) (hn : n < 18446744073709551616) (h1 : n ||| 1 < 2 ^ b) (h2 : 2 ^ (b - 1) ≤ n ||| 1) : (b + 6) / 7 = (leb n).length := by
  obtain ⟨h3, h4⟩ := leb_bounds n hn
  have hp := leb_pos n
  have h5 : n < 128 → (leb n).length = 1 := fun h => by rw [leb, lebF_small _ _ h]; rfl
  generalize (leb n).length = s at h3 h4 h5 hp ⊢
  have hor : n ||| 1 < 128 ^ s := by
    have : (128 : Nat) = 2 ^ 7 := by decide
    rw [this, ← Nat.pow_mul] at h3 ⊢
    exact Nat.or_lt_two_pow h3 (Nat.one_lt_two_pow (by omega))
  have hlo : 128 ^ (s - 1) ≤ n ||| 1 := by
    by_cases hs : 128 ≤ n
    · exact Nat.le_trans (h4 hs) Nat.left_le_or
    · rw [h5 (by omega)]; exact Nat.right_le_or
  have e1 : (128 : Nat) ^ s = 2 ^ (7 * s) := by rw [Nat.pow_mul]
  have e2 : (128 : Nat) ^ (s - 1) = 2 ^ (7 * (s - 1)) := by rw [Nat.pow_mul]
  rw [e1] at hor
  rw [e2] at hlo
  have g1 : 7 * (s - 1) < b := (Nat.pow_lt_pow_iff_right (by omega : 1 < 2)).1 (Nat.lt_of_le_of_lt hlo h1)
  have g2 : b - 1 < 7 * s := (Nat.pow_lt_pow_iff_right (by omega : 1 < 2)).1 (Nat.lt_of_le_of_lt h2 hor)
  omega

theorem lebF_marks : ∀ (f n : Nat), n < 128 ^ (f + 1) → ∀ (i : Nat) (b : UInt8), (lebF f n)[i]? = some b →
    (i + 1 < (lebF f n).length → 128 ≤ b.toNat) ∧ (i + 1 = (lebF f n).length → b.toNat < 128 ∧ (0 < n → b.toNat ≠ 0)) := by
  intro f
  induction f with
  | zero =>
    intro n hn i b hb
    have hn' : n < 128 := by simpa using hn
    have ht := ofNat_toNat n (by omega)
    match i, hb with
    | 0, hb =>
      obtain rfl : UInt8.ofNat n = b := by simpa [lebF] using hb
      refine ⟨by simp [lebF], fun _ => ?_⟩
      rw [ht]; omega
  | succ f ih =>
    intro n hn i b hb
    by_cases hs : n < 128
    · rw [lebF_small _ _ hs] at hb ⊢
      have ht := ofNat_toNat n (by omega)
      match i, hb with
      | 0, hb =>
        obtain rfl : UInt8.ofNat n = b := by simpa using hb
        refine ⟨by simp, fun _ => ?_⟩
        rw [ht]; omega
    · rw [lebF_big _ _ (by omega)] at hb ⊢
      have ht := ofNat_toNat (n % 128 + 128) (by omega)
      have hp := lebF_pos f (n / 128)
      match i, hb with
      | 0, hb =>
        obtain rfl : UInt8.ofNat (n % 128 + 128) = b := by simpa using hb
        refine ⟨fun _ => by rw [ht]; omega, fun h => ?_⟩
        simp only [List.length_cons] at h; omega
      | i + 1, hb =>
        obtain ⟨h1, h2⟩ := ih (n / 128) (by
          rw [Nat.pow_succ] at hn
          exact Nat.div_lt_of_lt_mul (by rw [Nat.mul_comm]; exact hn)) i b (by simpa using hb)
        simp only [List.length_cons]
        exact ⟨fun h => h1 (by omega), fun h => ⟨(h2 (by omega)).1, fun _ => (h2 (by omega)).2 (by omega)⟩⟩
theorem leb_marks (n : Nat) (hn : n < 18446744073709551616) (i : Nat) (b : UInt8) (hb : (leb n)[i]? = some b) :
    (i + 1 < (leb n).length → 128 ≤ b.toNat) ∧ (i + 1 = (leb n).length → b.toNat < 128 ∧ (1 < (leb n).length → b.toNat ≠ 0)) := by
  have h128 : (128 : Nat) ^ (9 + 1) = 1180591620717411303424 := by decide
  obtain ⟨h1, h2⟩ := lebF_marks 9 n (by rw [h128]; omega) i b hb
  refine ⟨h1, fun h => ⟨(h2 h).1, fun hl => (h2 h).2 ?_⟩⟩
  rcases Nat.eq_zero_or_pos n with h0 | h0
  · subst h0
    have : (leb 0).length = 1 := by decide
    omega
  · exact h0
theorem leb_pow (k : Nat) (hk : k < 64) : (leb (2 ^ k)).length = k / 7 + 1 ∧ (leb (2 ^ k - 1)).length = max 1 ((k + 6) / 7) := by
  have h : ∀ k : Fin 64, (leb (2 ^ k.val)).length = k.val / 7 + 1 ∧ (leb (2 ^ k.val - 1)).length = max 1 ((k.val + 6) / 7) := by decide +kernel
  exact h ⟨k, hk⟩
theorem zig_lt (n : Int) (h1 : -9223372036854775808 ≤ n) (h2 : n ≤ 9223372036854775807) : zig n < 18446744073709551616 := by
  unfold zig; split <;> omega
theorem zag_zig (n : Int) : zag (zig n) = n := by
  unfold zag zig; split <;> split <;> omega
theorem zig_zag (u : Nat) : zig (zag u) = u := by
  unfold zag zig; split <;> split <;> omega
theorem zag_bounds (u : Nat) (h : u < 18446744073709551616) : -9223372036854775808 ≤ zag u ∧ zag u ≤ 9223372036854775807 := by
  unfold zag; split <;> omega
end Go.Proofs.Ytnkkhplddjopnaa
