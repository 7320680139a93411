/- Part 2 of the walks, merged: each text under its own heading. Conditions: none of its own; each lemma states what it asks. -/
import Derived.Test.YtegcbjkikhheiaaGreatDoorGm1
import Derived.Laws.BitsLemmas
import Derived.Laws.MathBits
import Derived.Lib.SlicesS
import Derived.Deep.LoopGhost
import Derived.Shelf.Unicode.ValidAny
import Derived.Test.YtegcbjkikhheiaaGreatDoorProg
import Derived.RegionTactic
import Derived.WalkKit
import Derived.OrdersHeld
import Derived.Deep.CutBlock
import Derived.Deep.DeepCutAuto
set_option linter.unusedVariables false
set_option linter.unusedSimpArgs false
namespace Go.Proofs.YtegcbjkikhheiaaGreatDoor
def lebF : Nat → Nat → List UInt8
  | 0, n => [UInt8.ofNat n]
  | f + 1, n => if n < 128 then [UInt8.ofNat n] else UInt8.ofNat (n % 128 + 128) :: lebF f (n / 128)
def leb (n : Nat) : List UInt8 := lebF 9 n
theorem lebF_small (f n : Nat) (h : n < 128) : lebF f n = [UInt8.ofNat n] := by
  cases f <;> simp [lebF, h]
theorem lebF_big (f n : Nat) (h : 128 ≤ n) : lebF (f + 1) n = UInt8.ofNat (n % 128 + 128) :: lebF f (n / 128) := by
  simp [lebF, Nat.not_lt.2 h]
theorem lebF_pos (f n : Nat) : 0 < (lebF f n).length := by
  cases f with
  | zero => simp [lebF]
  | succ f => unfold lebF; split <;> simp
theorem lebF_le : ∀ f n : Nat, (lebF f n).length ≤ f + 1
  | 0, n => by simp [lebF]
  | f + 1, n => by
    have := lebF_le f (n / 128)
    unfold lebF
    split <;> simp <;> omega
theorem leb_le (n : Nat) : (leb n).length ≤ 10 := lebF_le 9 n
theorem leb_pos (n : Nat) : 0 < (leb n).length := lebF_pos 9 n
def getL : List UInt8 → Nat → Nat → Nat × Nat × Nat
  | [], _, _ => (0, 0, 3)
  | c :: r, i, acc =>
    if i = 9 ∧ 1 < c.toNat then (0, 0, 6)
    else if 0 < i ∧ c.toNat = 0 then (0, 0, 10)
    else if c.toNat < 128 then (acc + c.toNat * 128 ^ i, i + 1, 0)
    else getL r (i + 1) (acc + c.toNat % 128 * 128 ^ i)
def get (l : List UInt8) : Nat × Nat × Nat := getL l 0 0
def zig (n : Int) : Nat := if n < 0 then (2 * (-(n + 1)) + 1).toNat else (2 * n).toNat
def zag (u : Nat) : Int := if u % 2 = 1 then -((u / 2 : Nat) : Int) - 1 else ((u / 2 : Nat) : Int)
theorem ofNat_toNat (n : Nat) (h : n < 256) : (UInt8.ofNat n).toNat = n := by
  simp [Nat.mod_eq_of_lt h]
theorem getL_lebF : ∀ (f m i acc : Nat) (r : List UInt8), i + f = 9 → m < 128 ^ (f + 1) → (0 < i → 0 < m) → m * 128 ^ i < 18446744073709551616 →
    getL (lebF f m ++ r) i acc = (acc + m * 128 ^ i, i + (lebF f m).length, 0) := by
  intro f
  induction f with
  | zero =>
    intro m i acc r hi hm hp hb
    have hi9 : i = 9 := by omega
    subst hi9
    have hm2 : m < 2 := by
      have h128 : (128 : Nat) ^ 9 = 9223372036854775808 := by decide
      rw [h128] at hb; omega
    have hm1 : m = 1 := by have := hp (by omega); omega
    subst hm1
    simp [lebF, getL]
  | succ f ih =>
    intro m i acc r hi hm hp hb
    by_cases hs : m < 128
    · rw [lebF_small _ _ hs]
      have ht := ofNat_toNat m (by omega)
      simp only [List.cons_append, List.nil_append, getL, ht, List.length_cons, List.length_nil]
      rw [if_neg (by omega), if_neg (by intro ⟨h1, h2⟩; have := hp h1; omega), if_pos hs]
    · have hs' : 128 ≤ m := by omega
      rw [lebF_big _ _ hs']
      have ht := ofNat_toNat (m % 128 + 128) (by omega)
      simp only [List.cons_append, getL, ht, List.length_cons]
      have hpow : 128 ^ (i + 1) = 128 * 128 ^ i := by rw [Nat.pow_succ, Nat.mul_comm]
      have hdm : m / 128 * 128 ^ (i + 1) ≤ m * 128 ^ i := by
        rw [hpow, ← Nat.mul_assoc]; exact Nat.mul_le_mul_right _ (Nat.div_mul_le_self m 128)
      rw [if_neg (by omega), if_neg (by omega), if_neg (by omega)]
      rw [ih (m / 128) (i + 1) _ r (by omega) (by
        rw [Nat.pow_succ] at hm
        exact Nat.div_lt_of_lt_mul (by rw [Nat.mul_comm]; exact hm)) (by omega) (Nat.lt_of_le_of_lt hdm hb)]
      have h1 : (m % 128 + 128) % 128 = m % 128 := by omega
      have h2 : m * 128 ^ i = m % 128 * 128 ^ i + m / 128 * 128 ^ (i + 1) := by
        rw [hpow, ← Nat.mul_assoc, ← Nat.add_mul]
        congr 1
        omega
      rw [h1, h2]
      simp only [Prod.mk.injEq, and_true]
      constructor
      · omega
      · omega
theorem get_leb (n : Nat) (hn : n < 18446744073709551616) (r : List UInt8) : get (leb n ++ r) = (n, (leb n).length, 0) := by
  have h := getL_lebF 9 n 0 0 r rfl (by
    have h128 : (128 : Nat) ^ (9 + 1) = 1180591620717411303424 := by decide
    rw [h128]; omega) (by omega) (by simpa using hn)
  simpa [get, leb] using h
theorem getL_only : ∀ (l : List UInt8) (i acc : Nat), i ≤ 9 →
    (∃ m, getL l i acc = (acc + m * 128 ^ i, i + (lebF (9 - i) m).length, 0) ∧ (lebF (9 - i) m).length ≤ l.length ∧ lebF (9 - i) m = l.take (lebF (9 - i) m).length ∧ (0 < i → 0 < m) ∧ m * 128 ^ i < 18446744073709551616 ∧ m < 128 ^ (10 - i)) ∨
    ∃ e, getL l i acc = (0, 0, e) ∧ e ≠ 0 ∧ e < 11 := by
  intro l
  induction l with
  | nil => intro i acc _; exact .inr ⟨3, rfl, by omega, by omega⟩
  | cons c r ih =>
    intro i acc hi
    unfold getL
    have hc : c.toNat < 256 := c.toNat_lt
    by_cases h1 : i = 9 ∧ 1 < c.toNat
    · rw [if_pos h1]; exact .inr ⟨6, rfl, by omega, by omega⟩
    rw [if_neg h1]
    by_cases h2 : 0 < i ∧ c.toNat = 0
    · rw [if_pos h2]; exact .inr ⟨10, rfl, by omega, by omega⟩
    rw [if_neg h2]
    have hci : UInt8.ofNat c.toNat = c := by simp
    by_cases h3 : c.toNat < 128
    · rw [if_pos h3]
      refine .inl ⟨c.toNat, ?_⟩
      rw [lebF_small _ _ h3]
      have hpow : c.toNat * 128 ^ i < 18446744073709551616 := by
        rcases Nat.lt_or_ge i 9 with hlt | hge
        · have h8 : 128 ^ i ≤ 128 ^ 8 := Nat.pow_le_pow_right (by omega) (by omega)
          have h128 : (128 : Nat) ^ 8 = 72057594037927936 := by decide
          have := Nat.mul_le_mul (Nat.le_of_lt_succ h3 : c.toNat ≤ 127) h8
          rw [h128] at this
          omega
        · have hi9 : i = 9 := by omega
          subst hi9
          have h128 : (128 : Nat) ^ 9 = 9223372036854775808 := by decide
          rw [h128]
          omega
      refine ⟨rfl, by simp, by simp [hci], by omega, hpow, ?_⟩
      calc c.toNat < 128 ^ 1 := by simpa using h3
        _ ≤ 128 ^ (10 - i) := Nat.pow_le_pow_right (by omega) (by omega)
    · rw [if_neg h3]
      have hi8 : i ≤ 8 := by omega
      rcases ih (i + 1) (acc + c.toNat % 128 * 128 ^ i) (by omega) with ⟨m, hg, hl, htk, hpos, hlt, hlt2⟩ | h
      · refine .inl ⟨c.toNat % 128 + 128 * m, ?_⟩
        have hm := hpos (by omega)
        have e1 : 9 - i = (9 - (i + 1)) + 1 := by omega
        have hm0 : (c.toNat % 128 + 128 * m) % 128 = c.toNat % 128 := by omega
        have hm1 : (c.toNat % 128 + 128 * m) / 128 = m := by omega
        have hbig := lebF_big (9 - (i + 1)) (c.toNat % 128 + 128 * m) (by omega)
        rw [hm0, hm1] at hbig
        have hc2 : UInt8.ofNat (c.toNat % 128 + 128) = c := by
          have : c.toNat % 128 + 128 = c.toNat := by omega
          rw [this, hci]
        rw [hc2] at hbig
        rw [e1, hbig, hg]
        have hpow : 128 ^ (i + 1) = 128 * 128 ^ i := by rw [Nat.pow_succ, Nat.mul_comm]
        have e2 : (c.toNat % 128 + 128 * m) * 128 ^ i = c.toNat % 128 * 128 ^ i + m * 128 ^ (i + 1) := by
          rw [hpow, Nat.add_mul, ← Nat.mul_assoc, Nat.mul_comm m 128]
        have e10 : 10 - i = (10 - (i + 1)) + 1 := by omega
        refine ⟨?_, by simpa using hl, by rw [List.length_cons, List.take_succ_cons, ← htk], fun _ => by omega, ?_, ?_⟩
        · rw [e2]
          simp only [Prod.mk.injEq, List.length_cons, and_true]
          constructor <;> omega
        · -- the bound: m * 128^(i+1) < 2^64 with room for the lower digit
          have hdig : c.toNat % 128 * 128 ^ i < 128 ^ (i + 1) := by
            rw [hpow]; exact Nat.mul_lt_mul_of_lt_of_le (by omega) (Nat.le_refl _) (Nat.pow_pos (by omega))
          rw [e2]
          have hdvd : 18446744073709551616 = (18446744073709551616 / 128 ^ (i + 1)) * 128 ^ (i + 1) := by
            have : i = 0 ∨ i = 1 ∨ i = 2 ∨ i = 3 ∨ i = 4 ∨ i = 5 ∨ i = 6 ∨ i = 7 ∨ i = 8 := by omega
            rcases this with rfl | rfl | rfl | rfl | rfl | rfl | rfl | rfl | rfl <;> decide
          generalize 18446744073709551616 / 128 ^ (i + 1) = q at hdvd
          rw [hdvd] at hlt ⊢
          have hmq : m < q := Nat.lt_of_mul_lt_mul_right hlt
          have : (m + 1) * 128 ^ (i + 1) ≤ q * 128 ^ (i + 1) := Nat.mul_le_mul_right _ hmq
          rw [Nat.add_mul, Nat.one_mul] at this
          omega
        · rw [e10, Nat.pow_succ]
          have : 10 - (i + 1) = 9 - i := by omega
          omega
      · exact .inr h
theorem get_only (l : List UInt8) : (∃ n, get l = (n, (leb n).length, 0) ∧ n < 18446744073709551616 ∧ (leb n).length ≤ l.length ∧ leb n = l.take (leb n).length) ∨ ∃ e, get l = (0, 0, e) ∧ e ≠ 0 ∧ e < 11 := by
  rcases getL_only l 0 0 (by omega) with ⟨m, h1, h2, h3, _, h5, _⟩ | h
  · refine .inl ⟨m, ?_⟩
    simp only [Nat.pow_zero, Nat.mul_one, Nat.zero_add, Nat.sub_zero] at h1 h2 h3 h5
    exact ⟨h1, h5, h2, h3⟩
  · exact .inr h
theorem lebF_mono : ∀ (f n m : Nat), n ≤ m → (lebF f n).length ≤ (lebF f m).length := by
  intro f
  induction f with
  | zero => intro n m _; simp [lebF]
  | succ f ih =>
    intro n m h
    by_cases hn : n < 128
    · rw [lebF_small _ _ hn]; exact lebF_pos _ _
    · rw [lebF_big _ _ (by omega), lebF_big _ _ (by omega)]
      simp only [List.length_cons]
      have := ih (n / 128) (m / 128) (Nat.div_le_div_right h)
      omega
theorem leb_mono (n m : Nat) (h : n ≤ m) : (leb n).length ≤ (leb m).length := lebF_mono 9 n m h
theorem zig_lt (n : Int) (h1 : -9223372036854775808 ≤ n) (h2 : n ≤ 9223372036854775807) : zig n < 18446744073709551616 := by
  unfold zig; split <;> omega
theorem zag_zig (n : Int) : zag (zig n) = n := by
  unfold zag zig; split <;> split <;> omega
theorem zig_zag (u : Nat) : zig (zag u) = u := by
  unfold zag zig; split <;> split <;> omega
theorem zag_bounds (u : Nat) (h : u < 18446744073709551616) : -9223372036854775808 ≤ zag u ∧ zag u ≤ 9223372036854775807 := by
  unfold zag; split <;> omega
end Go.Proofs.YtegcbjkikhheiaaGreatDoor
namespace Go.Proofs.YtegcbjkikhheiaaGreatDoor
instance textEq : DecidableEq ByteArray := fun a b => decidable_of_iff (a.data = b.data) ⟨fun h => by cases a; cases b; simp_all, fun h => by rw [h]⟩
def bts (s : ByteArray) : List UInt8 := s.data.toList
def txt (l : List UInt8) : ByteArray := ⟨l.toArray⟩
@[simp] theorem bts_txt (l : List UInt8) : bts (txt l) = l := rfl
@[simp] theorem txt_bts (s : ByteArray) : txt (bts s) = s := rfl
def putText (s : ByteArray) : List UInt8 := leb (bts s).length ++ bts s
def putD (l : List ByteArray) : List UInt8 := leb (splitL l).1.length ++ (splitL l).1.flatMap putText ++ (splitL l).2.flatMap leb
def takeTexts (most : Int) : Nat → List UInt8 → List ByteArray → Except Nat (List ByteArray × List UInt8)
  | 0, b, d => .ok (d, b)
  | k + 1, b, d =>
    if (get b).2.2 ≠ 0 then .error (get b).2.2
    else if most < 0 ∨ most < ((get b).1 : Int) then .error 5
    else if (b.drop (get b).2.1).length < (get b).1 then .error 3
    else if (placeL d (txt ((b.drop (get b).2.1).take (get b).1))).isSome then .error 150
    else takeTexts most k ((b.drop (get b).2.1).drop (get b).1) (d ++ [txt ((b.drop (get b).2.1).take (get b).1)])
def takeNums (m : Nat) : Nat → List UInt8 → Nat → List Nat → Except Nat (Nat × List Nat × List UInt8)
  | 0, b, u, out => .ok (u, out, b)
  | k + 1, b, u, out =>
    if (get b).2.2 ≠ 0 then .error (get b).2.2
    else if m ≤ (get b).1 ∨ u < (get b).1 then .error 150
    else takeNums m k (b.drop (get b).2.1) (if (get b).1 = u then u + 1 else u) (out ++ [(get b).1])
theorem takeTexts_put (most : Int) : ∀ (t : List ByteArray) (d : List ByteArray) (r : List UInt8), (d ++ t).Nodup → (∀ s ∈ t, ((bts s).length : Int) ≤ most) → (∀ s ∈ t, (bts s).length < 18446744073709551616) →
    takeTexts most t.length (t.flatMap putText ++ r) d = .ok (d ++ t, r)
  | [], d, r, _, _, _ => by simp [takeTexts]
  | s :: t, d, r, hn, hm, hs => by
    have hg : get (putText s ++ (t.flatMap putText ++ r)) = ((bts s).length, (leb (bts s).length).length, 0) := by
      unfold putText
      rw [List.append_assoc]
      exact get_leb _ (hs s (by simp)) _
    have hdrop : (putText s ++ (t.flatMap putText ++ r)).drop (leb (bts s).length).length = bts s ++ (t.flatMap putText ++ r) := by
      unfold putText
      rw [List.append_assoc, List.drop_left]
    rw [List.length_cons, List.flatMap_cons, List.append_assoc, takeTexts, hg]
    simp only [hdrop]
    have h1 := hm s (by simp)
    have hnot : s ∉ d := by
      intro h
      exact (List.nodup_append.1 hn).2.2 s h s (by simp) rfl
    rw [if_neg (by simp), if_neg (by omega), if_neg (by simp), List.take_left, List.drop_left, txt_bts, (placeL_none d s).2 hnot, if_neg (by simp)]
    rw [takeTexts_put most t (d ++ [s]) r (by simpa using hn) (fun x hx => hm x (by simp [hx])) (fun x hx => hs x (by simp [hx]))]
    simp
theorem takeNums_put (m : Nat) : ∀ (ns : List Nat) (u v : Nat) (out : List Nat) (r : List UInt8), (∀ n ∈ ns, n < m) → m < 18446744073709551616 → usedL u ns = some v →
    takeNums m ns.length (ns.flatMap leb ++ r) u out = .ok (v, out ++ ns, r)
  | [], u, v, out, r, _, _, h => by
    obtain rfl : u = v := by simpa [usedL] using h
    simp [takeNums]
  | n :: ns, u, v, out, r, hm, hb, h => by
    have hn := hm n (by simp)
    rw [usedL] at h
    split at h
    · cases h
    · rename_i hnu
      rw [List.length_cons, List.flatMap_cons, List.append_assoc, takeNums, get_leb n (by omega)]
      simp only [List.drop_left]
      rw [if_neg (by simp), if_neg (by omega), takeNums_put m ns _ v _ r (fun x hx => hm x (by simp [hx])) hb h]
      simp
theorem get_take (b : List UInt8) (h : (get b).2.2 = 0) : b = leb (get b).1 ++ b.drop (get b).2.1 := by
  rcases get_only b with ⟨n, e, -, -, h4⟩ | ⟨e, h1, h2, -⟩
  · rw [e]
    simp only
    exact (List.take_append_drop (leb n).length b).symm.trans (by rw [← h4])
  · rw [h1] at h
    exact absurd h h2
theorem takeTexts_only (most : Int) : ∀ (k : Nat) (b : List UInt8) (d d' : List ByteArray) (r : List UInt8), takeTexts most k b d = .ok (d', r) →
    ∃ t, d' = d ++ t ∧ t.length = k ∧ b = t.flatMap putText ++ r ∧ (d.Nodup → d'.Nodup)
  | 0, b, d, d', r, h => by
    simp only [takeTexts, Except.ok.injEq, Prod.mk.injEq] at h
    exact ⟨[], by simp [h.1], rfl, by simp [h.2], fun hn => h.1 ▸ hn⟩
  | k + 1, b, d, d', r, h => by
    rw [takeTexts] at h
    split at h
    · cases h
    · rename_i h0
      split at h
      · cases h
      · split at h
        · cases h
        · rename_i hlen
          split at h
          · cases h
          · rename_i hp
            have hb := get_take b (by simpa using h0)
            obtain ⟨t, e1, e2, e3, e4⟩ := takeTexts_only most k _ _ d' r h
            generalize b.drop (get b).2.1 = c at hb hlen hp e1 e3 e4
            generalize (get b).1 = n at hb hlen hp e1 e3 e4
            have hn : (bts (txt (c.take n))).length = n := by rw [bts_txt, List.length_take]; omega
            refine ⟨txt (c.take n) :: t, by rw [e1]; simp, by simp [e2], ?_, fun hnd => e4 ?_⟩
            · rw [List.flatMap_cons, putText, hn, bts_txt, List.append_assoc, List.append_assoc, ← e3, List.take_append_drop]
              exact hb
            · have hno := (placeL_none d _).1 (by simpa using hp)
              rw [List.nodup_append]
              exact ⟨hnd, by simp, fun a ha x hx => by rw [List.mem_singleton] at hx; subst hx; exact fun e => hno (e ▸ ha)⟩
theorem takeNums_only (m : Nat) : ∀ (k : Nat) (b : List UInt8) (u v : Nat) (out out' : List Nat) (r : List UInt8), takeNums m k b u out = .ok (v, out', r) →
    ∃ ns, out' = out ++ ns ∧ ns.length = k ∧ b = ns.flatMap leb ++ r ∧ usedL u ns = some v ∧ ∀ n ∈ ns, n < m
  | 0, b, u, v, out, out', r, h => by
    simp only [takeNums, Except.ok.injEq, Prod.mk.injEq] at h
    exact ⟨[], by simp [h.2.1], rfl, by simp [h.2.2], by rw [usedL, h.1], by simp⟩
  | k + 1, b, u, v, out, out', r, h => by
    rw [takeNums] at h
    split at h
    · cases h
    · rename_i h0
      split at h
      · cases h
      · rename_i hc
        have hb := get_take b (by simpa using h0)
        obtain ⟨ns, e1, e2, e3, e4, e5⟩ := takeNums_only m k _ _ v _ out' r h
        generalize b.drop (get b).2.1 = c at hb e3
        generalize (get b).1 = n at hb hc e1 e4
        refine ⟨n :: ns, by rw [e1]; simp, by simp [e2], by rw [List.flatMap_cons, List.append_assoc, ← e3]; exact hb, ?_, ?_⟩
        · rw [usedL, if_neg (by omega)]
          exact e4
        · intro x hx
          rcases List.mem_cons.1 hx with rfl | hx
          · omega
          · exact e5 x hx
end Go.Proofs.YtegcbjkikhheiaaGreatDoor
namespace Go.Proofs.YtegcbjkikhheiaaGreatDoor
open Go.RowKit
theorem text_eqb2 (a b : ByteArray) : (a.toList == b.toList) = decide (a = b) := by
  by_cases h : a = b
  · rw [h, decide_eq_true rfl]; simp
  · rw [decide_eq_false h, Lib.bytes_beq_false_iff]; exact h
end Go.Proofs.YtegcbjkikhheiaaGreatDoor
namespace Go.Proofs
open Go.Shelf
def Tryz.laysValid_ren : Go.Shelf.Ren := ⟨fun | 196 => 192 | 259 => 216 | n => n, fun | 9 => 9 | 4 => 4 | 3 => 3 | 5 => 5 | 12 => 12 | 119 => 220 | 0 => 0 | 46 => 99 | 139 => 223 | 138 => 222 | 53 => 68 | n => n, fun | 3 => 1 | 4 => 2 | n => n⟩
theorem Tryz.laysValid : Go.Proofs.Lays.n196 Tryz.prog Tryz.laysValid_ren := {
  mixed := by kernel_rfl
  f196 := Tryz.func192.trans (congrArg some (by kernel_rfl))
  f259 := Tryz.func216.trans (congrArg some (by kernel_rfl))
  t0 := Tryz.underlying0
  a0 := Tryz.isAgg0
  z0 := Tryz.sizeOf0
  v0 := Tryz.zeroValue0
  t3 := Tryz.underlying3
  a3 := Tryz.isAgg3
  z3 := Tryz.sizeOf3
  v3 := Tryz.zeroValue3
  t4 := Tryz.underlying4
  a4 := Tryz.isAgg4
  z4 := Tryz.sizeOf4
  v4 := Tryz.zeroValue4
  t5 := Tryz.underlying5
  a5 := Tryz.isAgg5
  z5 := Tryz.sizeOf5
  v5 := Tryz.zeroValue5
  t9 := Tryz.underlying9
  a9 := Tryz.isAgg9
  z9 := Tryz.sizeOf9
  v9 := Tryz.zeroValue9
  t12 := Tryz.underlying12
  a12 := Tryz.isAgg12
  z12 := Tryz.sizeOf12
  v12 := Tryz.zeroValue12
  t46 := Tryz.underlying99
  a46 := Tryz.isAgg99
  z46 := Tryz.sizeOf99
  v46 := Tryz.zeroValue99
  t53 := Tryz.underlying68
  a53 := Tryz.isAgg68
  z53 := Tryz.sizeOf68
  v53 := Tryz.zeroValue68
  t119 := Tryz.underlying220
  a119 := Tryz.isAgg220
  z119 := Tryz.sizeOf220
  t138 := Tryz.underlying222
  a138 := Tryz.isAgg222
  z138 := Tryz.sizeOf222
  v138 := Tryz.zeroValue222
  t139 := Tryz.underlying223
  a139 := Tryz.isAgg223
  z139 := Tryz.sizeOf223
  v139 := Tryz.zeroValue223
  g3 := by kernel_rfl
  g4 := by kernel_rfl }
end Go.Proofs
namespace Go.Proofs.YtegcbjkikhheiaaGreatDoor
open Go.RowKit
def Tabs (w : World) : Prop := Lib.Utf8Tabs 1 2 w
theorem Tabs.on {w w' : World} (h : Tabs w) (hb : Below w.heap.size w w') : Tabs w' := Utf8Tabs_below h hb
set_option maxRecDepth 100000 in
theorem pvalid_any (s : ByteArray) (w : World) (hs : s.size ≤ 9223372036854775807) (hT : Tabs w) :
    Calls Tryz.prog 160 #[.string s] w fun e w' => e = .returned (.bool (Lib.validD s.data.toList)) ∧ Below w.heap.size w w' := by
  have cV : Calls Tryz.prog 192 #[.string s] w _ := Any.utf8_ValidString Tryz.laysValid s w hs hT
  have CV := Lib.hid cV
  clear cV hT
  go_enter Tryz.func160, Tryz.ntmps160
  go_wp2_with fail
  with_reducible refine (CV.out).mono ?_
  rintro e w' ⟨rfl, hb⟩
  go_wp2
  go_ret
  exact ⟨rfl, hb⟩
end Go.Proofs.YtegcbjkikhheiaaGreatDoor
namespace Go.Proofs.YtegcbjkikhheiaaGreatDoor
section
variable {P : Program} {md : Region.Mode} {ops : Array Oper} {Q : Exit → Act → World → Prop}
def orderB (md : Region.Mode) (ops : Array Oper) : List (Nat × Bool) → Array Bool → Bool
  | [], listed => (Region.ready md ops listed).isEmpty
  | (i, true) :: rest, listed => Region.ready md ops listed == [i] && orderB md ops rest (listed.setIfInBounds i true)
  | (i, false) :: rest, listed => Region.free md ops listed i && (Region.ready md ops listed).contains i && orderB md ops rest (listed.setIfInBounds i true)
end
end Go.Proofs.YtegcbjkikhheiaaGreatDoor
namespace Go.Proofs.YtegcbjkikhheiaaGreatDoor
section
variable {P : Program} {md : Region.Mode} {ops : Array Oper} {Q : Exit → Act → World → Prop} {S : World → Prop}
def wpHeld (P : Program) (ops : Array Oper) (Q : Exit → Act → World → Prop) (S : World → Prop) : List (Nat × Bool) → Act → World → Prop
  | [], a, w => Q .normal a w
  | (i, true) :: rest, a, w => ∃ o, ops[i]? = some o ∧ ∀ K : Act → World → Prop, (∀ a w, S w → wpHeld P ops Q S rest a w → K a w) → if Region.wanted o (yielded ops a.tmps) then o.wp P a w K Q else K (a.put o.dst undef) w
  | (i, false) :: rest, a, w => ∃ o v, ops[i]? = some o ∧ YieldsIf P ops S o v a ∧ S w ∧ wpHeld P ops Q S rest (a.put o.dst v) w
theorem held_pure {i : Nat} {o : Oper} {d : Tmp} {rest : List (Nat × Bool)} {a : Act} {w : World} {v : Value} (ho : ops[i]? = some o) (hd : o.dst = some d) (hw : Region.wanted o (yielded ops a.tmps) = true) (hS : S w)
    (hy : ∀ w, S w → (execOp a.eval o).run P w = .ok (.value v) w) (h : wpHeld P ops Q S rest { tmps := a.tmps.setIfInBounds d v, defers := a.defers } w) : wpHeld P ops Q S ((i, false) :: rest) a w :=
  ⟨o, v, ho, .inl ⟨hw, hy⟩, hS, by rw [hd]; exact h⟩
theorem held_off {i : Nat} {o : Oper} {d : Tmp} {rest : List (Nat × Bool)} {a : Act} {w : World} (ho : ops[i]? = some o) (hd : o.dst = some d) (hw : Region.wanted o (yielded ops a.tmps) = false) (hS : S w)
    (h : wpHeld P ops Q S rest { tmps := a.tmps.setIfInBounds d undef, defers := a.defers } w) : wpHeld P ops Q S ((i, false) :: rest) a w :=
  ⟨o, undef, ho, .inr ⟨hw, rfl⟩, hS, by rw [hd]; exact h⟩
theorem held_eff1 {i : Nat} {o : Oper} {rest : List (Nat × Bool)} {a : Act} {w : World} (ho : ops[i]? = some o) (hw : Region.wanted o (yielded ops a.tmps) = true)
    (h : ∀ K : Act → World → Prop, (∀ a w, S w → wpHeld P ops Q S rest a w → K a w) → o.wp P a w K Q) : wpHeld P ops Q S ((i, true) :: rest) a w :=
  ⟨o, ho, fun K hK => by rw [if_pos hw]; exact h K hK⟩
theorem held_go {X K : Act → World → Prop} {a : Act} {w : World} (hK : ∀ a w, S w → X a w → K a w) (hS : S w) (h : S w → X a w) : K a w := hK a w hS (h hS)
theorem held_end {a : Act} {w : World} (h : Q .normal a w) : wpHeld P ops Q S [] a w := h
theorem wpAnyH_of_held (hs : Region.noSelect ops = true) (hQ : ∀ d v c a w, Q (.panic c) (Act.put a d v) w → Q (.panic c) a w) :
    ∀ (l : List (Nat × Bool)) (fuel : Nat) (listed : Array Bool) (a : Act) (w : World), l.length ≤ fuel → orderB md ops l listed = true → wpHeld P ops Q S l a w → wpAnyH P md ops Q S fuel listed a w := by
  intro l
  induction l with
  | nil =>
    intro fuel listed a w _ ho h
    have hr : Region.ready md ops listed = [] := by simpa [orderB] using ho
    exact wpAnyH_done hr h fuel
  | cons x rest ih =>
    intro fuel listed a w hf ho h
    obtain ⟨i, b⟩ := x
    obtain ⟨fuel, rfl⟩ : ∃ f, fuel = f + 1 := ⟨fuel - 1, by simp at hf; omega⟩
    cases b with
    | true =>
      simp only [orderB, Bool.and_eq_true, beq_iff_eq] at ho
      obtain ⟨o, hoi, hl⟩ := h
      refine wpAnyH_all ho.1 (by simp) fun j hj => ?_
      obtain rfl : j = i := by simpa using hj
      unfold wpOp
      simp only [hoi]
      have := hl (fun a' w' => S w' ∧ wpAnyH P md ops Q S fuel (listed.setIfInBounds j true) a' w') (fun a w hS h => ⟨hS, ih fuel _ a w (by simpa using hf) ho.2 h⟩)
      split at this
      · rename_i hw
        simp only [hw, if_true]
        exact .inl this
      · rename_i hw
        simp only [hw, if_false, Bool.false_eq_true]
        exact this
    | false =>
      simp only [orderB, Bool.and_eq_true] at ho
      obtain ⟨o, v, hoi, hy, hS, hl⟩ := h
      exact wpAnyH_take hoi hs ho.1.1 ho.1.2 (fun c a w => hQ _ _ c a w) hy hS (ih fuel _ _ w (by simpa using hf) ho.2 hl)
theorem wp_region_keep (S : World → Prop) (l : List (Nat × Bool)) {id : Nat} {a : Act} {w : World} (hm : P.follows .mixedOrders = true) (hs : Region.noSelect ops = true)
    (ho : (l.length == ops.size && orderB .any ops l (Array.replicate ops.size false)) = true)
    (hQ : ∀ d v c a w, Q (.panic c) (Act.put a d v) w → Q (.panic c) a w)
    (h : wpHeld P ops Q S l a w.drew) : (Code.region id ops true).wp P Q a w := by
  simp only [Bool.and_eq_true, beq_iff_eq] at ho
  exact wp_region_held hm (wpAnyH_of_held hs hQ l ops.size _ a _ (by omega) ho.2 h)
end
end Go.Proofs.YtegcbjkikhheiaaGreatDoor
namespace Go.Proofs.YtegcbjkikhheiaaGreatDoor
inductive Plan where
  | done
  | pure (i : Nat) (p : Plan)
  | eff (i : Nat) (p : Plan)
  | fork (i j : Nat) (p q : Plan)
section
variable {P : Program} {md : Region.Mode} {ops : Array Oper} {Q : Exit → Act → World → Prop} {S : World → Prop}
def wpPlan (P : Program) (ops : Array Oper) (Q : Exit → Act → World → Prop) (S : World → Prop) : Plan → Act → World → Prop
  | .done, a, w => Q .normal a w
  | .eff i p, a, w => ∃ o, ops[i]? = some o ∧ ∀ K : Act → World → Prop, (∀ a w, S w → wpPlan P ops Q S p a w → K a w) → if Region.wanted o (yielded ops a.tmps) then o.wp P a w K Q else K (a.put o.dst undef) w
  | .pure i p, a, w => ∃ o v, ops[i]? = some o ∧ YieldsIf P ops S o v a ∧ S w ∧ wpPlan P ops Q S p (a.put o.dst v) w
  | .fork i j p q, a, w => (∃ o, ops[i]? = some o ∧ ∀ K : Act → World → Prop, (∀ a w, S w → wpPlan P ops Q S p a w → K a w) → if Region.wanted o (yielded ops a.tmps) then o.wp P a w K Q else K (a.put o.dst undef) w) ∧
      (∃ o, ops[j]? = some o ∧ ∀ K : Act → World → Prop, (∀ a w, S w → wpPlan P ops Q S q a w → K a w) → if Region.wanted o (yielded ops a.tmps) then o.wp P a w K Q else K (a.put o.dst undef) w)
theorem plan_pure {i : Nat} {o : Oper} {d : Tmp} {p : Plan} {a : Act} {w : World} {v : Value} (ho : ops[i]? = some o) (hd : o.dst = some d) (hw : Region.wanted o (yielded ops a.tmps) = true) (hS : S w)
    (hy : ∀ w, S w → (execOp a.eval o).run P w = .ok (.value v) w) (h : wpPlan P ops Q S p { tmps := a.tmps.setIfInBounds d v, defers := a.defers } w) : wpPlan P ops Q S (.pure i p) a w :=
  ⟨o, v, ho, .inl ⟨hw, hy⟩, hS, by rw [hd]; exact h⟩
theorem plan_off {i : Nat} {o : Oper} {d : Tmp} {p : Plan} {a : Act} {w : World} (ho : ops[i]? = some o) (hd : o.dst = some d) (hw : Region.wanted o (yielded ops a.tmps) = false) (hS : S w)
    (h : wpPlan P ops Q S p { tmps := a.tmps.setIfInBounds d undef, defers := a.defers } w) : wpPlan P ops Q S (.pure i p) a w :=
  ⟨o, undef, ho, .inr ⟨hw, rfl⟩, hS, by rw [hd]; exact h⟩
theorem plan_eff {i : Nat} {o : Oper} {p : Plan} {a : Act} {w : World} (ho : ops[i]? = some o)
    (h : ∀ K : Act → World → Prop, (∀ a w, S w → wpPlan P ops Q S p a w → K a w) → if Region.wanted o (yielded ops a.tmps) then o.wp P a w K Q else K (a.put o.dst undef) w) : wpPlan P ops Q S (.eff i p) a w :=
  ⟨o, ho, h⟩
theorem plan_eff1 {i : Nat} {o : Oper} {p : Plan} {a : Act} {w : World} (ho : ops[i]? = some o) (hw : Region.wanted o (yielded ops a.tmps) = true)
    (h : ∀ K : Act → World → Prop, (∀ a w, S w → wpPlan P ops Q S p a w → K a w) → o.wp P a w K Q) : wpPlan P ops Q S (.eff i p) a w :=
  ⟨o, ho, fun K hK => by rw [if_pos hw]; exact h K hK⟩
theorem plan_fork {i j : Nat} {p q : Plan} {a : Act} {w : World} (h1 : wpPlan P ops Q S (.eff i p) a w) (h2 : wpPlan P ops Q S (.eff j q) a w) : wpPlan P ops Q S (.fork i j p q) a w := ⟨h1, h2⟩
theorem plan_end {a : Act} {w : World} (h : Q .normal a w) : wpPlan P ops Q S .done a w := h
def planB (md : Region.Mode) (ops : Array Oper) : Plan → Array Bool → Bool
  | .done, listed => (Region.ready md ops listed).isEmpty
  | .eff i p, listed => Region.ready md ops listed == [i] && planB md ops p (listed.setIfInBounds i true)
  | .pure i p, listed => Region.free md ops listed i && (Region.ready md ops listed).contains i && planB md ops p (listed.setIfInBounds i true)
  | .fork i j p q, listed => Region.ready md ops listed == [i, j] && planB md ops p (listed.setIfInBounds i true) && planB md ops q (listed.setIfInBounds j true)
def planN : Plan → Nat
  | .done => 0
  | .eff _ p => planN p + 1
  | .pure _ p => planN p + 1
  | .fork _ _ p q => max (planN p) (planN q) + 1
theorem wpAnyH_of_plan (hs : Region.noSelect ops = true) (hQ : ∀ d v c a w, Q (.panic c) (Act.put a d v) w → Q (.panic c) a w) :
    ∀ (l : Plan) (fuel : Nat) (listed : Array Bool) (a : Act) (w : World), planN l ≤ fuel → planB md ops l listed = true → wpPlan P ops Q S l a w → wpAnyH P md ops Q S fuel listed a w := by
  intro l
  induction l with
  | done =>
    intro fuel listed a w _ ho h
    have hr : Region.ready md ops listed = [] := by simpa [planB] using ho
    exact wpAnyH_done hr h fuel
  | eff i p ih =>
    intro fuel listed a w hf ho h
    simp only [planN] at hf
    obtain ⟨fuel, rfl⟩ : ∃ f, fuel = f + 1 := ⟨fuel - 1, by omega⟩
    simp only [planB, Bool.and_eq_true, beq_iff_eq] at ho
    obtain ⟨o, hoi, hl⟩ := h
    refine wpAnyH_all ho.1 (by simp) fun j hj => ?_
    obtain rfl : j = i := by simpa using hj
    unfold wpOp
    simp only [hoi]
    have := hl (fun a' w' => S w' ∧ wpAnyH P md ops Q S fuel (listed.setIfInBounds j true) a' w') (fun a w hS h => ⟨hS, ih fuel _ a w (by omega) ho.2 h⟩)
    split at this
    · rename_i hw
      simp only [hw, if_true]
      exact .inl this
    · rename_i hw
      simp only [hw, if_false, Bool.false_eq_true]
      exact this
  | pure i p ih =>
    intro fuel listed a w hf ho h
    simp only [planN] at hf
    obtain ⟨fuel, rfl⟩ : ∃ f, fuel = f + 1 := ⟨fuel - 1, by omega⟩
    simp only [planB, Bool.and_eq_true] at ho
    obtain ⟨o, v, hoi, hy, hS, hl⟩ := h
    exact wpAnyH_take hoi hs ho.1.1 ho.1.2 (fun c a w => hQ _ _ c a w) hy hS (ih fuel _ _ w (by omega) ho.2 hl)
  | fork i j p q ih1 ih2 =>
    intro fuel listed a w hf ho h
    simp only [planN] at hf
    obtain ⟨fuel, rfl⟩ : ∃ f, fuel = f + 1 := ⟨fuel - 1, by omega⟩
    simp only [planB, Bool.and_eq_true, beq_iff_eq] at ho
    refine wpAnyH_all ho.1.1 (by simp) fun k hk => ?_
    have hk' : k = i ∨ k = j := by simpa using hk
    rcases hk' with rfl | rfl
    · obtain ⟨o, hoi, hl⟩ := h.1
      unfold wpOp
      simp only [hoi]
      have := hl (fun a' w' => S w' ∧ wpAnyH P md ops Q S fuel (listed.setIfInBounds k true) a' w') (fun a w hS h => ⟨hS, ih1 fuel _ a w (by omega) ho.1.2 h⟩)
      split at this
      · rename_i hw
        simp only [hw, if_true]
        exact .inl this
      · rename_i hw
        simp only [hw, if_false, Bool.false_eq_true]
        exact this
    · obtain ⟨o, hoi, hl⟩ := h.2
      unfold wpOp
      simp only [hoi]
      have := hl (fun a' w' => S w' ∧ wpAnyH P md ops Q S fuel (listed.setIfInBounds k true) a' w') (fun a w hS h => ⟨hS, ih2 fuel _ a w (by omega) ho.2 h⟩)
      split at this
      · rename_i hw
        simp only [hw, if_true]
        exact .inl this
      · rename_i hw
        simp only [hw, if_false, Bool.false_eq_true]
        exact this
theorem wp_region_plan (S : World → Prop) (l : Plan) {id : Nat} {a : Act} {w : World} (hm : P.follows .mixedOrders = true) (hs : Region.noSelect ops = true)
    (ho : (Nat.ble (planN l) ops.size && planB .any ops l (Array.replicate ops.size false)) = true)
    (hQ : ∀ d v c a w, Q (.panic c) (Act.put a d v) w → Q (.panic c) a w)
    (h : wpPlan P ops Q S l a w.drew) : (Code.region id ops true).wp P Q a w := by
  simp only [Bool.and_eq_true, Nat.ble_eq] at ho
  exact wp_region_held hm (wpAnyH_of_plan hs hQ l ops.size _ a _ ho.1 ho.2 h)
end
end Go.Proofs.YtegcbjkikhheiaaGreatDoor
namespace Go.Proofs.YtegcbjkikhheiaaGreatDoor
open Go.RowKit
def mayK (k : Int) : Bool := decide (1 ≤ k ∧ k ≤ 5)
set_option maxRecDepth 100000 in
theorem may_any (k : Int) (nl : Bool) (w : World) : Calls Tryz.prog 74 #[.agg #[.int .i64 k, .bool nl]] w fun e w' => e = .returned (.bool (mayK k)) ∧ Below w.heap.size w w' := by
  unfold mayK
  by_cases h1 : 0 < k
  · have d1 : decide (0 < k) = true := decide_eq_true h1
    by_cases h2 : k < 6
    · have d2 : decide (k < 6) = true := decide_eq_true h2
      rw [decide_eq_true (by omega : 1 ≤ k ∧ k ≤ 5)]
      go_enter Tryz.func74, Tryz.ntmps74
      go_wp2
      go_ret
      exact ⟨rfl, (Below.refl _ _).alloc (Nat.le_refl _) _⟩
    · have d2 : decide (k < 6) = false := decide_eq_false h2
      rw [decide_eq_false (by omega : ¬ (1 ≤ k ∧ k ≤ 5))]
      go_enter Tryz.func74, Tryz.ntmps74
      go_wp2
      go_ret
      exact ⟨rfl, (Below.refl _ _).alloc (Nat.le_refl _) _⟩
  · have d1 : decide (0 < k) = false := decide_eq_false h1
    rw [decide_eq_false (by omega : ¬ (1 ≤ k ∧ k ≤ 5))]
    go_enter Tryz.func74, Tryz.ntmps74
    go_wp2
    go_ret
    exact ⟨rfl, (Below.refl _ _).alloc (Nat.le_refl _) _⟩
def PlainF (w : World) (F : Value) (a b : Int) : Prop := ∃ p q : Nat, F = .func (.func 148) #[] #[.pointer (some ⟨p, 0, none⟩), .pointer (some ⟨q, 0, none⟩)] ∧ p < w.heap.size ∧ q < w.heap.size ∧ w.cell? ⟨p, 0, none⟩ = some (.int .i64 a) ∧ w.cell? ⟨q, 0, none⟩ = some (.int .i64 b)
theorem PlainF.on {w w' : World} {F : Value} {a b : Int} (h : PlainF w F a b) (hb : Below w.heap.size w w') : PlainF w' F a b := by
  obtain ⟨p, q, h1, h2, h3, h4, h5⟩ := h
  exact ⟨p, q, h1, Nat.lt_of_lt_of_le h2 hb.size, Nat.lt_of_lt_of_le h3 hb.size, (hb.cell (p := ⟨p, 0, none⟩) h2).trans h4, (hb.cell (p := ⟨q, 0, none⟩) h3).trans h5⟩
set_option maxRecDepth 100000 in
theorem of1_any (a b : Int) (w : World) : Calls Tryz.prog 147 #[.int .i64 a, .int .i64 b] w fun e w' => ∃ F, e = .returned F ∧ PlainF w' F a b ∧ Below w.heap.size w w' := by
  go_enter Tryz.func147, Tryz.ntmps147
  go_wp2
  go_ret
  refine ⟨_, rfl, ⟨w.heap.size, w.heap.size + 1, rfl, by simp; omega, by simp, ?_, ?_⟩, ((Below.refl _ _).alloc (Nat.le_refl _) _).alloc (by simp) _⟩
  · simp
  · simp
theorem empty_no {s : ByteArray} (h : s ≠ ⟨#[]⟩) : s.toList.isEmpty = false := by
  have h2 : (s.toList == (⟨#[]⟩ : ByteArray).toList) = false := by rw [text_eqb2, decide_eq_false h]
  cases hl : s.toList with
  | nil => rw [hl] at h2; simp at h2
  | cons a l => rfl
set_option maxRecDepth 100000 in
set_option maxHeartbeats 1000000 in
theorem plain_any (p q : Nat) (a b n : Int) (nl : Bool) (s : ByteArray) (w : World) (hp : p < w.heap.size) (hq : q < w.heap.size) (h1 : w.cell? ⟨p, 0, none⟩ = some (.int .i64 a)) (h2 : w.cell? ⟨q, 0, none⟩ = some (.int .i64 b)) :
    Calls Tryz.prog 148 #[.agg #[.bool nl, .int .i64 n, .string s], .pointer (some ⟨p, 0, none⟩), .pointer (some ⟨q, 0, none⟩)] w fun e w' => e = .returned (.bool (decide (s = ⟨#[]⟩ ∧ a ≤ n ∧ n ≤ b))) ∧ Below w.heap.size w w' := by
  by_cases hs : s = ⟨#[]⟩
  · subst hs
    by_cases ha : a ≤ n
    · have d1 : decide (a ≤ n) = true := decide_eq_true ha
      have hv : decide ((⟨#[]⟩ : ByteArray) = ⟨#[]⟩ ∧ a ≤ n ∧ n ≤ b) = decide (n ≤ b) := by simp [ha]
      rw [hv]
      clear hv
      go_enter Tryz.func148, Tryz.ntmps148
      go_wp2
      go_ret
      exact ⟨rfl, (Below.refl _ _).alloc (Nat.le_refl _) _⟩
    · have d1 : decide (a ≤ n) = false := decide_eq_false ha
      have hv : decide ((⟨#[]⟩ : ByteArray) = ⟨#[]⟩ ∧ a ≤ n ∧ n ≤ b) = false := by simp [ha]
      rw [hv]
      clear hv
      go_enter Tryz.func148, Tryz.ntmps148
      go_wp2
      go_ret
      exact ⟨rfl, (Below.refl _ _).alloc (Nat.le_refl _) _⟩
  · have hte := empty_no hs
    have hv : decide (s = ⟨#[]⟩ ∧ a ≤ n ∧ n ≤ b) = false := decide_eq_false (fun h => hs h.1)
    rw [hv]
    clear hv
    go_enter Tryz.func148, Tryz.ntmps148
    go_wp2
    go_ret
    exact ⟨rfl, (Below.refl _ _).alloc (Nat.le_refl _) _⟩
abbrev Cl := Bool × Int × ByteArray
def clV (c : Cl) : Value := .agg #[.bool c.1, .int .i64 c.2.1, .string c.2.2]
def sizeC (n : Int) (s : ByteArray) : Bool := decide (n = 0 ∧ s.size ≤ 1024)
set_option maxRecDepth 100000 in
theorem of2_any (n : Int) (nl : Bool) (s : ByteArray) (w : World) : Calls Tryz.prog 149 #[.agg #[.bool nl, .int .i64 n, .string s]] w fun e w' => e = .returned (.bool (sizeC n s)) ∧ Below w.heap.size w w' := by
  unfold sizeC
  by_cases hn : n = 0
  · subst hn
    have hv : decide ((0 : Int) = 0 ∧ s.size ≤ 1024) = decide (s.size ≤ 1024) := by simp
    rw [hv]
    clear hv
    by_cases hs : s.size ≤ 1024
    · have d1 : decide ((s.size : Int) ≤ 1024) = true := by simp; omega
      rw [decide_eq_true hs]
      go_enter Tryz.func149, Tryz.ntmps149
      go_wp2
      go_ret
      exact ⟨rfl, (Below.refl _ _).alloc (Nat.le_refl _) _⟩
    · have d1 : decide ((s.size : Int) ≤ 1024) = false := by simp; omega
      rw [decide_eq_false hs]
      go_enter Tryz.func149, Tryz.ntmps149
      go_wp2
      go_ret
      exact ⟨rfl, (Below.refl _ _).alloc (Nat.le_refl _) _⟩
  · have d1 : (n == 0) = false := by simp [hn]
    have hv : decide (n = 0 ∧ s.size ≤ 1024) = false := by simp [hn]
    rw [hv]
    clear hv
    go_enter Tryz.func149, Tryz.ntmps149
    go_wp2
    go_ret
    exact ⟨rfl, (Below.refl _ _).alloc (Nat.le_refl _) _⟩
set_option maxRecDepth 100000 in
theorem of5_any (p : Nat) (n : Int) (nl : Bool) (s : ByteArray) (w : World) (hp : p < w.heap.size) (h1 : w.cell? ⟨p, 0, none⟩ = some (.func (.func 149) #[] #[])) (hT : Tabs w) :
    Calls Tryz.prog 159 #[.agg #[.bool nl, .int .i64 n, .string s], .pointer (some ⟨p, 0, none⟩)] w fun e w' => e = .returned (.bool (sizeC n s && Lib.validD s.data.toList)) ∧ Below w.heap.size w w' := by
  have HT := Lib.hid hT
  clear hT
  go_enter Tryz.func159, Tryz.ntmps159
  go_wp2_with fail
  with_reducible refine (of2_any n nl s _).mono ?_
  rintro e w1 ⟨rfl, hb1⟩
  have hb2 := bon (bal (Below.refl _ _) _) hb1
  have Hb2 := Lib.hid hb2
  have c2 := ((Blk.new w 53 #[.bool nl, .int .i64 n, .string s]).on hb1).cell 2
  clear hb1 hb2
  cases hsz : sizeC n s with
  | false =>
    go_wp2
    go_ret
    exact ⟨by rw [hsz, Bool.false_and]; rfl, Hb2.out⟩
  | true =>
    have hss : s.size ≤ 9223372036854775807 := by
      simp only [sizeC, decide_eq_true_eq] at hsz
      omega
    go_wp2_with fail
    with_reducible refine (pvalid_any s _ hss (HT.out.on Hb2.out)).mono ?_
    rintro e w2 ⟨rfl, hb3⟩
    go_wp2
    go_ret
    exact ⟨by rw [hsz, Bool.true_and]; rfl, bon Hb2.out hb3⟩
end Go.Proofs.YtegcbjkikhheiaaGreatDoor
