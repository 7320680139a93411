/- Part 2 of the walks, merged: each text under its own heading. Conditions: none of its own; each lemma states what it asks. -/
import Derived.Test.YtnkgchmkmhdcaaaGreatDoorGk1
import Derived.Laws.BitsLemmas
import Derived.Laws.MathBits
import Derived.Lib.SlicesS
import Derived.Deep.LoopGhost
import Derived.Shelf.Unicode.ValidAny
import Derived.Test.YtnkgchmkmhdcaaaGreatDoorProg
import Derived.RegionTactic
import Derived.WalkKit
import Derived.OrdersHeld
set_option linter.unusedVariables false
set_option linter.unusedSimpArgs false
namespace Go.Proofs.YtnkgchmkmhdcaaaGreatDoor
def lebF : Nat → Nat → List UInt8
 | 0, n => [UInt8.ofNat n]
 | f + 1, n => if n < 128 then [UInt8.ofNat n] else UInt8.ofNat (n % 128 + 128) :: lebF f (n / 128)
def leb (n : Nat) : List UInt8 := lebF 9 n
theorem lebF_small (f n : Nat) (h : n < 128) : lebF f n = [UInt8.ofNat n] := by
 cases f <;> simp [lebF, h]
theorem lebF_big (f n : Nat) (h : 128 ≤ n) : lebF (f + 1) n = UInt8.ofNat (n % 128 + 128) :: lebF f (n / 128) := by
 simp [lebF, Nat.not_lt.2 h]
theorem lebF_le : ∀ f n : Nat, (lebF f n).length ≤ f + 1
 | 0, n => by simp [lebF]
 | f + 1, n => by
  have := lebF_le f (n / 128)
  unfold lebF
  split <;> simp <;> omega
theorem leb_le (n : Nat) : (leb n).length ≤ 10 := lebF_le 9 n
def getL : List UInt8 → Nat → Nat → Nat × Nat × Nat
 | [], _, _ => (0, 0, 3)
 | c :: r, i, acc =>
  if i = 9 ∧ 1 < c.toNat then (0, 0, 6)
  else if 0 < i ∧ c.toNat = 0 then (0, 0, 10)
  else if c.toNat < 128 then (acc + c.toNat * 128 ^ i, i + 1, 0)
  else getL r (i + 1) (acc + c.toNat % 128 * 128 ^ i)
def get (l : List UInt8) : Nat × Nat × Nat := getL l 0 0
def zig (n : Int) : Nat := if n < 0 then (2 * (-(n + 1)) + 1).toNat else (2 * n).toNat
def zag (u : Nat) : Int := if u % 2 = 1 then -((u / 2 : Nat) : Int) - 1 else ((u / 2 : Nat) : Int)
theorem ofNat_toNat (n : Nat) (h : n < 256) : (UInt8.ofNat n).toNat = n := by
 simp [Nat.mod_eq_of_lt h]
theorem getL_lebF : ∀ (f m i acc : Nat) (r : List UInt8), i + f = 9 → m < 128 ^ (f + 1) → (0 < i → 0 < m) → m * 128 ^ i < 18446744073709551616 →
  getL (lebF f m ++ r) i acc = (acc + m * 128 ^ i, i + (lebF f m).length, 0) := by
 intro f
 induction f with
 | zero =>
  intro m i acc r hi hm hp hb
  have hi9 : i = 9 := by omega
  subst hi9
  have hm2 : m < 2 := by
   have h128 : (128 : Nat) ^ 9 = 9223372036854775808 := by decide
   rw [h128] at hb; omega
  have hm1 : m = 1 := by have := hp (by omega); omega
  subst hm1
  simp [lebF, getL]
 | succ f ih =>
  intro m i acc r hi hm hp hb
  by_cases hs : m < 128
  ·rw [lebF_small _ _ hs]
   have ht := ofNat_toNat m (by omega)
   simp only [List.cons_append, List.nil_append, getL, ht, List.length_cons, List.length_nil]
   rw [if_neg (by omega), if_neg (by intro ⟨h1, h2⟩; have := hp h1; omega), if_pos hs]
  ·have hs' : 128 ≤ m := by omega
   rw [lebF_big _ _ hs']
   have ht := ofNat_toNat (m % 128 + 128) (by omega)
   simp only [List.cons_append, getL, ht, List.length_cons]
   have hpow : 128 ^ (i + 1) = 128 * 128 ^ i := by rw [Nat.pow_succ, Nat.mul_comm]
   have hdm : m / 128 * 128 ^ (i + 1) ≤ m * 128 ^ i := by
    rw [hpow, ← Nat.mul_assoc]; exact Nat.mul_le_mul_right _ (Nat.div_mul_le_self m 128)
   rw [if_neg (by omega), if_neg (by omega), if_neg (by omega)]
   rw [ih (m / 128) (i + 1) _ r (by omega) (by
    rw [Nat.pow_succ] at hm
    exact Nat.div_lt_of_lt_mul (by rw [Nat.mul_comm]; exact hm)) (by omega) (Nat.lt_of_le_of_lt hdm hb)]
   have h1 : (m % 128 + 128) % 128 = m % 128 := by omega
   have h2 : m * 128 ^ i = m % 128 * 128 ^ i + m / 128 * 128 ^ (i + 1) := by
    rw [hpow, ← Nat.mul_assoc, ← Nat.add_mul]
    congr 1
    omega
   rw [h1, h2]
   simp only [Prod.mk.injEq, and_true]
   constructor
   ·omega
   ·omega
theorem get_leb (n : Nat) (hn : n < 18446744073709551616) (r : List UInt8) : get (leb n ++ r) = (n, (leb n).length, 0) := by
 have h := getL_lebF 9 n 0 0 r rfl (by
  have h128 : (128 : Nat) ^ (9 + 1) = 1180591620717411303424 := by decide
  rw [h128]; omega) (by omega) (by simpa using hn)
 simpa [get, leb] using h
theorem getL_only : ∀ (l : List UInt8) (i acc : Nat), i ≤ 9 →
  (∃ m, getL l i acc = (acc + m * 128 ^ i, i + (lebF (9 - i) m).length, 0) ∧ (lebF (9 - i) m).length ≤ l.length ∧ lebF (9 - i) m = l.take (lebF (9 - i) m).length ∧ (0 < i → 0 < m) ∧ m * 128 ^ i < 18446744073709551616 ∧ m < 128 ^ (10 - i)) ∨
  ∃ e, getL l i acc = (0, 0, e) ∧ e ≠ 0 ∧ e < 11 := by
 intro l
 induction l with
 | nil => intro i acc _; exact .inr ⟨3, rfl, by omega, by omega⟩
 | cons c r ih =>
  intro i acc hi
  unfold getL
  have hc : c.toNat < 256 := c.toNat_lt
  by_cases h1 : i = 9 ∧ 1 < c.toNat
  ·rw [if_pos h1]; exact .inr ⟨6, rfl, by omega, by omega⟩
  rw [if_neg h1]
  by_cases h2 : 0 < i ∧ c.toNat = 0
  ·rw [if_pos h2]; exact .inr ⟨10, rfl, by omega, by omega⟩
  rw [if_neg h2]
  have hci : UInt8.ofNat c.toNat = c := by simp
  by_cases h3 : c.toNat < 128
  ·rw [if_pos h3]
   refine .inl ⟨c.toNat, ?_⟩
   rw [lebF_small _ _ h3]
   have hpow : c.toNat * 128 ^ i < 18446744073709551616 := by
    rcases Nat.lt_or_ge i 9 with hlt | hge
    ·have h8 : 128 ^ i ≤ 128 ^ 8 := Nat.pow_le_pow_right (by omega) (by omega)
     have h128 : (128 : Nat) ^ 8 = 72057594037927936 := by decide
     have := Nat.mul_le_mul (Nat.le_of_lt_succ h3 : c.toNat ≤ 127) h8
     rw [h128] at this
     omega
    ·have hi9 : i = 9 := by omega
     subst hi9
     have h128 : (128 : Nat) ^ 9 = 9223372036854775808 := by decide
     rw [h128]
     omega
   refine ⟨rfl, by simp, by simp [hci], by omega, hpow, ?_⟩
   calc c.toNat < 128 ^ 1 := by simpa using h3
    _ ≤ 128 ^ (10 - i) := Nat.pow_le_pow_right (by omega) (by omega)
  ·rw [if_neg h3]
   have hi8 : i ≤ 8 := by omega
   rcases ih (i + 1) (acc + c.toNat % 128 * 128 ^ i) (by omega) with ⟨m, hg, hl, htk, hpos, hlt, hlt2⟩ | h
   ·refine .inl ⟨c.toNat % 128 + 128 * m, ?_⟩
    have hm := hpos (by omega)
    have e1 : 9 - i = (9 - (i + 1)) + 1 := by omega
    have hm0 : (c.toNat % 128 + 128 * m) % 128 = c.toNat % 128 := by omega
    have hm1 : (c.toNat % 128 + 128 * m) / 128 = m := by omega
    have hbig := lebF_big (9 - (i + 1)) (c.toNat % 128 + 128 * m) (by omega)
    rw [hm0, hm1] at hbig
    have hc2 : UInt8.ofNat (c.toNat % 128 + 128) = c := by
     have : c.toNat % 128 + 128 = c.toNat := by omega
     rw [this, hci]
    rw [hc2] at hbig
    rw [e1, hbig, hg]
    have hpow : 128 ^ (i + 1) = 128 * 128 ^ i := by rw [Nat.pow_succ, Nat.mul_comm]
    have e2 : (c.toNat % 128 + 128 * m) * 128 ^ i = c.toNat % 128 * 128 ^ i + m * 128 ^ (i + 1) := by
     rw [hpow, Nat.add_mul, ← Nat.mul_assoc, Nat.mul_comm m 128]
    have e10 : 10 - i = (10 - (i + 1)) + 1 := by omega
    refine ⟨?_, by simpa using hl, by rw [List.length_cons, List.take_succ_cons, ← htk], fun _ => by omega, ?_, ?_⟩
    ·rw [e2]
     simp only [Prod.mk.injEq, List.length_cons, and_true]
     constructor <;> omega
    ·                                                                
     have hdig : c.toNat % 128 * 128 ^ i < 128 ^ (i + 1) := by
      rw [hpow]; exact Nat.mul_lt_mul_of_lt_of_le (by omega) (Nat.le_refl _) (Nat.pow_pos (by omega))
     rw [e2]
     have hdvd : 18446744073709551616 = (18446744073709551616 / 128 ^ (i + 1)) * 128 ^ (i + 1) := by
      have : i = 0 ∨ i = 1 ∨ i = 2 ∨ i = 3 ∨ i = 4 ∨ i = 5 ∨ i = 6 ∨ i = 7 ∨ i = 8 := by omega
      rcases this with rfl | rfl | rfl | rfl | rfl | rfl | rfl | rfl | rfl <;> decide
     generalize 18446744073709551616 / 128 ^ (i + 1) = q at hdvd
     rw [hdvd] at hlt ⊢
     have hmq : m < q := Nat.lt_of_mul_lt_mul_right hlt
     have : (m + 1) * 128 ^ (i + 1) ≤ q * 128 ^ (i + 1) := Nat.mul_le_mul_right _ hmq
     rw [Nat.add_mul, Nat.one_mul] at this
     omega
    ·rw [e10, Nat.pow_succ]
     have : 10 - (i + 1) = 9 - i := by omega
     omega
   ·exact .inr h
theorem get_only (l : List UInt8) : (∃ n, get l = (n, (leb n).length, 0) ∧ n < 18446744073709551616 ∧ (leb n).length ≤ l.length ∧ leb n = l.take (leb n).length) ∨ ∃ e, get l = (0, 0, e) ∧ e ≠ 0 ∧ e < 11 := by
 rcases getL_only l 0 0 (by omega) with ⟨m, h1, h2, h3, _, h5, _⟩ | h
 ·refine .inl ⟨m, ?_⟩
  simp only [Nat.pow_zero, Nat.mul_one, Nat.zero_add, Nat.sub_zero] at h1 h2 h3 h5
  exact ⟨h1, h5, h2, h3⟩
 ·exact .inr h
theorem zig_lt (n : Int) (h1 : -9223372036854775808 ≤ n) (h2 : n ≤ 9223372036854775807) : zig n < 18446744073709551616 := by
 unfold zig; split <;> omega
theorem zag_zig (n : Int) : zag (zig n) = n := by
 unfold zag zig; split <;> split <;> omega
theorem zig_zag (u : Nat) : zig (zag u) = u := by
 unfold zag zig; split <;> split <;> omega
theorem zag_bounds (u : Nat) (h : u < 18446744073709551616) : -9223372036854775808 ≤ zag u ∧ zag u ≤ 9223372036854775807 := by
 unfold zag; split <;> omega
end Go.Proofs.YtnkgchmkmhdcaaaGreatDoor
namespace Go.Proofs.YtnkgchmkmhdcaaaGreatDoor
instance textEq : DecidableEq ByteArray := fun a b => decidable_of_iff (a.data = b.data) ⟨fun h => by cases a; cases b; simp_all, fun h => by rw [h]⟩
def bts (s : ByteArray) : List UInt8 := s.data.toList
def txt (l : List UInt8) : ByteArray := ⟨l.toArray⟩
@[simp] theorem bts_txt (l : List UInt8) : bts (txt l) = l := rfl
@[simp] theorem txt_bts (s : ByteArray) : txt (bts s) = s := rfl
def putText (s : ByteArray) : List UInt8 := leb (bts s).length ++ bts s
def putD (l : List ByteArray) : List UInt8 := leb (splitL l).1.length ++ (splitL l).1.flatMap putText ++ (splitL l).2.flatMap leb
def takeTexts (most : Int) : Nat → List UInt8 → List ByteArray → Except Nat (List ByteArray × List UInt8)
 | 0, b, d => .ok (d, b)
 | k + 1, b, d =>
  if (get b).2.2 ≠ 0 then .error (get b).2.2
  else if most < 0 ∨ most < ((get b).1 : Int) then .error 5
  else if (b.drop (get b).2.1).length < (get b).1 then .error 3
  else if (placeL d (txt ((b.drop (get b).2.1).take (get b).1))).isSome then .error 150
  else takeTexts most k ((b.drop (get b).2.1).drop (get b).1) (d ++ [txt ((b.drop (get b).2.1).take (get b).1)])
def takeNums (m : Nat) : Nat → List UInt8 → Nat → List Nat → Except Nat (Nat × List Nat × List UInt8)
 | 0, b, u, out => .ok (u, out, b)
 | k + 1, b, u, out =>
  if (get b).2.2 ≠ 0 then .error (get b).2.2
  else if m ≤ (get b).1 ∨ u < (get b).1 then .error 150
  else takeNums m k (b.drop (get b).2.1) (if (get b).1 = u then u + 1 else u) (out ++ [(get b).1])
theorem takeTexts_put (most : Int) : ∀ (t : List ByteArray) (d : List ByteArray) (r : List UInt8), (d ++ t).Nodup → (∀ s ∈ t, ((bts s).length : Int) ≤ most) → (∀ s ∈ t, (bts s).length < 18446744073709551616) →
  takeTexts most t.length (t.flatMap putText ++ r) d = .ok (d ++ t, r)
 | [], d, r, _, _, _ => by simp [takeTexts]
 | s :: t, d, r, hn, hm, hs => by
  have hg : get (putText s ++ (t.flatMap putText ++ r)) = ((bts s).length, (leb (bts s).length).length, 0) := by
   unfold putText
   rw [List.append_assoc]
   exact get_leb _ (hs s (by simp)) _
  have hdrop : (putText s ++ (t.flatMap putText ++ r)).drop (leb (bts s).length).length = bts s ++ (t.flatMap putText ++ r) := by
   unfold putText
   rw [List.append_assoc, List.drop_left]
  rw [List.length_cons, List.flatMap_cons, List.append_assoc, takeTexts, hg]
  simp only [hdrop]
  have h1 := hm s (by simp)
  have hnot : s ∉ d := by
   intro h
   exact (List.nodup_append.1 hn).2.2 s h s (by simp) rfl
  rw [if_neg (by simp), if_neg (by omega), if_neg (by simp), List.take_left, List.drop_left, txt_bts, (placeL_none d s).2 hnot, if_neg (by simp)]
  rw [takeTexts_put most t (d ++ [s]) r (by simpa using hn) (fun x hx => hm x (by simp [hx])) (fun x hx => hs x (by simp [hx]))]
  simp
theorem takeNums_put (m : Nat) : ∀ (ns : List Nat) (u v : Nat) (out : List Nat) (r : List UInt8), (∀ n ∈ ns, n < m) → m < 18446744073709551616 → usedL u ns = some v →
  takeNums m ns.length (ns.flatMap leb ++ r) u out = .ok (v, out ++ ns, r)
 | [], u, v, out, r, _, _, h => by
  obtain rfl : u = v := by simpa [usedL] using h
  simp [takeNums]
 | n :: ns, u, v, out, r, hm, hb, h => by
  have hn := hm n (by simp)
  rw [usedL] at h
  split at h
  ·cases h
  ·rename_i hnu
   rw [List.length_cons, List.flatMap_cons, List.append_assoc, takeNums, get_leb n (by omega)]
   simp only [List.drop_left]
   rw [if_neg (by simp), if_neg (by omega), takeNums_put m ns _ v _ r (fun x hx => hm x (by simp [hx])) hb h]
   simp
theorem get_take (b : List UInt8) (h : (get b).2.2 = 0) : b = leb (get b).1 ++ b.drop (get b).2.1 := by
 rcases get_only b with ⟨n, e, -, -, h4⟩ | ⟨e, h1, h2, -⟩
 ·rw [e]
  simp only
  exact (List.take_append_drop (leb n).length b).symm.trans (by rw [← h4])
 ·rw [h1] at h
  exact absurd h h2
theorem takeTexts_only (most : Int) : ∀ (k : Nat) (b : List UInt8) (d d' : List ByteArray) (r : List UInt8), takeTexts most k b d = .ok (d', r) →
  ∃ t, d' = d ++ t ∧ t.length = k ∧ b = t.flatMap putText ++ r ∧ (d.Nodup → d'.Nodup)
 | 0, b, d, d', r, h => by
  simp only [takeTexts, Except.ok.injEq, Prod.mk.injEq] at h
  exact ⟨[], by simp [h.1], rfl, by simp [h.2], fun hn => h.1 ▸ hn⟩
 | k + 1, b, d, d', r, h => by
  rw [takeTexts] at h
  split at h
  ·cases h
  ·rename_i h0
   split at h
   ·cases h
   ·split at h
    ·cases h
    ·rename_i hlen
     split at h
     ·cases h
     ·rename_i hp
      have hb := get_take b (by simpa using h0)
      obtain ⟨t, e1, e2, e3, e4⟩ := takeTexts_only most k _ _ d' r h
      generalize b.drop (get b).2.1 = c at hb hlen hp e1 e3 e4
      generalize (get b).1 = n at hb hlen hp e1 e3 e4
      have hn : (bts (txt (c.take n))).length = n := by rw [bts_txt, List.length_take]; omega
      refine ⟨txt (c.take n) :: t, by rw [e1]; simp, by simp [e2], ?_, fun hnd => e4 ?_⟩
      ·rw [List.flatMap_cons, putText, hn, bts_txt, List.append_assoc, List.append_assoc, ← e3, List.take_append_drop]
       exact hb
      ·have hno := (placeL_none d _).1 (by simpa using hp)
       rw [List.nodup_append]
       exact ⟨hnd, by simp, fun a ha x hx => by rw [List.mem_singleton] at hx; subst hx; exact fun e => hno (e ▸ ha)⟩
theorem takeNums_only (m : Nat) : ∀ (k : Nat) (b : List UInt8) (u v : Nat) (out out' : List Nat) (r : List UInt8), takeNums m k b u out = .ok (v, out', r) →
  ∃ ns, out' = out ++ ns ∧ ns.length = k ∧ b = ns.flatMap leb ++ r ∧ usedL u ns = some v ∧ ∀ n ∈ ns, n < m
 | 0, b, u, v, out, out', r, h => by
  simp only [takeNums, Except.ok.injEq, Prod.mk.injEq] at h
  exact ⟨[], by simp [h.2.1], rfl, by simp [h.2.2], by rw [usedL, h.1], by simp⟩
 | k + 1, b, u, v, out, out', r, h => by
  rw [takeNums] at h
  split at h
  ·cases h
  ·rename_i h0
   split at h
   ·cases h
   ·rename_i hc
    have hb := get_take b (by simpa using h0)
    obtain ⟨ns, e1, e2, e3, e4, e5⟩ := takeNums_only m k _ _ v _ out' r h
    generalize b.drop (get b).2.1 = c at hb e3
    generalize (get b).1 = n at hb hc e1 e4
    refine ⟨n :: ns, by rw [e1]; simp, by simp [e2], by rw [List.flatMap_cons, List.append_assoc, ← e3]; exact hb, ?_, ?_⟩
    ·rw [usedL, if_neg (by omega)]
     exact e4
    ·intro x hx
     rcases List.mem_cons.1 hx with rfl | hx
     ·omega
     ·exact e5 x hx
end Go.Proofs.YtnkgchmkmhdcaaaGreatDoor
namespace Go.Proofs.YtnkgchmkmhdcaaaGreatDoor
open Go.RowKit
def putR (r : Nat) : List UInt8 := if okR r = true then (encR r).map UInt8.ofNat else []
def PutP (r : Nat) (w : World) (e : Ending) (w' : World) : Prop := e = .returned (.tuple #[.string (txt (putR r)), .bool (okR r)]) ∧ Below w.heap.size w w'
theorem lit_string (w : World) (cs : Array Value) (xs : List UInt8) (b n : Nat) (hb : b = w.heap.size) (h : cs.toList = u8s xs) (hn : n = cs.size) :
  (convert 35 9 (.slice (some ⟨b, 0, none⟩) n n)).run Tryz.prog (w.alloc (.cells cs 5)) = .ok (.string (txt xs)) (w.alloc (.cells cs 5)) :=
 run_bytes_string _ 35 9 5 Tryz.underlying35 Tryz.underlying5 Tryz.underlying9 _ _ n n xs (reads_lit w cs 5 _ b n hb h hn)
theorem u8_nat (m : Nat) (h : m < 256) : Value.int .u8 (m : Int) = .int .u8 (((UInt8.ofNat m).toNat : Nat) : Int) := by
 rw [ofNat_toNat m h]
set_option maxRecDepth 100000 in
set_option maxHeartbeats 1000000 in
theorem uput_any (r : Nat) (w : World) (hr : r ≤ 2147483647) :
  Calls Tryz.prog 326 #[.int .i32 (r : Int)] w (PutP r w) := by
 unfold PutP
 have d0 : decide ((r : Int) < 0) = false := by simp
 have h0 : ¬ (r : Int) < 0 := by omega
 by_cases h1 : 1114111 < r
 ·have d1 : decide (1114111 < (r : Int)) = true := by simp; omega
  have ho : okR r = false := by unfold okR; rw [decide_eq_false]; omega
  have hp : putR r = [] := by unfold putR; rw [ho]; rfl
  rw [ho, hp]
  clear ho hp
  go_enter Tryz.func326, Tryz.ntmps326
  go_wp2
  go_ret2
  exact ⟨rfl, Below.refl _ _⟩
 ·have d1 : decide (1114111 < (r : Int)) = false := by simp; omega
  by_cases h2 : 55296 ≤ r ∧ r ≤ 57343
  ·have d2 : decide (55296 ≤ (r : Int)) = true := by simp; omega
   have d3 : decide ((r : Int) ≤ 57343) = true := by simp; omega
   have ho : okR r = false := by unfold okR; rw [decide_eq_false]; omega
   have hp : putR r = [] := by unfold putR; rw [ho]; rfl
   rw [ho, hp]
   have h3 := h2.1
   have h4 := h2.2
   clear ho hp h2
   go_enter Tryz.func326, Tryz.ntmps326
   go_wp2
   go_ret2
   exact ⟨rfl, Below.refl _ _⟩
  ·have ho : okR r = true := by unfold okR; rw [decide_eq_true]; omega
   have hp : putR r = (encR r).map UInt8.ofNat := by unfold putR; rw [ho]; rfl
   rw [ho, hp]
   clear ho hp
   by_cases q0 : 65536 ≤ r
   ·have hE : (encR r).map UInt8.ofNat = [UInt8.ofNat (240 + r / 262144), UInt8.ofNat (128 + r / 4096 % 64), UInt8.ofNat (128 + r / 64 % 64), UInt8.ofNat (128 + r % 64)] := by unfold encR; rw [if_neg (by omega), if_neg (by omega), if_neg (by omega)]; rfl
    rw [hE]
    clear hE
    have e0 : decide (65536 ≤ (r : Int)) = true := by simp; omega
    have hC := lit_string (w.alloc (.cells #[.int .u8 ((r : Int) % 256)] 5)) #[.int .u8 (240 + (r : Int) / 262144), .int .u8 (128 + (r : Int) / 4096 % 64), .int .u8 (128 + (r : Int) / 64 % 64), .int .u8 (128 + (r : Int) % 64)] [UInt8.ofNat (240 + r / 262144), UInt8.ofNat (128 + r / 4096 % 64), UInt8.ofNat (128 + r / 64 % 64), UInt8.ofNat (128 + r % 64)] (w.heap.size + 1) 4 (by simp) (by simp only [u8s, List.map_cons, List.map_nil]; rw [← u8_nat _ (by omega), ← u8_nat _ (by omega), ← u8_nat _ (by omega), ← u8_nat _ (by omega)]; rfl) rfl
    have z0 : 55296 ≤ r := by omega
    have z1 : decide (55296 ≤ (r : Int)) = true := by simp; omega
    have z2 : ¬ r ≤ 57343 := by omega
    have z3 : decide ((r : Int) ≤ 57343) = false := by simp; omega
    clear h2
    go_enter Tryz.func326, Tryz.ntmps326
    go_wp2
    go_ret2
    exact ⟨rfl, ((Below.refl _ _).alloc (Nat.le_refl _) _).alloc (by simp) _⟩
   ·skip
    by_cases q1 : 2048 ≤ r
    ·have hE : (encR r).map UInt8.ofNat = [UInt8.ofNat (224 + r / 4096), UInt8.ofNat (128 + r / 64 % 64), UInt8.ofNat (128 + r % 64)] := by unfold encR; rw [if_neg (by omega), if_neg (by omega), if_pos (by omega)]; rfl
     rw [hE]
     clear hE
     have e0 : decide (2048 ≤ (r : Int)) = true := by simp; omega
     have e1 : decide (65536 ≤ (r : Int)) = false := by simp; omega
     have hC := lit_string (w.alloc (.cells #[.int .u8 ((r : Int) % 256)] 5)) #[.int .u8 (224 + (r : Int) / 4096), .int .u8 (128 + (r : Int) / 64 % 64), .int .u8 (128 + (r : Int) % 64)] [UInt8.ofNat (224 + r / 4096), UInt8.ofNat (128 + r / 64 % 64), UInt8.ofNat (128 + r % 64)] (w.heap.size + 1) 3 (by simp) (by simp only [u8s, List.map_cons, List.map_nil]; rw [← u8_nat _ (by omega), ← u8_nat _ (by omega), ← u8_nat _ (by omega)]; rfl) rfl
     by_cases z : 55296 ≤ r
     ·have z1 : decide (55296 ≤ (r : Int)) = true := by simp; omega
      have z2 : ¬ r ≤ 57343 := by omega
      have z3 : decide ((r : Int) ≤ 57343) = false := by simp; omega
      clear h2
      go_enter Tryz.func326, Tryz.ntmps326
      go_wp2
      go_ret2
      exact ⟨rfl, ((Below.refl _ _).alloc (Nat.le_refl _) _).alloc (by simp) _⟩
     ·have z1 : decide (55296 ≤ (r : Int)) = false := by simp; omega
      have z2 : ¬ 55296 ≤ r := by omega
      clear h2
      go_enter Tryz.func326, Tryz.ntmps326
      go_wp2
      go_ret2
      exact ⟨rfl, ((Below.refl _ _).alloc (Nat.le_refl _) _).alloc (by simp) _⟩
    ·skip
     by_cases q2 : 128 ≤ r
     ·have hE : (encR r).map UInt8.ofNat = [UInt8.ofNat (192 + r / 64), UInt8.ofNat (128 + r % 64)] := by unfold encR; rw [if_neg (by omega), if_pos (by omega)]; rfl
      rw [hE]
      clear hE
      have e0 : decide (128 ≤ (r : Int)) = true := by simp; omega
      have e1 : decide (65536 ≤ (r : Int)) = false := by simp; omega
      have e2 : decide (2048 ≤ (r : Int)) = false := by simp; omega
      have hC := lit_string (w.alloc (.cells #[.int .u8 ((r : Int) % 256)] 5)) #[.int .u8 (192 + (r : Int) / 64), .int .u8 (128 + (r : Int) % 64)] [UInt8.ofNat (192 + r / 64), UInt8.ofNat (128 + r % 64)] (w.heap.size + 1) 2 (by simp) (by simp only [u8s, List.map_cons, List.map_nil]; rw [← u8_nat _ (by omega), ← u8_nat _ (by omega)]; rfl) rfl
      have z1 : decide (55296 ≤ (r : Int)) = false := by simp; omega
      have z2 : ¬ 55296 ≤ r := by omega
      clear h2
      go_enter Tryz.func326, Tryz.ntmps326
      go_wp2
      go_ret2
      exact ⟨rfl, ((Below.refl _ _).alloc (Nat.le_refl _) _).alloc (by simp) _⟩
     ·skip
      have hE : (encR r).map UInt8.ofNat = [UInt8.ofNat (r)] := by unfold encR; rw [if_pos (by omega)]; rfl
      rw [hE]
      clear hE
      have e0 : decide (65536 ≤ (r : Int)) = false := by simp; omega
      have e1 : decide (2048 ≤ (r : Int)) = false := by simp; omega
      have e2 : decide (128 ≤ (r : Int)) = false := by simp; omega
      have hC := lit_string w #[.int .u8 (r : Int)] [UInt8.ofNat r] w.heap.size 1 rfl (by simp only [u8s, List.map_cons, List.map_nil]; rw [← u8_nat r (by omega)]) rfl
      have hm : (r : Int) % 256 = (r : Int) := by omega
      have z1 : decide (55296 ≤ (r : Int)) = false := by simp; omega
      have z2 : ¬ 55296 ≤ r := by omega
      clear h2
      go_enter Tryz.func326, Tryz.ntmps326
      go_wp2
      go_ret2
      exact ⟨rfl, (Below.refl _ _).alloc (Nat.le_refl _) _⟩
theorem foldR_lt : ∀ (r : List Nat) (h : Nat), (r.foldl (fun n b => 64 * n + b % 64) h) < (h + 1) * 64 ^ r.length := by
 intro r
 induction r with
 | nil => intro h; simp
 | cons b r ih =>
  intro h
  have h1 := ih (64 * h + b % 64)
  rw [List.foldl_cons, List.length_cons, Nat.pow_succ]
  refine Nat.lt_of_lt_of_le h1 ?_
  rw [Nat.mul_comm (64 ^ r.length) 64, ← Nat.mul_assoc]
  exact Nat.mul_le_mul_right _ (by omega)
def numK (l : List UInt8) (k : Nat) : Nat := (((nats l).drop 1).take (k - 1)).foldl (fun n b => 64 * n + b % 64) (headR l.length (l.getD 0 0).toNat)
theorem numK_end (l : List UInt8) (h : 1 ≤ l.length) : numK l l.length = numR (nats l) := by
 match l, h with
 | a :: r, _ =>
  unfold numK numR
  simp only [nats, List.map_cons, List.drop_succ_cons, List.drop_zero, List.length_cons, List.getD_cons_zero, List.length_map]
  rw [List.take_of_length_le (by simp)]
theorem numK_succ (l : List UInt8) (k : Nat) (b : UInt8) (h1 : 1 ≤ k) (hb : l[k]? = some b) : numK l (k + 1) = 64 * numK l k + b.toNat % 64 := by
 unfold numK
 have e : k + 1 - 1 = (k - 1) + 1 := by omega
 have hg : ((nats l).drop 1)[k - 1]? = some b.toNat := by
  rw [List.getElem?_drop, nats, List.getElem?_map, show 1 + (k - 1) = k from by omega, hb]
  rfl
 rw [e, List.take_add_one, hg, Option.toList_some, List.foldl_append, List.foldl_cons, List.foldl_nil]
theorem numK_lt (l : List UInt8) (k : Nat) (hk : k ≤ 4) : numK l k < 67108864 := by
 unfold numK
 have h := foldR_lt (((nats l).drop 1).take (k - 1)) (headR l.length (l.getD 0 0).toNat)
 have h2 : (((nats l).drop 1).take (k - 1)).length ≤ 3 := by rw [List.length_take]; omega
 have h3 : headR l.length (l.getD 0 0).toNat < 256 := by
  have := (l.getD 0 0).toNat_lt
  unfold headR
  repeat' split
  all_goals omega
 have h4 : 64 ^ (((nats l).drop 1).take (k - 1)).length ≤ 64 ^ 3 := Nat.pow_le_pow_right (by omega) h2
 have h5 := Nat.mul_le_mul (show headR l.length (l.getD 0 0).toNat + 1 ≤ 256 by omega) h4
 omega
theorem byte_at (s : ByteArray) (k : Nat) (h : k < s.size) : s.data.toList[k]? = some (s[k]'h) := by
 rw [Array.getElem?_toList]
 exact Array.getElem?_eq_getElem h
set_option maxRecDepth 100000 in
set_option maxHeartbeats 1000000 in
theorem unumber_any (s : ByteArray) (w : World) (h1 : 1 ≤ s.size) (h4 : s.size ≤ 4) :
  Calls Tryz.prog 325 #[.string s] w fun e w' => e = .returned (.int .i32 (numR (nats s.data.toList) : Int)) ∧ w = w' := by
 have h0 : 0 < s.size := by omega
 obtain ⟨x, hx⟩ : ∃ x, s[0]'h0 = x := ⟨_, rfl⟩
 have hll : s.data.toList.length = s.size := by rw [Array.length_toList]; rfl
 have Hend := Lib.hid (numK_end s.data.toList (by omega))
 have Hlt := Lib.hid (fun k hk => numK_lt s.data.toList k hk)
 have Hsucc := Lib.hid (fun k b h1 hb => numK_succ s.data.toList k b h1 hb)
 have Hat := Lib.hid (byte_at s)
 have Hll := Lib.hid hll
 have hx0 : (s.data.toList.getD 0 0) = x := by
  rw [List.getD_eq_getElem?_getD, byte_at s 0 h0, hx]
  rfl
 have hstart : numK s.data.toList 1 = headR s.size x.toNat := by
  unfold numK
  rw [hx0, hll]
  rfl
 have Hstart := Lib.hid hstart
 have hxl := x.toNat_lt
 clear hstart hx0 hll
 by_cases q2 : s.size = 2
 ·have e2 : ((s.size : Int) == 2) = true := by simp; omega
  have Q := Lib.hid q2
  clear q2
  go_enter Tryz.func325, Tryz.ntmps325
  go_wp2
  go_loopw [3, 4] (fun n i wr => ∃ k : Nat, 1 ≤ k ∧ k ≤ s.size ∧ i = .int .i64 (k : Int) ∧ n = .int .i64 ((numK s.data.toList k : Nat) : Int) ∧ wr = w) (fun n i _ => 4 - (intOf i).toNat)
  case atStart => exact ⟨1, by decide, by omega, rfl, (by rw [Hstart.out, Q.out]; simp [headR]), rfl⟩
  case round =>
   obtain ⟨k, hk1, hk2, rfl, rfl, rfl⟩ := hrel
   by_cases hlt : k < s.size
   ·have d1 : decide ((k : Int) < (s.size : Int)) = true := by simp; omega
    obtain ⟨y, hy⟩ : ∃ y, s[k]'hlt = y := ⟨_, rfl⟩
    have hyl := y.toNat_lt
    have hb := Hlt.out k (by omega)
    have Hs := Lib.hid (Hsucc.out k y hk1 (by rw [Hat.out k hlt, hy]))
    generalize numK s.data.toList k = n0 at *
    go_wp2
    go_roundw
    case rel => exact ⟨k + 1, by omega, by omega, by go_num, by rw [Hs.out]; go_num, trivial⟩
    case measure => simp [intOf]; omega
   ·have d1 : decide ((k : Int) < (s.size : Int)) = false := by simp; omega
    obtain rfl : k = s.size := by omega
    have hb := Hlt.out s.size (by omega)
    have hE := Hend.out
    rw [Hll.out] at hE
    have HE := Lib.hid hE
    clear hE
    go_wp2
    go_ret
    exact ⟨by rw [← HE.out]; rfl, rfl⟩
 ·have e2 : ((s.size : Int) == 2) = false := by simp; omega
  by_cases q3 : s.size = 3
  ·have e3 : ((s.size : Int) == 3) = true := by simp; omega
   have Q := Lib.hid q3
   clear q3
   go_enter Tryz.func325, Tryz.ntmps325
   go_wp2
   go_loopw [3, 4] (fun n i wr => ∃ k : Nat, 1 ≤ k ∧ k ≤ s.size ∧ i = .int .i64 (k : Int) ∧ n = .int .i64 ((numK s.data.toList k : Nat) : Int) ∧ wr = w) (fun n i _ => 4 - (intOf i).toNat)
   case atStart => exact ⟨1, by decide, by omega, rfl, (by rw [Hstart.out, Q.out]; simp [headR]), rfl⟩
   case round =>
    obtain ⟨k, hk1, hk2, rfl, rfl, rfl⟩ := hrel
    by_cases hlt : k < s.size
    ·have d1 : decide ((k : Int) < (s.size : Int)) = true := by simp; omega
     obtain ⟨y, hy⟩ : ∃ y, s[k]'hlt = y := ⟨_, rfl⟩
     have hyl := y.toNat_lt
     have hb := Hlt.out k (by omega)
     have Hs := Lib.hid (Hsucc.out k y hk1 (by rw [Hat.out k hlt, hy]))
     generalize numK s.data.toList k = n0 at *
     go_wp2
     go_roundw
     case rel => exact ⟨k + 1, by omega, by omega, by go_num, by rw [Hs.out]; go_num, trivial⟩
     case measure => simp [intOf]; omega
    ·have d1 : decide ((k : Int) < (s.size : Int)) = false := by simp; omega
     obtain rfl : k = s.size := by omega
     have hb := Hlt.out s.size (by omega)
     have hE := Hend.out
     rw [Hll.out] at hE
     have HE := Lib.hid hE
     clear hE
     go_wp2
     go_ret
     exact ⟨by rw [← HE.out]; rfl, rfl⟩
  ·have e3 : ((s.size : Int) == 3) = false := by simp; omega
   by_cases q4 : s.size = 4
   ·have e4 : ((s.size : Int) == 4) = true := by simp; omega
    have Q := Lib.hid q4
    clear q4
    go_enter Tryz.func325, Tryz.ntmps325
    go_wp2
    go_loopw [3, 4] (fun n i wr => ∃ k : Nat, 1 ≤ k ∧ k ≤ s.size ∧ i = .int .i64 (k : Int) ∧ n = .int .i64 ((numK s.data.toList k : Nat) : Int) ∧ wr = w) (fun n i _ => 4 - (intOf i).toNat)
    case atStart => exact ⟨1, by decide, by omega, rfl, (by rw [Hstart.out, Q.out]; simp [headR]), rfl⟩
    case round =>
     obtain ⟨k, hk1, hk2, rfl, rfl, rfl⟩ := hrel
     by_cases hlt : k < s.size
     ·have d1 : decide ((k : Int) < (s.size : Int)) = true := by simp; omega
      obtain ⟨y, hy⟩ : ∃ y, s[k]'hlt = y := ⟨_, rfl⟩
      have hyl := y.toNat_lt
      have hb := Hlt.out k (by omega)
      have Hs := Lib.hid (Hsucc.out k y hk1 (by rw [Hat.out k hlt, hy]))
      generalize numK s.data.toList k = n0 at *
      go_wp2
      go_roundw
      case rel => exact ⟨k + 1, by omega, by omega, by go_num, by rw [Hs.out]; go_num, trivial⟩
      case measure => simp [intOf]; omega
     ·have d1 : decide ((k : Int) < (s.size : Int)) = false := by simp; omega
      obtain rfl : k = s.size := by omega
      have hb := Hlt.out s.size (by omega)
      have hE := Hend.out
      rw [Hll.out] at hE
      have HE := Lib.hid hE
      clear hE
      go_wp2
      go_ret
      exact ⟨by rw [← HE.out]; rfl, rfl⟩
   ·have e4 : ((s.size : Int) == 4) = false := by simp; omega
    have Q := Lib.hid (show s.size = 1 by omega)
    go_enter Tryz.func325, Tryz.ntmps325
    go_wp2
    go_loopw [3, 4] (fun n i wr => ∃ k : Nat, 1 ≤ k ∧ k ≤ s.size ∧ i = .int .i64 (k : Int) ∧ n = .int .i64 ((numK s.data.toList k : Nat) : Int) ∧ wr = w) (fun n i _ => 4 - (intOf i).toNat)
    case atStart => exact ⟨1, by decide, by omega, rfl, (by rw [Hstart.out, Q.out]; simp [headR]), rfl⟩
    case round =>
     obtain ⟨k, hk1, hk2, rfl, rfl, rfl⟩ := hrel
     by_cases hlt : k < s.size
     ·have d1 : decide ((k : Int) < (s.size : Int)) = true := by simp; omega
      obtain ⟨y, hy⟩ : ∃ y, s[k]'hlt = y := ⟨_, rfl⟩
      have hyl := y.toNat_lt
      have hb := Hlt.out k (by omega)
      have Hs := Lib.hid (Hsucc.out k y hk1 (by rw [Hat.out k hlt, hy]))
      generalize numK s.data.toList k = n0 at *
      go_wp2
      go_roundw
      case rel => exact ⟨k + 1, by omega, by omega, by go_num, by rw [Hs.out]; go_num, trivial⟩
      case measure => simp [intOf]; omega
     ·have d1 : decide ((k : Int) < (s.size : Int)) = false := by simp; omega
      obtain rfl : k = s.size := by omega
      have hb := Hlt.out s.size (by omega)
      have hE := Hend.out
      rw [Hll.out] at hE
      have HE := Lib.hid hE
      clear hE
      go_wp2
      go_ret
      exact ⟨by rw [← HE.out]; rfl, rfl⟩
theorem encR_lt (r : Nat) (h : r ≤ 1114111) : ∀ x ∈ encR r, x < 256 := by
 unfold encR
 intro x hx
 split at hx
 ·simp at hx; omega
 ·split at hx
  ·simp at hx; omega
  ·split at hx
   ·simp at hx; omega
   ·simp at hx; omega
theorem nats_ofNat (l : List Nat) (h : ∀ x ∈ l, x < 256) : nats (l.map UInt8.ofNat) = l := by
 unfold nats
 rw [List.map_map]
 conv => rhs; rw [← List.map_id l]
 exact List.map_congr_left fun x hx => ofNat_toNat x (h x hx)
theorem nats_inj {a b : List UInt8} (h : nats a = nats b) : a = b := (List.map_inj_right (fun _ _ h => UInt8.toNat_inj.1 h)).1 h
theorem put_eq (r : Nat) (t : ByteArray) (h : okR r = true) : txt (putR r) = t ↔ encR r = nats t.data.toList := by
 have hr : r ≤ 1114111 := by simp only [okR, decide_eq_true_eq] at h; omega
 unfold putR
 rw [if_pos h]
 constructor
 ·intro e
  rw [← e]
  exact (nats_ofNat _ (encR_lt r hr)).symm
 ·intro e
  have e2 : (encR r).map UInt8.ofNat = t.data.toList := nats_inj ((nats_ofNat _ (encR_lt r hr)).trans e)
  unfold txt
  rw [e2]
theorem take_ext (s : ByteArray) (k : Nat) (h : k ≤ s.size) : (s.extract 0 k).data.toList = s.data.toList.take k := by
 rw [ByteArray.data_extract, Array.toList_extract]
 simp [List.extract]
theorem hitR_eq (s : ByteArray) (k : Nat) (hk : k ≤ s.size) : hitR k s.data.toList = (okR (numR (nats (s.extract 0 k).data.toList)) && decide (txt (putR (numR (nats (s.extract 0 k).data.toList))) = s.extract 0 k)) := by
 rw [take_ext s k hk]
 unfold hitR
 have hl : decide (k ≤ s.data.toList.length) = true := by rw [decide_eq_true]; rw [Array.length_toList]; exact hk
 rw [hl, Bool.true_and]
 cases ho : okR (numR (nats (s.data.toList.take k))) with
 | false => rfl
 | true =>
  rw [Bool.true_and, Bool.true_and]
  have h := put_eq (numR (nats (s.data.toList.take k))) (s.extract 0 k) ho
  rw [take_ext s k hk] at h
  by_cases he : encR (numR (nats (s.data.toList.take k))) = nats (s.data.toList.take k)
  ·rw [decide_eq_true he, decide_eq_true (h.2 he)]
  ·rw [decide_eq_false he, decide_eq_false (fun e => he (h.1 e))]
def NextP (s : ByteArray) (w : World) (e : Ending) (w' : World) : Prop :=
 Below w.heap.size w w' ∧ ((∃ n r : Nat, 1 ≤ n ∧ n ≤ 4 ∧ n ≤ s.size ∧ hitR n s.data.toList = true ∧ e = .returned (.tuple #[.int .i32 (r : Int), .int .i64 (n : Int), .bool true])) ∨
  ((∀ n, 1 ≤ n → n ≤ 4 → hitR n s.data.toList = false) ∧ e = .returned (.tuple #[.int .i32 0, .int .i64 0, .bool false])))
theorem hit_over {l : List UInt8} {n : Nat} (h : l.length < n) : hitR n l = false := by
 unfold hitR
 rw [decide_eq_false (by omega)]
 rfl
theorem text_eqb2 (a b : ByteArray) : (a.toList == b.toList) = decide (a = b) := by
 by_cases h : a = b
 ·rw [h, decide_eq_true rfl]; simp
 ·rw [decide_eq_false h, Lib.bytes_beq_false_iff]; exact h
set_option maxRecDepth 100000 in
set_option maxHeartbeats 1000000 in
theorem unext_any (s : ByteArray) (w : World) (hs : s.size ≤ maxLen) :
  Calls Tryz.prog 291 #[.string s] w (NextP s w) := by
 unfold maxLen at hs
 have hll : s.data.toList.length = s.size := by rw [Array.length_toList]; rfl
 have Hll := Lib.hid hll
 clear hll
 go_enter Tryz.func291, Tryz.ntmps291
 go_wp2
 go_loopw [5] (fun i wr => ∃ k : Nat, 1 ≤ k ∧ k ≤ 5 ∧ i = .int .i64 (k : Int) ∧ (∀ j, 1 ≤ j → j < k → hitR j s.data.toList = false) ∧ Below w.heap.size w wr) (fun i _ => 5 - (intOf i).toNat)
 case atStart => exact ⟨1, by decide, by decide, rfl, fun j h1 h2 => by omega, Below.refl _ _⟩
 case round =>
  obtain ⟨k, hk1, hk5, rfl, hno, hb⟩ := hrel
  have Hno := Lib.hid hno
  have Hb := Lib.hid hb
  clear hno hb
  by_cases hlt : k ≤ 4
  ·have d1 : decide ((k : Int) ≤ 4) = true := by simp; omega
   by_cases hl : k ≤ s.size
   ·have d2 : decide ((k : Int) ≤ (s.size : Int)) = true := by simp; omega
    have hes : (s.extract 0 k).size = k := by rw [ByteArray.size_extract]; omega
    have Hnum := Lib.hid (unumber_any (s.extract 0 k) · (by omega) (by omega))
    have Hhit := Lib.hid (hitR_eq s k hl)
    have hrl : numR (nats (s.extract 0 k).data.toList) < 67108864 := by
     have h := numK_lt (s.extract 0 k).data.toList (s.extract 0 k).data.toList.length (by rw [Array.length_toList]; show (s.extract 0 k).size ≤ 4; omega)
     rwa [numK_end _ (by rw [Array.length_toList]; show 1 ≤ (s.extract 0 k).size; omega)] at h
    generalize hrr : numR (nats (s.extract 0 k).data.toList) = r at *
    have Hput := Lib.hid (uput_any r · (by omega))
    unfold PutP at Hput
    clear hrr hes
    go_wp2_with fail
    with_reducible refine (Hnum.out _).mono ?_
    rintro e w' ⟨rfl, rfl⟩
    go_wp2_with fail
    with_reducible refine (Hput.out _).mono ?_
    rintro e w2 ⟨rfl, hb2⟩
    have Hb2 := Lib.hid (bon Hb.out hb2)
    clear hb2
    cases ho : okR r with
    | false =>
     have hf : hitR k s.data.toList = false := by rw [Hhit.out, ho]; rfl
     have Hf := Lib.hid hf
     clear hf ho
     go_wp2
     go_roundw
     case rel => exact ⟨k + 1, by omega, by omega, by go_num, (fun j h1 h2 => by by_cases hj : j = k; { subst hj; exact Hf.out }; exact Hno.out j h1 (by omega)), Hb2.out⟩
     case measure => simp [intOf]; omega
    | true =>
     by_cases heq : txt (putR r) = s.extract 0 k
     ·have hf : hitR k s.data.toList = true := by rw [Hhit.out, ho, decide_eq_true heq]; rfl
      have Hf := Lib.hid hf
      have hte : ((txt (putR r)).toList == (s.extract 0 k).toList) = true := by rw [text_eqb2, decide_eq_true heq]
      clear hf ho heq
      go_wp2
      go_ret3
      exact ⟨Hb2.out, .inl ⟨k, r, hk1, hlt, hl, Hf.out, rfl⟩⟩
     ·have hf : hitR k s.data.toList = false := by rw [Hhit.out, ho, decide_eq_false heq]; rfl
      have Hf := Lib.hid hf
      have hte : ((txt (putR r)).toList == (s.extract 0 k).toList) = false := by rw [text_eqb2, decide_eq_false heq]
      clear hf ho heq
      go_wp2
      go_roundw
      case rel => exact ⟨k + 1, by omega, by omega, by go_num, (fun j h1 h2 => by by_cases hj : j = k; { subst hj; exact Hf.out }; exact Hno.out j h1 (by omega)), Hb2.out⟩
      case measure => simp [intOf]; omega
   ·have d2 : decide ((k : Int) ≤ (s.size : Int)) = false := by simp; omega
    go_wp2
    go_ret3
    exact ⟨Hb.out, .inr ⟨fun n h1 h2 => by by_cases hn : n < k; { exact Hno.out n h1 hn }; exact hit_over (by rw [Hll.out]; omega), rfl⟩⟩
  ·have d1 : decide ((k : Int) ≤ 4) = false := by simp; omega
   go_wp2
   go_ret3
   exact ⟨Hb.out, .inr ⟨fun n h1 h2 => Hno.out n h1 (by omega), rfl⟩⟩
set_option maxRecDepth 100000 in
set_option maxHeartbeats 1000000 in
theorem uvalid_any (s : ByteArray) (w : World) (hs : s.size ≤ maxLen) :
  Calls Tryz.prog 248 #[.string s] w fun e w' => e = .returned (.bool (Lib.validD s.data.toList)) ∧ Below w.heap.size w w' := by
 have Hs := Lib.hid hs
 go_enter Tryz.func248, Tryz.ntmps248
 go_wp2
 go_loopg [0] (s.size + 1) (fun gk s0 wx => Below w.heap.size w wx ∧ ∃ t : ByteArray, s0 = .string t ∧ Lib.validD t.data.toList = Lib.validD s.data.toList ∧ t.size < gk ∧ t.size ≤ s.size)
 case atStart => exact ⟨Below.refl _ _, s, rfl, rfl, by omega, Nat.le_refl _⟩
 case round =>
  obtain ⟨hb, t, rfl, hv, hg, hts⟩ := hrel
  have Hb := Lib.hid hb
  have Hv := Lib.hid hv
  clear hb hv
  by_cases h0 : 0 < t.size
  ·have d1 : decide ((0 : Int) < (t.size : Int)) = true := by simp; omega
   obtain ⟨g', rfl⟩ : ∃ g', gk = g' + 1 := ⟨gk - 1, by omega⟩
   have htm : t.size ≤ maxLen := by have := Hs.out; omega
   go_wp2_with fail
   with_reducible refine (unext_any t _ htm).mono ?_
   rintro e w2 ⟨hb2, hcase⟩
   have Hb2 := Lib.hid (bon Hb.out hb2)
   clear hb2
   rcases hcase with ⟨n, r, hn1, hn4, hnl, hh, rfl⟩ | ⟨hno, rfl⟩
   ·have hstep := (hit_valid _ n hn1 hn4 hh).2
    have Hstep := Lib.hid hstep
    obtain ⟨t2, ht2⟩ : ∃ t2, t.extract n t.size = t2 := ⟨_, rfl⟩
    have hz2 : t2.size + n = t.size := by rw [← ht2, ByteArray.size_extract]; omega
    have hd2 : t2.data.toList = t.data.toList.drop n := by
     rw [← ht2, ByteArray.data_extract, Array.toList_extract]
     have hll : t.data.toList.length = t.size := by rw [Array.length_toList]; rfl
     show (t.data.toList.drop n).take (t.size - n) = _
     exact List.take_of_length_le (by rw [List.length_drop, hll]; exact Nat.le_refl _)
    have Hd2 := Lib.hid hd2
    have Hz2 := Lib.hid hz2
    clear hh hstep hd2 hz2
    go_wp2
    go_roundg g'
    case measure => omega
    case rel => exact ⟨Hb2.out, t2, rfl, by rw [Hd2.out, ← Hstep.out, Hv.out], by have := Hz2.out; omega, by have := Hz2.out; omega⟩
   ·have hf : Lib.validD t.data.toList = false := no_hit _ (fun h => by have : t.data.toList.length = t.size := by { rw [Array.length_toList]; rfl }; rw [h] at this; simp at this; omega) hno
    have Hf := Lib.hid hf
    clear hno hf
    go_wp2
    go_ret
    exact ⟨by rw [← Hv.out, Hf.out]; rfl, Hb2.out⟩
  ·have d1 : decide ((0 : Int) < (t.size : Int)) = false := decide_eq_false (by omega)
   have hn : t.data.toList = [] := List.eq_nil_of_length_eq_zero (by rw [Array.length_toList]; show t.size = 0; omega)
   have Hn := Lib.hid hn
   clear hn
   go_wp2
   go_ret
   exact ⟨by rw [← Hv.out, Hn.out]; rfl, Hb.out⟩
end Go.Proofs.YtnkgchmkmhdcaaaGreatDoor
namespace Go.Proofs
open Go.Shelf
def Tryz.laysValid_ren : Go.Shelf.Ren := ⟨fun | 196 => 279 | 259 => 314 | n => n, fun | 9 => 9 | 4 => 4 | 3 => 3 | 5 => 5 | 12 => 12 | 119 => 340 | 0 => 0 | 46 => 88 | 139 => 343 | 138 => 342 | 53 => 81 | n => n, fun | 3 => 2 | 4 => 3 | n => n⟩
theorem Tryz.laysValid : Go.Proofs.Lays.n196 Tryz.prog Tryz.laysValid_ren := {
 mixed := by kernel_rfl
 f196 := Tryz.func279.trans (congrArg some (by kernel_rfl))
 f259 := Tryz.func314.trans (congrArg some (by kernel_rfl))
 t0 := Tryz.underlying0
 a0 := Tryz.isAgg0
 z0 := Tryz.sizeOf0
 v0 := Tryz.zeroValue0
 t3 := Tryz.underlying3
 a3 := Tryz.isAgg3
 z3 := Tryz.sizeOf3
 v3 := Tryz.zeroValue3
 t4 := Tryz.underlying4
 a4 := Tryz.isAgg4
 z4 := Tryz.sizeOf4
 v4 := Tryz.zeroValue4
 t5 := Tryz.underlying5
 a5 := Tryz.isAgg5
 z5 := Tryz.sizeOf5
 v5 := Tryz.zeroValue5
 t9 := Tryz.underlying9
 a9 := Tryz.isAgg9
 z9 := Tryz.sizeOf9
 v9 := Tryz.zeroValue9
 t12 := Tryz.underlying12
 a12 := Tryz.isAgg12
 z12 := Tryz.sizeOf12
 v12 := Tryz.zeroValue12
 t46 := Tryz.underlying88
 a46 := Tryz.isAgg88
 z46 := Tryz.sizeOf88
 v46 := Tryz.zeroValue88
 t53 := Tryz.underlying81
 a53 := Tryz.isAgg81
 z53 := Tryz.sizeOf81
 v53 := Tryz.zeroValue81
 t119 := Tryz.underlying340
 a119 := Tryz.isAgg340
 z119 := Tryz.sizeOf340
 t138 := Tryz.underlying342
 a138 := Tryz.isAgg342
 z138 := Tryz.sizeOf342
 v138 := Tryz.zeroValue342
 t139 := Tryz.underlying343
 a139 := Tryz.isAgg343
 z139 := Tryz.sizeOf343
 v139 := Tryz.zeroValue343
 g3 := by kernel_rfl
 g4 := by kernel_rfl }
end Go.Proofs
namespace Go.Proofs.YtnkgchmkmhdcaaaGreatDoor
open Go.RowKit
def Tabs (w : World) : Prop := Lib.Utf8Tabs 2 3 w
theorem Tabs.on {w w' : World} (h : Tabs w) (hb : Below w.heap.size w w') : Tabs w' := Utf8Tabs_below h hb
set_option maxRecDepth 100000 in
theorem pvalid_any (s : ByteArray) (w : World) (hs : s.size ≤ 9223372036854775807) (hT : Tabs w) :
  Calls Tryz.prog 236 #[.string s] w fun e w' => e = .returned (.bool (Lib.validD s.data.toList)) ∧ Below w.heap.size w w' := by
 have cV : Calls Tryz.prog 279 #[.string s] w _ := Any.utf8_ValidString Tryz.laysValid s w hs hT
 have CV := Lib.hid cV
 clear cV hT
 go_enter Tryz.func236, Tryz.ntmps236
 go_wp2_with fail
 with_reducible refine (CV.out).mono ?_
 rintro e w' ⟨rfl, hb⟩
 go_wp2
 go_ret
 exact ⟨rfl, hb⟩
end Go.Proofs.YtnkgchmkmhdcaaaGreatDoor
namespace Go.Proofs.YtnkgchmkmhdcaaaGreatDoor
section
variable {P : Program} {md : Region.Mode} {ops : Array Oper} {Q : Exit → Act → World → Prop}
def orderB (md : Region.Mode) (ops : Array Oper) : List (Nat × Bool) → Array Bool → Bool
 | [], listed => (Region.ready md ops listed).isEmpty
 | (i, true) :: rest, listed => Region.ready md ops listed == [i] && orderB md ops rest (listed.setIfInBounds i true)
 | (i, false) :: rest, listed => Region.free md ops listed i && (Region.ready md ops listed).contains i && orderB md ops rest (listed.setIfInBounds i true)
end
end Go.Proofs.YtnkgchmkmhdcaaaGreatDoor
namespace Go.Proofs.YtnkgchmkmhdcaaaGreatDoor
section
variable {P : Program} {md : Region.Mode} {ops : Array Oper} {Q : Exit → Act → World → Prop} {S : World → Prop}
def wpHeld (P : Program) (ops : Array Oper) (Q : Exit → Act → World → Prop) (S : World → Prop) : List (Nat × Bool) → Act → World → Prop
 | [], a, w => Q .normal a w
 | (i, true) :: rest, a, w => ∃ o, ops[i]? = some o ∧ ∀ K : Act → World → Prop, (∀ a w, S w → wpHeld P ops Q S rest a w → K a w) → if Region.wanted o (yielded ops a.tmps) then o.wp P a w K Q else K (a.put o.dst undef) w
 | (i, false) :: rest, a, w => ∃ o v, ops[i]? = some o ∧ YieldsIf P ops S o v a ∧ S w ∧ wpHeld P ops Q S rest (a.put o.dst v) w
theorem held_pure {i : Nat} {o : Oper} {d : Tmp} {rest : List (Nat × Bool)} {a : Act} {w : World} {v : Value} (ho : ops[i]? = some o) (hd : o.dst = some d) (hw : Region.wanted o (yielded ops a.tmps) = true) (hS : S w)
  (hy : ∀ w, S w → (execOp a.eval o).run P w = .ok (.value v) w) (h : wpHeld P ops Q S rest { tmps := a.tmps.setIfInBounds d v, defers := a.defers } w) : wpHeld P ops Q S ((i, false) :: rest) a w :=
 ⟨o, v, ho, .inl ⟨hw, hy⟩, hS, by rw [hd]; exact h⟩
theorem held_off {i : Nat} {o : Oper} {d : Tmp} {rest : List (Nat × Bool)} {a : Act} {w : World} (ho : ops[i]? = some o) (hd : o.dst = some d) (hw : Region.wanted o (yielded ops a.tmps) = false) (hS : S w)
  (h : wpHeld P ops Q S rest { tmps := a.tmps.setIfInBounds d undef, defers := a.defers } w) : wpHeld P ops Q S ((i, false) :: rest) a w :=
 ⟨o, undef, ho, .inr ⟨hw, rfl⟩, hS, by rw [hd]; exact h⟩
theorem held_eff1 {i : Nat} {o : Oper} {rest : List (Nat × Bool)} {a : Act} {w : World} (ho : ops[i]? = some o) (hw : Region.wanted o (yielded ops a.tmps) = true)
  (h : ∀ K : Act → World → Prop, (∀ a w, S w → wpHeld P ops Q S rest a w → K a w) → o.wp P a w K Q) : wpHeld P ops Q S ((i, true) :: rest) a w :=
 ⟨o, ho, fun K hK => by rw [if_pos hw]; exact h K hK⟩
theorem held_go {X K : Act → World → Prop} {a : Act} {w : World} (hK : ∀ a w, S w → X a w → K a w) (hS : S w) (h : S w → X a w) : K a w := hK a w hS (h hS)
theorem held_end {a : Act} {w : World} (h : Q .normal a w) : wpHeld P ops Q S [] a w := h
theorem wpAnyH_of_held (hs : Region.noSelect ops = true) (hQ : ∀ d v c a w, Q (.panic c) (Act.put a d v) w → Q (.panic c) a w) :
  ∀ (l : List (Nat × Bool)) (fuel : Nat) (listed : Array Bool) (a : Act) (w : World), l.length ≤ fuel → orderB md ops l listed = true → wpHeld P ops Q S l a w → wpAnyH P md ops Q S fuel listed a w := by
 intro l
 induction l with
 | nil =>
  intro fuel listed a w _ ho h
  have hr : Region.ready md ops listed = [] := by simpa [orderB] using ho
  exact wpAnyH_done hr h fuel
 | cons x rest ih =>
  intro fuel listed a w hf ho h
  obtain ⟨i, b⟩ := x
  obtain ⟨fuel, rfl⟩ : ∃ f, fuel = f + 1 := ⟨fuel - 1, by simp at hf; omega⟩
  cases b with
  | true =>
   simp only [orderB, Bool.and_eq_true, beq_iff_eq] at ho
   obtain ⟨o, hoi, hl⟩ := h
   refine wpAnyH_all ho.1 (by simp) fun j hj => ?_
   obtain rfl : j = i := by simpa using hj
   unfold wpOp
   simp only [hoi]
   have := hl (fun a' w' => S w' ∧ wpAnyH P md ops Q S fuel (listed.setIfInBounds j true) a' w') (fun a w hS h => ⟨hS, ih fuel _ a w (by simpa using hf) ho.2 h⟩)
   split at this
   ·rename_i hw
    simp only [hw, if_true]
    exact .inl this
   ·rename_i hw
    simp only [hw, if_false, Bool.false_eq_true]
    exact this
  | false =>
   simp only [orderB, Bool.and_eq_true] at ho
   obtain ⟨o, v, hoi, hy, hS, hl⟩ := h
   exact wpAnyH_take hoi hs ho.1.1 ho.1.2 (fun c a w => hQ _ _ c a w) hy hS (ih fuel _ _ w (by simpa using hf) ho.2 hl)
theorem wp_region_keep (S : World → Prop) (l : List (Nat × Bool)) {id : Nat} {a : Act} {w : World} (hm : P.follows .mixedOrders = true) (hs : Region.noSelect ops = true)
  (ho : (l.length == ops.size && orderB .any ops l (Array.replicate ops.size false)) = true)
  (hQ : ∀ d v c a w, Q (.panic c) (Act.put a d v) w → Q (.panic c) a w)
  (h : wpHeld P ops Q S l a w.drew) : (Code.region id ops true).wp P Q a w := by
 simp only [Bool.and_eq_true, beq_iff_eq] at ho
 exact wp_region_held hm (wpAnyH_of_held hs hQ l ops.size _ a _ (by omega) ho.2 h)
end
end Go.Proofs.YtnkgchmkmhdcaaaGreatDoor
namespace Go.Proofs.YtnkgchmkmhdcaaaGreatDoor
inductive Plan where
 | done
 | pure (i : Nat) (p : Plan)
 | eff (i : Nat) (p : Plan)
 | fork (i j : Nat) (p q : Plan)
section
variable {P : Program} {md : Region.Mode} {ops : Array Oper} {Q : Exit → Act → World → Prop} {S : World → Prop}
def wpPlan (P : Program) (ops : Array Oper) (Q : Exit → Act → World → Prop) (S : World → Prop) : Plan → Act → World → Prop
 | .done, a, w => Q .normal a w
 | .eff i p, a, w => ∃ o, ops[i]? = some o ∧ ∀ K : Act → World → Prop, (∀ a w, S w → wpPlan P ops Q S p a w → K a w) → if Region.wanted o (yielded ops a.tmps) then o.wp P a w K Q else K (a.put o.dst undef) w
 | .pure i p, a, w => ∃ o v, ops[i]? = some o ∧ YieldsIf P ops S o v a ∧ S w ∧ wpPlan P ops Q S p (a.put o.dst v) w
 | .fork i j p q, a, w => (∃ o, ops[i]? = some o ∧ ∀ K : Act → World → Prop, (∀ a w, S w → wpPlan P ops Q S p a w → K a w) → if Region.wanted o (yielded ops a.tmps) then o.wp P a w K Q else K (a.put o.dst undef) w) ∧
   (∃ o, ops[j]? = some o ∧ ∀ K : Act → World → Prop, (∀ a w, S w → wpPlan P ops Q S q a w → K a w) → if Region.wanted o (yielded ops a.tmps) then o.wp P a w K Q else K (a.put o.dst undef) w)
theorem plan_pure {i : Nat} {o : Oper} {d : Tmp} {p : Plan} {a : Act} {w : World} {v : Value} (ho : ops[i]? = some o) (hd : o.dst = some d) (hw : Region.wanted o (yielded ops a.tmps) = true) (hS : S w)
  (hy : ∀ w, S w → (execOp a.eval o).run P w = .ok (.value v) w) (h : wpPlan P ops Q S p { tmps := a.tmps.setIfInBounds d v, defers := a.defers } w) : wpPlan P ops Q S (.pure i p) a w :=
 ⟨o, v, ho, .inl ⟨hw, hy⟩, hS, by rw [hd]; exact h⟩
theorem plan_off {i : Nat} {o : Oper} {d : Tmp} {p : Plan} {a : Act} {w : World} (ho : ops[i]? = some o) (hd : o.dst = some d) (hw : Region.wanted o (yielded ops a.tmps) = false) (hS : S w)
  (h : wpPlan P ops Q S p { tmps := a.tmps.setIfInBounds d undef, defers := a.defers } w) : wpPlan P ops Q S (.pure i p) a w :=
 ⟨o, undef, ho, .inr ⟨hw, rfl⟩, hS, by rw [hd]; exact h⟩
theorem plan_eff {i : Nat} {o : Oper} {p : Plan} {a : Act} {w : World} (ho : ops[i]? = some o)
  (h : ∀ K : Act → World → Prop, (∀ a w, S w → wpPlan P ops Q S p a w → K a w) → if Region.wanted o (yielded ops a.tmps) then o.wp P a w K Q else K (a.put o.dst undef) w) : wpPlan P ops Q S (.eff i p) a w :=
 ⟨o, ho, h⟩
theorem plan_eff1 {i : Nat} {o : Oper} {p : Plan} {a : Act} {w : World} (ho : ops[i]? = some o) (hw : Region.wanted o (yielded ops a.tmps) = true)
  (h : ∀ K : Act → World → Prop, (∀ a w, S w → wpPlan P ops Q S p a w → K a w) → o.wp P a w K Q) : wpPlan P ops Q S (.eff i p) a w :=
 ⟨o, ho, fun K hK => by rw [if_pos hw]; exact h K hK⟩
theorem plan_fork {i j : Nat} {p q : Plan} {a : Act} {w : World} (h1 : wpPlan P ops Q S (.eff i p) a w) (h2 : wpPlan P ops Q S (.eff j q) a w) : wpPlan P ops Q S (.fork i j p q) a w := ⟨h1, h2⟩
theorem plan_end {a : Act} {w : World} (h : Q .normal a w) : wpPlan P ops Q S .done a w := h
def planB (md : Region.Mode) (ops : Array Oper) : Plan → Array Bool → Bool
 | .done, listed => (Region.ready md ops listed).isEmpty
 | .eff i p, listed => Region.ready md ops listed == [i] && planB md ops p (listed.setIfInBounds i true)
 | .pure i p, listed => Region.free md ops listed i && (Region.ready md ops listed).contains i && planB md ops p (listed.setIfInBounds i true)
 | .fork i j p q, listed => Region.ready md ops listed == [i, j] && planB md ops p (listed.setIfInBounds i true) && planB md ops q (listed.setIfInBounds j true)
def planN : Plan → Nat
 | .done => 0
 | .eff _ p => planN p + 1
 | .pure _ p => planN p + 1
 | .fork _ _ p q => max (planN p) (planN q) + 1
theorem wpAnyH_of_plan (hs : Region.noSelect ops = true) (hQ : ∀ d v c a w, Q (.panic c) (Act.put a d v) w → Q (.panic c) a w) :
  ∀ (l : Plan) (fuel : Nat) (listed : Array Bool) (a : Act) (w : World), planN l ≤ fuel → planB md ops l listed = true → wpPlan P ops Q S l a w → wpAnyH P md ops Q S fuel listed a w := by
 intro l
 induction l with
 | done =>
  intro fuel listed a w _ ho h
  have hr : Region.ready md ops listed = [] := by simpa [planB] using ho
  exact wpAnyH_done hr h fuel
 | eff i p ih =>
  intro fuel listed a w hf ho h
  simp only [planN] at hf
  obtain ⟨fuel, rfl⟩ : ∃ f, fuel = f + 1 := ⟨fuel - 1, by omega⟩
  simp only [planB, Bool.and_eq_true, beq_iff_eq] at ho
  obtain ⟨o, hoi, hl⟩ := h
  refine wpAnyH_all ho.1 (by simp) fun j hj => ?_
  obtain rfl : j = i := by simpa using hj
  unfold wpOp
  simp only [hoi]
  have := hl (fun a' w' => S w' ∧ wpAnyH P md ops Q S fuel (listed.setIfInBounds j true) a' w') (fun a w hS h => ⟨hS, ih fuel _ a w (by omega) ho.2 h⟩)
  split at this
  ·rename_i hw
   simp only [hw, if_true]
   exact .inl this
  ·rename_i hw
   simp only [hw, if_false, Bool.false_eq_true]
   exact this
 | pure i p ih =>
  intro fuel listed a w hf ho h
  simp only [planN] at hf
  obtain ⟨fuel, rfl⟩ : ∃ f, fuel = f + 1 := ⟨fuel - 1, by omega⟩
  simp only [planB, Bool.and_eq_true] at ho
  obtain ⟨o, v, hoi, hy, hS, hl⟩ := h
  exact wpAnyH_take hoi hs ho.1.1 ho.1.2 (fun c a w => hQ _ _ c a w) hy hS (ih fuel _ _ w (by omega) ho.2 hl)
 | fork i j p q ih1 ih2 =>
  intro fuel listed a w hf ho h
  simp only [planN] at hf
  obtain ⟨fuel, rfl⟩ : ∃ f, fuel = f + 1 := ⟨fuel - 1, by omega⟩
  simp only [planB, Bool.and_eq_true, beq_iff_eq] at ho
  refine wpAnyH_all ho.1.1 (by simp) fun k hk => ?_
  have hk' : k = i ∨ k = j := by simpa using hk
  rcases hk' with rfl | rfl
  ·obtain ⟨o, hoi, hl⟩ := h.1
   unfold wpOp
   simp only [hoi]
   have := hl (fun a' w' => S w' ∧ wpAnyH P md ops Q S fuel (listed.setIfInBounds k true) a' w') (fun a w hS h => ⟨hS, ih1 fuel _ a w (by omega) ho.1.2 h⟩)
   split at this
   ·rename_i hw
    simp only [hw, if_true]
    exact .inl this
   ·rename_i hw
    simp only [hw, if_false, Bool.false_eq_true]
    exact this
  ·obtain ⟨o, hoi, hl⟩ := h.2
   unfold wpOp
   simp only [hoi]
   have := hl (fun a' w' => S w' ∧ wpAnyH P md ops Q S fuel (listed.setIfInBounds k true) a' w') (fun a w hS h => ⟨hS, ih2 fuel _ a w (by omega) ho.2 h⟩)
   split at this
   ·rename_i hw
    simp only [hw, if_true]
    exact .inl this
   ·rename_i hw
    simp only [hw, if_false, Bool.false_eq_true]
    exact this
theorem wp_region_plan (S : World → Prop) (l : Plan) {id : Nat} {a : Act} {w : World} (hm : P.follows .mixedOrders = true) (hs : Region.noSelect ops = true)
  (ho : (Nat.ble (planN l) ops.size && planB .any ops l (Array.replicate ops.size false)) = true)
  (hQ : ∀ d v c a w, Q (.panic c) (Act.put a d v) w → Q (.panic c) a w)
  (h : wpPlan P ops Q S l a w.drew) : (Code.region id ops true).wp P Q a w := by
 simp only [Bool.and_eq_true, Nat.ble_eq] at ho
 exact wp_region_held hm (wpAnyH_of_plan hs hQ l ops.size _ a _ ho.1 ho.2 h)
end
end Go.Proofs.YtnkgchmkmhdcaaaGreatDoor
