/- Bools as bits, in plain Lean; no program is in sight here. -/
import Derived.Laws.BitsLemmas
set_option linter.unusedVariables false
set_option linter.unusedSimpArgs false
namespace Go.Proofs.Ytbcfdlhhmifneaa

def need (n : Nat) : Nat := (n + 7) / 8
def byteOf : List Bool → Nat
  | [] => 0
  | b :: r => (if b then 1 else 0) + 2 * byteOf r
def packF : Nat → List Bool → List UInt8
  | 0, _ => []
  | f + 1, l => UInt8.ofNat (byteOf (l.take 8)) :: packF f (l.drop 8)
def packL (l : List Bool) : List UInt8 := packF (need l.length) l
def bitsOf : Nat → Nat → List Bool
  | 0, _ => []
  | k + 1, c => (c % 2 == 1) :: bitsOf k (c / 2)
def allBits (b : List UInt8) : List Bool := b.flatMap fun c => bitsOf 8 c.toNat
def countL (l : List Bool) : Nat := (l.filter id).length
def unpackN (b : List UInt8) (n : Nat) : List Bool × Nat × Nat :=
  if b.length < need n then ([], 0, 3)
  else if ((allBits (b.take (need n))).drop n).any id then ([], 0, 140)
  else ((allBits (b.take (need n))).take n, need n, 0)
def unpackL (b : List UInt8) (n : Int) : List Bool × Nat × Nat :=
  if n < 0 ∨ 1048576 < n then ([], 0, 6) else unpackN b n.toNat
def sizeL (n : Int) : Nat := if n < 0 ∨ 1048576 < n then 0 else need n.toNat

@[simp] theorem packF_length : ∀ (f : Nat) (l : List Bool), (packF f l).length = f
  | 0, _ => rfl
  | f + 1, l => by simp [packF, packF_length f]
theorem packL_length (l : List Bool) : (packL l).length = need l.length := packF_length _ _
@[simp] theorem bitsOf_length : ∀ (k c : Nat), (bitsOf k c).length = k
  | 0, _ => rfl
  | k + 1, c => by simp [bitsOf, bitsOf_length k]
theorem allBits_nil : allBits [] = [] := rfl
theorem allBits_cons (c : UInt8) (b : List UInt8) : allBits (c :: b) = bitsOf 8 c.toNat ++ allBits b := by simp [allBits]
@[simp] theorem allBits_length : ∀ b : List UInt8, (allBits b).length = 8 * b.length
  | [] => rfl
  | c :: b => by rw [allBits_cons, List.length_append, allBits_length b]; simp; omega

theorem byteOf_lt : ∀ l : List Bool, byteOf l < 2 ^ l.length
  | [] => by simp [byteOf]
  | b :: r => by
    have := byteOf_lt r
    simp only [byteOf, List.length_cons, Nat.pow_succ]
    split <;> omega
theorem byteOf_lt8 (l : List Bool) (h : l.length ≤ 8) : byteOf l < 256 :=
  Nat.lt_of_lt_of_le (byteOf_lt l) (by
    have : 2 ^ l.length ≤ 2 ^ 8 := Nat.pow_le_pow_right (by omega) h
    omega)
theorem byteOf_append : ∀ (l m : List Bool), byteOf (l ++ m) = byteOf l + 2 ^ l.length * byteOf m
  | [], m => by simp [byteOf]
  | b :: r, m => by
    simp only [List.cons_append, byteOf, byteOf_append r m, List.length_cons, Nat.pow_succ]
    rw [Nat.mul_add, Nat.add_assoc, Nat.mul_comm (2 ^ r.length) 2, ← Nat.mul_assoc]
theorem byteOf_falses : ∀ m : Nat, byteOf (List.replicate m false) = 0
  | 0 => rfl
  | m + 1 => by simp [List.replicate_succ, byteOf, byteOf_falses m]
theorem byteOf_pad (l : List Bool) (m : Nat) : byteOf (l ++ List.replicate m false) = byteOf l := by
  rw [byteOf_append, byteOf_falses]; omega
theorem byteOf_bits : ∀ (k c : Nat), c < 2 ^ k → byteOf (bitsOf k c) = c
  | 0, c, h => by simp at h; simp [bitsOf, byteOf, h]
  | k + 1, c, h => by
    rw [Nat.pow_succ] at h
    simp only [bitsOf, byteOf, byteOf_bits k (c / 2) (by omega)]
    by_cases h1 : c % 2 = 1 <;> simp [h1] <;> omega
theorem bits_byteOf : ∀ (l : List Bool) (m : Nat), bitsOf (l.length + m) (byteOf l) = l ++ List.replicate m false
  | [], m => by
    simp only [List.length_nil, Nat.zero_add, byteOf, List.nil_append]
    induction m with
    | zero => rfl
    | succ m ih => simp [bitsOf, List.replicate_succ, ih]
  | b :: r, m => by
    have e : (b :: r).length + m = (r.length + m) + 1 := by simp; omega
    rw [e]
    simp only [bitsOf, byteOf, List.cons_append]
    have h1 : ((if b = true then 1 else 0) + 2 * byteOf r) / 2 = byteOf r := by split <;> omega
    have h2 : (((if b = true then 1 else 0) + 2 * byteOf r) % 2 == 1) = b := by cases b <;> simp <;> omega
    rw [h1, h2, bits_byteOf r m]

theorem ofNat_toNat' (n : Nat) (h : n < 256) : (UInt8.ofNat n).toNat = n := by
  simp [Nat.mod_eq_of_lt h]

theorem allBits_packF : ∀ (f : Nat) (l : List Bool), allBits (packF f l) = l.take (8 * f) ++ List.replicate (8 * f - l.length) false
  | 0, l => by simp [packF, allBits_nil]
  | f + 1, l => by
    have hlt := byteOf_lt8 (l.take 8) (List.length_take_le _ _)
    rw [packF, allBits_cons, ofNat_toNat' _ hlt, allBits_packF f]
    have hb : bitsOf 8 (byteOf (l.take 8)) = l.take 8 ++ List.replicate (8 - (l.take 8).length) false := by
      have ht := List.length_take_le 8 l
      generalize l.take 8 = t at ht ⊢
      have := bits_byteOf t (8 - t.length)
      rwa [show t.length + (8 - t.length) = 8 from by omega] at this
    rw [hb]
    rcases Nat.le_total 8 l.length with h | h
    · have hz : 8 - (l.take 8).length = 0 := by rw [List.length_take]; omega
      rw [hz, List.replicate_zero, List.append_nil, ← List.append_assoc, List.length_drop]
      have e1 : l.take 8 ++ (l.drop 8).take (8 * f) = l.take (8 * (f + 1)) := by
        rw [show 8 * (f + 1) = 8 + 8 * f from by omega, List.take_add]
      rw [e1]
      congr 2
      omega
    · have hd : l.drop 8 = [] := List.drop_of_length_le h
      have ht : l.take 8 = l := List.take_of_length_le h
      have ht2 : l.take (8 * (f + 1)) = l := List.take_of_length_le (by omega)
      rw [hd, ht, ht2]
      simp only [List.take_nil, List.nil_append, List.length_nil, Nat.sub_zero, List.append_assoc, List.replicate_append_replicate]
      congr 2
      omega
theorem packF_allBits : ∀ b : List UInt8, packF b.length (allBits b) = b
  | [] => rfl
  | c :: b => by
    simp only [List.length_cons, packF, allBits_cons]
    rw [List.take_left' (by simp), List.drop_left' (by simp), packF_allBits b, byteOf_bits 8 c.toNat c.toNat_lt]
    simp
theorem packF_pad : ∀ (f : Nat) (l : List Bool) (m : Nat), packF f (l ++ List.replicate m false) = packF f l
  | 0, _, _ => rfl
  | f + 1, l, m => by
    simp only [packF, List.take_append, List.drop_append, List.take_replicate, List.drop_replicate]
    rw [byteOf_pad, packF_pad f]

theorem need_le (n : Nat) : n ≤ 8 * need n := by unfold need; omega

/-- What is packed is unpacked as it was, whatever stands behind. -/
theorem unpack_pack (l : List Bool) (r : List UInt8) : unpackN (packL l ++ r) l.length = (l, need l.length, 0) := by
  unfold unpackN
  have hlen := packL_length l
  rw [if_neg (by rw [List.length_append]; omega)]
  have ht : (packL l ++ r).take (need l.length) = packL l := by rw [← hlen]; exact List.take_left
  have hb : allBits (packL l) = l ++ List.replicate (8 * need l.length - l.length) false := by
    rw [packL, allBits_packF, List.take_of_length_le (need_le _)]
  rw [ht, hb, List.drop_left, List.take_left]
  rw [if_neg (by simp)]

theorem falses_of (l : List Bool) (h : l.any id = false) : l = List.replicate l.length false := by
  rw [List.eq_replicate_iff]
  refine ⟨rfl, fun b hb => ?_⟩
  have := List.any_eq_false.1 h b hb
  simpa using this

/-- What can be unpacked is packed to just those bytes. -/
theorem unpack_only (b : List UInt8) (n : Nat) : (∃ l, unpackN b n = (l, need n, 0) ∧ l.length = n ∧ need n ≤ b.length ∧ packL l = b.take (need n)) ∨ ∃ e, unpackN b n = ([], 0, e) ∧ e ≠ 0 ∧ e < 200 := by
  unfold unpackN
  by_cases h1 : b.length < need n
  · rw [if_pos h1]; exact .inr ⟨3, rfl, by omega, by omega⟩
  rw [if_neg h1]
  by_cases h2 : ((allBits (b.take (need n))).drop n).any id = true
  · rw [if_pos h2]; exact .inr ⟨140, rfl, by omega, by omega⟩
  rw [if_neg h2]
  have hl : (b.take (need n)).length = need n := by rw [List.length_take]; omega
  have hln : ((allBits (b.take (need n))).take n).length = n := by
    rw [List.length_take, allBits_length, hl]
    have := need_le n
    omega
  refine .inl ⟨_, rfl, hln, by omega, ?_⟩
  have hf := falses_of _ (by simpa using h2)
  have hall : allBits (b.take (need n)) = (allBits (b.take (need n))).take n ++ List.replicate ((allBits (b.take (need n))).drop n).length false := by
    conv => lhs; rw [← List.take_append_drop n (allBits (b.take (need n)))]
    rw [← hf]
  rw [packL, hln]
  have := packF_allBits (b.take (need n))
  rw [hl, hall, packF_pad] at this
  exact this

theorem packF_append : ∀ (f g : Nat) (a b : List Bool), a.length = 8 * f → packF (f + g) (a ++ b) = packF f a ++ packF g b
  | 0, g, a, b, h => by
    have : a = [] := List.eq_nil_of_length_eq_zero (by omega)
    subst this
    simp [packF]
  | f + 1, g, a, b, h => by
    rw [show f + 1 + g = (f + g) + 1 from by omega]
    simp only [packF, List.cons_append]
    rw [List.take_append_of_le_length (by omega), List.drop_append_of_le_length (by omega), packF_append f g (a.drop 8) b (by rw [List.length_drop]; omega)]
/-- Lists of which the first fills its bytes are packed as their bytes. -/
theorem packL_append (a b : List Bool) (h : a.length % 8 = 0) : packL (a ++ b) = packL a ++ packL b := by
  unfold packL
  have e : need (a ++ b).length = need a.length + need b.length := by rw [List.length_append]; unfold need; omega
  rw [e]
  exact packF_append _ _ a b (by unfold need; omega)
theorem countL_append (a b : List Bool) : countL (a ++ b) = countL a + countL b := by simp [countL]

theorem count_step (l : List Bool) (i : Nat) (b : Bool) (h : l[i]? = some b) : countL (l.take (i + 1)) = countL (l.take i) + if b then 1 else 0 := by
  obtain ⟨hlt, rfl⟩ := List.getElem?_eq_some_iff.1 h
  rw [List.take_succ_eq_append_getElem hlt, countL_append]
  congr 1
  cases hb : l[i] <;> simp [countL]
theorem countL_le (l : List Bool) : countL l ≤ l.length := List.length_filter_le _ _
/-- Byte j. -/
theorem packF_get : ∀ (f : Nat) (l : List Bool) (j : Nat), j < f → (packF f l)[j]? = some (UInt8.ofNat (byteOf ((l.drop (8 * j)).take 8)))
  | f + 1, l, 0, _ => by simp [packF]
  | f + 1, l, j + 1, h => by
    simp only [packF, List.getElem?_cons_succ]
    rw [packF_get f (l.drop 8) j (by omega), List.drop_drop]
    congr 5
    omega

/-- The bits of byte j of which i have been written. -/
def chunk (l : List Bool) (i j : Nat) : List Bool := ((l.take i).drop (8 * j)).take 8
theorem chunk_other (l : List Bool) (i j : Nat) (h : j ≠ i / 8) : chunk l (i + 1) j = chunk l i j := by
  unfold chunk
  rcases Nat.lt_or_ge j (i / 8) with hlt | hge
  · rw [List.drop_take, List.drop_take, List.take_take, List.take_take]
    congr 1
    omega
  · have h1 : (l.take (i + 1)).drop (8 * j) = [] := List.drop_of_length_le (by have := List.length_take_le (i + 1) l; omega)
    have h2 : (l.take i).drop (8 * j) = [] := List.drop_of_length_le (by have := List.length_take_le i l; omega)
    rw [h1, h2]
theorem chunk_here (l : List Bool) (i : Nat) (b : Bool) (h : l[i]? = some b) : chunk l (i + 1) (i / 8) = chunk l i (i / 8) ++ [b] ∧ (chunk l i (i / 8)).length = i % 8 := by
  obtain ⟨hlt, rfl⟩ := List.getElem?_eq_some_iff.1 h
  unfold chunk
  have hli : (l.take i).length = i := by rw [List.length_take]; omega
  have hle : 8 * (i / 8) ≤ i := by omega
  constructor
  · rw [List.take_succ_eq_append_getElem hlt, List.drop_append_of_le_length (by omega)]
    have h1 : ((l.take i).drop (8 * (i / 8))).length ≤ 7 := by rw [List.length_drop, hli]; omega
    generalize (l.take i).drop (8 * (i / 8)) = t at h1 ⊢
    rw [List.take_of_length_le (l := t ++ [l[i]]) (by simp; omega), List.take_of_length_le (l := t) (by omega)]
  · rw [List.length_take, List.length_drop, hli]; omega
theorem packF_step (f : Nat) (l : List Bool) (i : Nat) (b : Bool) (h : l[i]? = some b) (hf : i / 8 < f) :
    packF f (l.take (i + 1)) = (packF f (l.take i)).set (i / 8) (UInt8.ofNat (byteOf (chunk l i (i / 8)) + if b then 2 ^ (i % 8) else 0)) ∧ byteOf (chunk l i (i / 8)) < 2 ^ (i % 8) ∧
      (packF f (l.take i))[i / 8]? = some (UInt8.ofNat (byteOf (chunk l i (i / 8)))) := by
  obtain ⟨h1, h2⟩ := chunk_here l i b h
  have hlt := byteOf_lt (chunk l i (i / 8))
  rw [h2] at hlt
  refine ⟨?_, hlt, packF_get f _ _ hf⟩
  apply List.ext_getElem?
  intro j
  rcases Nat.lt_or_ge j f with hj | hj
  · rw [packF_get f _ j hj]
    by_cases hji : j = i / 8
    · subst hji
      rw [List.getElem?_set_self (by simpa using hf)]
      show some (UInt8.ofNat (byteOf (chunk l (i + 1) (i / 8)))) = _
      rw [h1, byteOf_append, h2]
      cases b <;> simp [byteOf]
    · rw [List.getElem?_set_ne (by omega), packF_get f _ j hj]
      show some (UInt8.ofNat (byteOf (chunk l (i + 1) j))) = some (UInt8.ofNat (byteOf (chunk l i j)))
      rw [chunk_other l i j hji]
  · rw [List.getElem?_eq_none (by simpa using hj), List.getElem?_eq_none (by simpa using hj)]
theorem packF_false (f : Nat) (l : List Bool) (i : Nat) (h : l[i]? = some false) (hf : i / 8 < f) : packF f (l.take (i + 1)) = packF f (l.take i) := by
  obtain ⟨h1, _, h3⟩ := packF_step f l i false h hf
  rw [h1]
  simp only [Bool.false_eq_true, if_false, Nat.add_zero]
  obtain ⟨hlt, h4⟩ := List.getElem?_eq_some_iff.1 h3
  rw [← h4, List.set_getElem_self]
theorem packF_none (f : Nat) (l : List Bool) : packF f (l.take 0) = List.replicate f 0 := by
  rw [List.take_zero]
  induction f with
  | zero => rfl
  | succ f ih => simp only [packF, List.take_nil, List.drop_nil, List.replicate_succ, ih]; rfl
theorem packF_more (f : Nat) (l : List Bool) (h : l.length ≤ 8 * f) : packF (f + 1) l = packF f l ++ [0] := by
  induction f generalizing l with
  | zero =>
    have : l = [] := List.eq_nil_of_length_eq_zero (by omega)
    subst this
    rfl
  | succ f ih =>
    rw [packF, ih (l.drop 8) (by rw [List.length_drop]; omega)]
    rfl
theorem bitsOf_get : ∀ (n c k : Nat), k < n → (bitsOf n c)[k]? = some (c / 2 ^ k % 2 == 1)
  | n + 1, c, 0, _ => by simp [bitsOf]
  | n + 1, c, k + 1, h => by
    simp only [bitsOf, List.getElem?_cons_succ]
    rw [bitsOf_get n (c / 2) k (by omega), Nat.div_div_eq_div_mul, Nat.pow_succ, Nat.mul_comm 2]
theorem allBits_get : ∀ (xs : List UInt8) (i k : Nat) (b : UInt8), xs[i]? = some b → k < 8 → (allBits xs)[8 * i + k]? = some (b.toNat / 2 ^ k % 2 == 1)
  | c :: xs, 0, k, b, h, hk => by
    obtain rfl : c = b := by simpa using h
    rw [allBits_cons, List.getElem?_append_left (by simp; omega), Nat.mul_zero, Nat.zero_add]
    exact bitsOf_get 8 _ k hk
  | c :: xs, i + 1, k, b, h, hk => by
    rw [allBits_cons, List.getElem?_append_right (by simp; omega)]
    have := allBits_get xs i k b (by simpa using h) hk
    rw [← this]
    congr 1
    simp
    omega
theorem allBits_take : ∀ (xs : List UInt8) (s : Nat), allBits (xs.take s) = (allBits xs).take (8 * s)
  | [], s => by simp [allBits_nil]
  | c :: xs, 0 => by simp [allBits_nil]
  | c :: xs, s + 1 => by
    rw [List.take_succ_cons, allBits_cons, allBits_cons, allBits_take xs s]
    conv => rhs; rw [List.take_append, List.take_of_length_le (l := bitsOf 8 c.toNat) (by simp; omega)]
    rw [show 8 * (s + 1) - (bitsOf 8 c.toNat).length = 8 * s by simp; omega]
/-- No bit from m on is 1, up to place t. -/
def Clear (xs : List UInt8) (m t : Nat) : Prop := (((allBits xs).take t).drop m).any id = false
theorem clear_low (xs : List UInt8) (m t : Nat) (h : t ≤ m) : Clear xs m t := by
  unfold Clear
  rw [List.drop_of_length_le (by have := List.length_take_le t (allBits xs); omega)]
  rfl
theorem clear_next (xs : List UInt8) (m t : Nat) (h : Clear xs m t) (hb : (allBits xs)[t]? = some false) : Clear xs m (t + 1) := by
  obtain ⟨hlt, hb⟩ := List.getElem?_eq_some_iff.1 hb
  unfold Clear at *
  rw [List.take_succ_eq_append_getElem hlt, hb, List.drop_append, List.any_append, h]
  generalize m - ((allBits xs).take t).length = d
  cases d <;> simp
theorem unpack_bad (xs : List UInt8) (m t : Nat) (hs : need m ≤ xs.length) (ht : m ≤ t) (ht2 : t < 8 * need m) (hb : (allBits xs)[t]? = some true) : unpackN xs m = ([], 0, 140) := by
  unfold unpackN
  rw [if_neg (by omega), if_pos]
  rw [allBits_take, List.any_eq_true]
  refine ⟨true, ?_, rfl⟩
  obtain ⟨hlt, hb⟩ := List.getElem?_eq_some_iff.1 hb
  refine List.mem_iff_getElem?.2 ⟨t - m, ?_⟩
  rw [List.getElem?_drop, List.getElem?_take, if_pos (by omega), show m + (t - m) = t by omega, List.getElem?_eq_getElem hlt, hb]
theorem unpack_good (xs : List UInt8) (m : Nat) (hs : need m ≤ xs.length) (h : Clear xs m (8 * need m)) : unpackN xs m = ((allBits xs).take m, need m, 0) := by
  unfold unpackN
  unfold Clear at h
  rw [if_neg (by omega), allBits_take, if_neg (by simp [h]), List.take_take]
  congr 2
  have := need_le m
  omega
theorem take_next (l : List Bool) (t : Nat) (b : Bool) (h : l[t]? = some b) : l.take (t + 1) = l.take t ++ [b] := by
  obtain ⟨hlt, rfl⟩ := List.getElem?_eq_some_iff.1 h
  exact List.take_succ_eq_append_getElem hlt
theorem countL_any (l : List Bool) : 0 < countL l ↔ l.any id = true := by
  unfold countL
  rw [List.length_pos_iff_exists_mem, List.any_eq_true]
  simp [List.mem_filter]
theorem unpack_ref (xs : List UInt8) (m : Nat) (hs : need m ≤ xs.length) :
    unpackN xs m = if 0 < countL (((allBits xs).take (8 * need m)).drop m) then ([], 0, 140) else ((allBits xs).take m, need m, 0) := by
  unfold unpackN
  rw [if_neg (by omega), allBits_take]
  by_cases h : (((allBits xs).take (8 * need m)).drop m).any id = true
  · rw [if_pos h, if_pos ((countL_any _).2 h)]
  · rw [if_neg h, if_neg (fun h2 => h ((countL_any _).1 h2)), List.take_take]
    congr 2
    have := need_le m
    omega
theorem unpackL_only (b : List UInt8) (n : Int) : (∃ l k, unpackL b n = (l, k, 0) ∧ (l.length : Int) = n ∧ k ≤ b.length ∧ packL l = b.take k) ∨ ∃ e, unpackL b n = ([], 0, e) ∧ e ≠ 0 ∧ e < 200 := by
  unfold unpackL
  by_cases h : n < 0 ∨ 1048576 < n
  · rw [if_pos h]; exact .inr ⟨6, rfl, by omega, by omega⟩
  · rw [if_neg h]
    rcases unpack_only b n.toNat with ⟨l, h1, h2, h3, h4⟩ | h1
    · exact .inl ⟨l, _, h1, by omega, h3, h4⟩
    · exact .inr h1
theorem unpackL_pack (l : List Bool) (r : List UInt8) (h : l.length ≤ 1048576) : unpackL (packL l ++ r) (l.length : Int) = (l, need l.length, 0) := by
  unfold unpackL
  rw [if_neg (by omega), Int.toNat_natCast, unpack_pack]
end Go.Proofs.Ytbcfdlhhmifneaa
