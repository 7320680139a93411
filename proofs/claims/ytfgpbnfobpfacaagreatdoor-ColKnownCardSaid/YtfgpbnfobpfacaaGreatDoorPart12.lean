/- Part 12 of the walks, merged: each text under its own heading. Conditions: none of its own; each lemma states what it asks. -/
import Derived.Test.YtfgpbnfobpfacaaGreatDoorPart11
/- Layer 16, plainly: what is put is got; what is got is what was put; what is cut off is ErrTrunc. -/
set_option linter.unusedVariables false
set_option linter.unusedSimpArgs false
namespace Go.Proofs.YtfgpbnfobpfacaaGreatDoor
open Go.RowKit
/-- Cells written one by one, and read one by one. -/
structure Codec (f : List UInt8 → List Cl × Nat → GotC) (put : Cl → List UInt8) (P : Cl → Prop) : Prop where
  there : ∀ c, P c → ∀ p r l, f (p ++ (put c ++ r)) (l, p.length) = .ok (l ++ [c], p.length + (put c).length)
  cut : ∀ c, P c → ∀ p j l, j < (put c).length → f (p ++ (put c).take j) (l, p.length) = .error 3
  only : ∀ xs l s l' s', s ≤ xs.length → f xs (l, s) = .ok (l', s') → ∃ c, P c ∧ l' = l ++ [c] ∧ s' ≤ xs.length ∧ xs.drop s = put c ++ xs.drop s' ∧ s' = s + (put c).length
section
variable {f : List UInt8 → List Cl × Nat → GotC} {put : Cl → List UInt8} {P : Cl → Prop}
theorem Codec.back (h : Codec f put P) (l : List Cl) (hP : ∀ c ∈ l, P c) (r : List UInt8) : ∀ j, j ≤ l.length → iterC (f (l.flatMap put ++ r)) j = .ok (l.take j, ((l.take j).flatMap put).length)
  | 0, _ => by simp [iterC]
  | j + 1, hj => by
    rw [iterC_succ (h.back l hP r j (by omega))]
    have hs : l = l.take j ++ l[j] :: l.drop (j + 1) := by
      rw [List.getElem_cons_drop, List.take_append_drop]
    have hx : l.flatMap put ++ r = (l.take j).flatMap put ++ (put l[j] ++ ((l.drop (j + 1)).flatMap put ++ r)) := by
      conv => lhs; rw [hs]
      simp only [List.flatMap_append, List.flatMap_cons, List.append_assoc]
    rw [hx, h.there l[j] (hP _ (List.getElem_mem _)) _ _ _, List.take_add_one, List.getElem?_eq_getElem (by omega)]
    simp only [Option.toList_some, List.flatMap_append, List.flatMap_cons, List.flatMap_nil, List.append_nil, List.length_append]
theorem Codec.backs (h : Codec f put P) (l : List Cl) (hP : ∀ c ∈ l, P c) (r : List UInt8) : iterC (f (l.flatMap put ++ r)) l.length = .ok (l, (l.flatMap put).length) := by
  have := h.back l hP r l.length (Nat.le_refl _)
  rwa [List.take_length] at this
theorem Codec.short (h : Codec f put P) (l : List Cl) (hP : ∀ c ∈ l, P c) (m : Nat) : ∀ j, j ≤ l.length → ((l.take j).flatMap put).length ≤ m → iterC (f ((l.flatMap put).take m)) j = .ok (l.take j, ((l.take j).flatMap put).length) := by
  intro j hj hm
  have hs : l.flatMap put = (l.take j).flatMap put ++ (l.drop j).flatMap put := by
    conv => lhs; rw [← List.take_append_drop j l]
    rw [List.flatMap_append]
  have h2 := h.back (l.take j) (fun c hc => hP c (List.mem_of_mem_take hc)) (((l.drop j).flatMap put).take (m - ((l.take j).flatMap put).length)) j (by simp; omega)
  rw [hs, List.take_append, List.take_of_length_le hm]
  rw [List.take_take, Nat.min_self] at h2
  exact h2
theorem first_over (g : Nat → Nat) (m : Nat) : ∀ n, g 0 ≤ m → m < g n → ∃ j, j < n ∧ g j ≤ m ∧ m < g (j + 1)
  | 0, h0, h => by omega
  | n + 1, h0, h => by
    rcases Nat.lt_or_ge m (g n) with h2 | h2
    · obtain ⟨j, h3, h4⟩ := first_over g m n h0 h2
      exact ⟨j, by omega, h4⟩
    · exact ⟨n, by omega, h2, h⟩
theorem Codec.cuts (h : Codec f put P) (l : List Cl) (hP : ∀ c ∈ l, P c) (m : Nat) (hm : m < (l.flatMap put).length) : iterC (f ((l.flatMap put).take m)) l.length = .error 3 := by
  obtain ⟨j, hj, h1, h2⟩ := first_over (fun j => ((l.take j).flatMap put).length) m l.length (by simp) (by simpa using hm)
  refine iterC_err (n := j + 1) ?_ (by omega)
  rw [iterC_succ (h.short l hP m j (by omega) h1)]
  have hs : l.flatMap put = (l.take j).flatMap put ++ (put l[j] ++ (l.drop (j + 1)).flatMap put) := by
    conv => lhs; rw [show l = l.take j ++ l[j] :: l.drop (j + 1) by rw [List.getElem_cons_drop, List.take_append_drop]]
    simp only [List.flatMap_append, List.flatMap_cons, List.append_assoc]
  have hk : ((l.take (j + 1)).flatMap put).length = ((l.take j).flatMap put).length + (put l[j]).length := by
    rw [List.take_add_one, List.getElem?_eq_getElem hj]
    simp only [Option.toList_some, List.flatMap_append, List.flatMap_cons, List.flatMap_nil, List.append_nil, List.length_append]
  rw [hs, List.take_append, List.take_of_length_le h1, List.take_append, show m - ((l.take j).flatMap put).length - (put l[j]).length = 0 by omega, List.take_zero, List.append_nil]
  exact h.cut _ (hP _ (List.getElem_mem _)) _ _ _ (by omega)
theorem Codec.onlys (h : Codec f put P) (xs : List UInt8) : ∀ (n : Nat) (l : List Cl) (s : Nat), iterC (f xs) n = .ok (l, s) → l.length = n ∧ (∀ c ∈ l, P c) ∧ s ≤ xs.length ∧ s = (l.flatMap put).length ∧ xs = l.flatMap put ++ xs.drop s
  | 0, l, s, e => by
    simp only [iterC, Except.ok.injEq, Prod.mk.injEq] at e
    obtain ⟨rfl, rfl⟩ := e
    simp
  | n + 1, l, s, e => by
    obtain ⟨⟨l0, s0⟩, h0⟩ := iterC_ok (n := n) e (by omega)
    rw [iterC_succ h0] at e
    obtain ⟨i1, i2, i3, i4, i5⟩ := h.onlys xs n l0 s0 h0
    obtain ⟨c, q1, rfl, q3, q4, q5⟩ := h.only xs l0 s0 l s i3 e
    refine ⟨by simp [i1], ?_, q3, ?_, ?_⟩
    · intro x hx
      rcases List.mem_append.1 hx with hx | hx
      · exact i2 x hx
      · obtain rfl : x = c := by simpa using hx
        exact q1
    · rw [q5, i4]
      simp only [List.flatMap_append, List.flatMap_cons, List.flatMap_nil, List.append_nil, List.length_append]
    · conv => lhs; rw [i5, q4]
      simp only [List.flatMap_append, List.flatMap_cons, List.flatMap_nil, List.append_nil, List.append_assoc]
end
theorem codecI (k : Int) (h2 : k = 2 ∨ k = 3) : Codec (stepI k) (fun c => leb (zig c.2.1)) (fun c => c.1 = false ∧ isC k c = true) := by
  have key : ∀ c : Cl, c.1 = false → isC k c = true → c = intC c.2.1 ∧ -9223372036854775808 ≤ c.2.1 ∧ c.2.1 ≤ 9223372036854775807 := by
    rintro ⟨u, n, s⟩ hu hc
    simp only at hu
    subst hu
    rcases h2 with rfl | rfl
    · simp [isC] at hc
      obtain ⟨rfl, h3, h4⟩ := hc
      exact ⟨rfl, by simp only; omega, by simp only; omega⟩
    · simp [isC] at hc
      obtain ⟨rfl, h3, h4⟩ := hc
      exact ⟨rfl, h3, h4⟩
  refine ⟨?_, ?_, ?_⟩
  · rintro c ⟨hu, hc⟩ p r l
    obtain ⟨h3, h4, h5⟩ := key c hu hc
    have hg : get ((p ++ (leb (zig c.2.1) ++ r)).drop p.length) = (zig c.2.1, (leb (zig c.2.1)).length, 0) := by
      rw [List.drop_left]
      exact get_leb _ (zig_lt _ h4 h5) _
    unfold stepI
    simp only
    rw [hg]
    simp only [zag_zig, if_true]
    rw [← h3, if_pos hc]
  · rintro c ⟨hu, hc⟩ p j l hj
    obtain ⟨h3, h4, h5⟩ := key c hu hc
    have hg : get ((p ++ (leb (zig c.2.1)).take j).drop p.length) = (0, 0, 3) := by
      rw [List.drop_left]
      exact get_cut _ _ (zig_lt _ h4 h5) hj
    unfold stepI
    simp only
    rw [hg]
    simp
  · intro xs l s l' s' hs h
    unfold stepI at h
    simp only at h
    rcases get_only (xs.drop s) with ⟨n, e, q1, q2, q3⟩ | ⟨e, q1, q2, -⟩
    · rw [e] at h
      simp only [if_true] at h
      split at h
      · rename_i hc
        injection h with h
        injection h with e1 e2
        rw [List.length_drop] at q2
        refine ⟨intC (zag n), ⟨rfl, hc⟩, e1.symm, by omega, ?_, ?_⟩
        · simp only [intC, zig_zag]
          rw [← e2, ← List.drop_drop]
          conv => lhs; rw [← List.take_append_drop (leb n).length (xs.drop s), ← q3]
        · simp only [intC, zig_zag]
          exact e2.symm
      · cases h
    · rw [q1] at h
      simp only at h
      rw [if_neg q2] at h
      cases h
theorem codecR : Codec stepR (fun c => leb c.2.2.size ++ c.2.2.data.toList) (fun c => c.1 = false ∧ isC 5 c = true) := by
  have key : ∀ c : Cl, c.1 = false → isC 5 c = true → c = txtC c.2.2 ∧ c.2.2.size ≤ 1024 := by
    rintro ⟨u, n, s⟩ hu hc
    simp only at hu
    subst hu
    simp [isC, sizeC] at hc
    obtain ⟨rfl, h3⟩ := hc
    exact ⟨rfl, h3⟩
  have hsz : ∀ s : ByteArray, s.data.toList.length = s.size := fun s => Array.length_toList
  refine ⟨?_, ?_, ?_⟩
  · rintro c ⟨hu, hc⟩ p r l
    obtain ⟨h3, h4⟩ := key c hu hc
    have hg : get ((p ++ ((leb c.2.2.size ++ c.2.2.data.toList) ++ r)).drop p.length) = (c.2.2.size, (leb c.2.2.size).length, 0) := by
      rw [List.drop_left, List.append_assoc]
      exact get_leb _ (by omega) _
    have hd : (p ++ ((leb c.2.2.size ++ c.2.2.data.toList) ++ r)).drop (p.length + (leb c.2.2.size).length) = c.2.2.data.toList ++ r := by
      rw [← List.drop_drop, List.drop_left, List.append_assoc, List.drop_left]
    unfold stepR
    simp only
    rw [hg]
    simp only
    simp only [if_true]
    rw [if_neg (by omega), if_neg (by have := hsz c.2.2; simp only [List.length_append]; omega), hd, ← hsz, List.take_left]
    rw [show txtC (txt c.2.2.data.toList) = c from h3.symm]
    simp [Nat.add_assoc]
  · rintro c ⟨hu, hc⟩ p j l hj
    obtain ⟨h3, h4⟩ := key c hu hc
    have hj2 := hj
    rw [List.length_append, hsz] at hj2
    unfold stepR
    simp only
    rw [List.drop_left]
    rcases Nat.lt_or_ge j (leb c.2.2.size).length with h | h
    · rw [List.take_append_of_le_length (by omega), get_cut _ _ (by omega) h]
      simp
    · rw [List.take_append, List.take_of_length_le h, get_leb _ (by omega)]
      simp only
      simp only [if_true]
      rw [if_neg (by omega), if_pos ?_]
      have := hsz c.2.2
      simp only [List.length_append, List.length_take]
      omega
  · intro xs l s l' s' hs h
    unfold stepR at h
    simp only at h
    rcases get_only (xs.drop s) with ⟨n, e, q1, q2, q3⟩ | ⟨e, q1, q2, -⟩
    · rw [e] at h
      simp only [if_true] at h
      split at h
      · cases h
      · rename_i hn
        split at h
        · cases h
        · rename_i hl
          injection h with h
          injection h with e1 e2
          rw [List.length_drop] at q2
          have ht : (txt ((xs.drop (s + (leb n).length)).take n)).size = n := by
            rw [← hsz]
            show ((xs.drop (s + (leb n).length)).take n).length = n
            rw [List.length_take, List.length_drop]
            omega
          refine ⟨_, ⟨rfl, ?_⟩, e1.symm, by omega, ?_, ?_⟩
          · simp only [isC, txtC, sizeC, ht]
            simp
            omega
          · simp only [txtC, ht]
            show xs.drop s = leb n ++ (xs.drop (s + (leb n).length)).take n ++ xs.drop s'
            have hd : (xs.drop (s + (leb n).length)).take n ++ xs.drop (s + (leb n).length + n) = xs.drop (s + (leb n).length) := by
              rw [← List.drop_drop (l := xs) (i := n) (j := s + (leb n).length), List.take_append_drop]
            rw [← e2, List.append_assoc, hd, ← List.drop_drop]
            conv => lhs; rw [← List.take_append_drop (leb n).length (xs.drop s), ← q3]
          · simp only [txtC, ht, List.length_append]
            rw [hsz, ht]
            omega
    · rw [q1] at h
      simp only at h
      rw [if_neg q2] at h
      cases h
/-- Cells that are there, of a kind. -/
def okC (k : Int) (l : List Cl) : Prop := ∀ c ∈ l, c.1 = false ∧ isC k c = true
theorem okC1 {c : Cl} (h : c.1 = false ∧ isC 1 c = true) : boolC (c.2.1 == 1) = c := by
  obtain ⟨u, n, s⟩ := c
  obtain ⟨h1, h2⟩ := h
  simp only at h1
  subst h1
  simp [isC] at h2
  obtain ⟨rfl, h3, h4⟩ := h2
  rcases (show n = 0 ∨ n = 1 by omega) with rfl | rfl <;> rfl
theorem okC4 {c : Cl} (h : c.1 = false ∧ isC 4 c = true) : txtC c.2.2 = c ∧ c.2.2.size ≤ 1024 ∧ Lib.validD c.2.2.data.toList = true := by
  obtain ⟨u, n, s⟩ := c
  obtain ⟨h1, h2⟩ := h
  simp only at h1
  subst h1
  simp [isC, sizeC] at h2
  obtain ⟨⟨rfl, h3⟩, h4⟩ := h2
  exact ⟨rfl, h3, h4⟩
theorem okC_bool (b : Bool) : (boolC b).1 = false ∧ isC 1 (boolC b) = true := by cases b <;> simp [boolC, isC]
theorem getB_put (k : Int) (h1 : 1 ≤ k) (h5 : k ≤ 5) (l : List Cl) (hP : okC k l) (hl : l.length ≤ 1048576) (r : List UInt8) : getB k (bareB k l ++ r) (l.length : Int) = .ok (l, (bareB k l).length) := by
  rcases (show k = 1 ∨ (k = 2 ∨ k = 3) ∨ k = 4 ∨ k = 5 by omega) with rfl | h | rfl | rfl
  · have hu := unpackL_pack (l.map fun c => c.2.1 == 1) r (by simpa using hl)
    rw [List.length_map] at hu
    simp only [getB, bareB, if_true]
    rw [hu]
    simp only [if_true, List.map_map]
    rw [packL_length, List.length_map]
    congr 2
    refine (List.map_congr_left (g := id) fun c hc => ?_).trans (List.map_id l)
    exact okC1 (hP c hc)
  · have := (codecI k h).backs l (fun c hc => hP c hc) r
    have hk : ¬ k = 1 ∧ ¬ k = 4 ∧ ¬ k = 5 := by omega
    simp only [getB, bareB, hk, if_false]
    simpa [intsB] using this
  · have hz : ∀ s ∈ l.map (fun c => c.2.2), (s.size : Int) ≤ 1024 := by
      intro s hs
      obtain ⟨c, hc, rfl⟩ := List.mem_map.1 hs
      have := (okC4 (hP c hc)).2.1
      omega
    have hg := getN_put (l.map fun c => c.2.2) r 1024 (by simpa using hl) hz (fun s hs => by have := hz s hs; omega)
    rw [List.length_map] at hg
    have hd : getDI (putD (l.map fun c => c.2.2) ++ r) (l.length : Int) 1024 = .ok (l.map (fun c => c.2.2), (putD (l.map fun c => c.2.2)).length) := by
      unfold getDI
      rw [if_neg (by omega), Int.toNat_natCast, hg]
    have ha : (l.map fun c => c.2.2).all (fun s => Lib.validD s.data.toList) = true := by
      rw [List.all_eq_true]
      intro s hs
      obtain ⟨c, hc, rfl⟩ := List.mem_map.1 hs
      exact (okC4 (hP c hc)).2.2
    have hm : (l.map fun c => c.2.2).map txtC = l := by
      rw [List.map_map]
      refine (List.map_congr_left (g := id) fun c hc => ?_).trans (List.map_id l)
      exact (okC4 (hP c hc)).1
    simp only [getB, bareB, show ¬ (4 : Int) = 1 by decide, if_false, if_true]
    rw [hd]
    simp only
    rw [if_pos ha, hm]
  · have := codecR.backs l (fun c hc => hP c hc) r
    simp only [getB, bareB, show ¬ (5 : Int) = 1 by decide, show ¬ (5 : Int) = 4 by decide, if_false, if_true]
    simpa [rawsB] using this
theorem getB_cut (k : Int) (h1 : 1 ≤ k) (h5 : k ≤ 5) (l : List Cl) (hP : okC k l) (hl : l.length ≤ 1048576) (j : Nat) (hj : j < (bareB k l).length) : getB k ((bareB k l).take j) (l.length : Int) = .error 3 := by
  rcases (show k = 1 ∨ (k = 2 ∨ k = 3) ∨ k = 4 ∨ k = 5 by omega) with rfl | h | rfl | rfl
  · simp only [bareB, if_true] at hj
    rw [packL_length, List.length_map] at hj
    have hu : unpackL ((packL (l.map fun c => c.2.1 == 1)).take j) (l.length : Int) = ([], 0, 3) := by
      unfold unpackL
      rw [if_neg (by omega), Int.toNat_natCast]
      unfold unpackN
      rw [if_pos (by rw [List.length_take, packL_length, List.length_map]; omega)]
    simp only [getB, bareB, if_true]
    rw [hu]
    simp
  · have hk : ¬ k = 1 ∧ ¬ k = 4 ∧ ¬ k = 5 := by omega
    simp only [bareB, hk, if_false] at hj
    have := (codecI k h).cuts l (fun c hc => hP c hc) j (by simpa [intsB] using hj)
    simp only [getB, bareB, hk, if_false]
    simpa [intsB] using this
  · have hz : ∀ s ∈ l.map (fun c => c.2.2), (s.size : Int) ≤ 1024 := by
      intro s hs
      obtain ⟨c, hc, rfl⟩ := List.mem_map.1 hs
      have := (okC4 (hP c hc)).2.1
      omega
    simp only [bareB, show ¬ (4 : Int) = 1 by decide, if_false, if_true] at hj
    have hg := getN_cut (l.map fun c => c.2.2) j 1024 (by simpa using hl) hz (fun s hs => by have := hz s hs; omega) hj
    rw [List.length_map] at hg
    simp only [getB, bareB, show ¬ (4 : Int) = 1 by decide, if_false, if_true]
    unfold getDI
    rw [if_neg (by omega), Int.toNat_natCast, hg]
  · simp only [bareB, show ¬ (5 : Int) = 1 by decide, show ¬ (5 : Int) = 4 by decide, if_false, if_true] at hj
    have := codecR.cuts l (fun c hc => hP c hc) j (by simpa [rawsB] using hj)
    simp only [getB, bareB, show ¬ (5 : Int) = 1 by decide, show ¬ (5 : Int) = 4 by decide, if_false, if_true]
    simpa [rawsB] using this
theorem getB_only (k : Int) (h1 : 1 ≤ k) (h5 : k ≤ 5) (xs : List UInt8) (n : Nat) (l : List Cl) (s : Nat) (h : getB k xs (n : Int) = .ok (l, s)) : l.length = n ∧ okC k l ∧ s ≤ xs.length ∧ bareB k l = xs.take s := by
  rcases (show k = 1 ∨ (k = 2 ∨ k = 3) ∨ k = 4 ∨ k = 5 by omega) with rfl | hk | rfl | rfl
  · simp only [getB, if_true] at h
    rcases unpackL_only xs (n : Int) with ⟨t, m, e, q1, q2, q3⟩ | ⟨e, q1, q2, -⟩
    · rw [e] at h
      simp only [if_true, Except.ok.injEq, Prod.mk.injEq] at h
      obtain ⟨rfl, rfl⟩ := h
      refine ⟨by rw [List.length_map]; omega, ?_, q2, ?_⟩
      · intro c hc
        obtain ⟨b, -, rfl⟩ := List.mem_map.1 hc
        exact okC_bool b
      · simp only [bareB, if_true, List.map_map]
        rw [← q3]
        congr 1
        refine (List.map_congr_left (g := id) fun b hb => ?_).trans (List.map_id t)
        cases b <;> rfl
    · rw [q1] at h
      simp only at h
      rw [if_neg q2] at h
      cases h
  · have hk2 : ¬ k = 1 ∧ ¬ k = 4 ∧ ¬ k = 5 := by omega
    simp only [getB, hk2, if_false, Int.toNat_natCast] at h
    obtain ⟨q1, q2, q3, q4, q5⟩ := (codecI k hk).onlys xs n l s h
    refine ⟨q1, q2, q3, ?_⟩
    simp only [bareB, hk2, if_false, intsB]
    rw [q4]
    conv => rhs; rw [q5]
    rw [List.take_left]
  · simp only [getB, show ¬ (4 : Int) = 1 by decide, if_false, if_true] at h
    rcases hd : getDI xs (n : Int) 1024 with e | ⟨t, m⟩
    · rw [hd] at h; cases h
    · rw [hd] at h
      simp only at h
      split at h
      · rename_i ha
        simp only [Except.ok.injEq, Prod.mk.injEq] at h
        obtain ⟨rfl, rfl⟩ := h
        obtain ⟨q1, q2, q3, q4, -⟩ := getDI_only xs (n : Int) 1024 t m hd
        have hz := getDI_sizes xs (n : Int) 1024 t m hd
        rw [List.all_eq_true] at ha
        refine ⟨by rw [List.length_map]; omega, ?_, q3, ?_⟩
        · intro c hc
          obtain ⟨b, hb, rfl⟩ := List.mem_map.1 hc
          have h1 := hz b hb
          have h2 := ha b hb
          refine ⟨rfl, ?_⟩
          simp [isC, txtC, sizeC, h2]
          omega
        · simp only [bareB, show ¬ (4 : Int) = 1 by decide, if_false, if_true, List.map_map]
          rw [← q4]
          congr 1
          exact (List.map_congr_left (g := id) fun b hb => rfl).trans (List.map_id t)
      · cases h
  · simp only [getB, show ¬ (5 : Int) = 1 by decide, show ¬ (5 : Int) = 4 by decide, if_false, if_true, Int.toNat_natCast] at h
    obtain ⟨q1, q2, q3, q4, q5⟩ := codecR.onlys xs n l s h
    refine ⟨q1, q2, q3, ?_⟩
    simp only [bareB, show ¬ (5 : Int) = 1 by decide, show ¬ (5 : Int) = 4 by decide, if_false, if_true, rawsB]
    rw [q4]
    conv => rhs; rw [q5]
    rw [List.take_left]
/-- Every cell is of the type: those that are there are of the kind, and nothing is only where it may be. -/
theorem allC_iff (k : Int) (nl : Bool) (l : List Cl) (hk : mayK k = true) : allC k nl l = true ↔ okC k (someC l) ∧ ∀ c ∈ l, c.1 = true → nl = true ∧ c = nullC := by
  unfold allC okC someC
  rw [List.all_eq_true]
  have key : ∀ c : Cl, (checkE k nl c == 0) = true ↔ (c.1 = false → isC k c = true) ∧ (c.1 = true → nl = true ∧ c = nullC) := by
    rintro ⟨u, n, s⟩
    cases u with
    | false =>
      simp only [checkE, hk, if_true]
      by_cases hi : isC k (false, n, s) = true <;> simp [hi]
    | true =>
      simp only [checkE, hk, if_true]
      cases nl with
      | false => simp
      | true =>
        by_cases hn : n = 0 ∧ s = ⟨#[]⟩
        · obtain ⟨rfl, rfl⟩ := hn
          simp [nullC]
        · simp only [Bool.true_and, decide_eq_true_eq]
          rw [if_neg hn]
          simp only [nullC, Prod.mk.injEq, true_and]
          simp
          exact fun h => (not_and.1 hn) h
  constructor
  · intro h
    refine ⟨fun c hc => ?_, fun c hc hu => ((key c).1 (h c hc)).2 hu⟩
    obtain ⟨h1, h2⟩ := List.mem_filter.1 hc
    have h3 : c.1 = false := by simpa using h2
    exact ⟨h3, ((key c).1 (h c h1)).1 h3⟩
  · rintro ⟨h1, h2⟩ c hc
    refine (key c).2 ⟨fun hu => ?_, h2 c hc⟩
    exact (h1 c (List.mem_filter.2 ⟨hc, by simp [hu]⟩)).2
theorem someC_le (l : List Cl) : (someC l).length ≤ l.length := List.length_filter_le _ _
theorem countL_there : ∀ l : List Cl, countL (l.map fun c => !c.1) = (someC l).length
  | [] => rfl
  | c :: l => by
    have := countL_there l
    unfold countL someC at *
    cases hc : c.1 <;> simp [hc] at * <;> omega
theorem merge_some : ∀ l : List Cl, (∀ c ∈ l, c.1 = true → c = nullC) → mergeL (l.map fun c => !c.1) (someC l) = l
  | [], _ => rfl
  | c :: l, h => by
    have ih := merge_some l (fun x hx => h x (by simp [hx]))
    cases hc : c.1 with
    | false => simp [someC, mergeL, hc] at *; exact ih
    | true =>
      have := h c (by simp) hc
      simp [someC, mergeL, hc] at *
      exact ⟨this.symm, ih⟩
theorem some_merge : ∀ (t : List Bool) (l : List Cl), (∀ c ∈ l, c.1 = false) → countL t = l.length → someC (mergeL t l) = l ∧ (mergeL t l).map (fun c => !c.1) = t ∧ ∀ c ∈ mergeL t l, c.1 = true → c = nullC
  | [], l, h, hc => by
    have : l = [] := List.eq_nil_of_length_eq_zero (by simpa [countL] using hc.symm)
    subst this
    simp [mergeL, someC]
  | false :: t, l, h, hc => by
    obtain ⟨h1, h2, h3⟩ := some_merge t l h (by simpa [countL] using hc)
    refine ⟨by simpa [mergeL, someC, nullC] using h1, by simpa [mergeL, nullC] using h2, ?_⟩
    intro c hm hu
    rcases List.mem_cons.1 hm with rfl | hm
    · rfl
    · exact h3 c hm hu
  | true :: t, [], h, hc => by simp [countL] at hc
  | true :: t, c :: l, h, hc => by
    obtain ⟨h1, h2, h3⟩ := some_merge t l (fun x hx => h x (by simp [hx])) (by simpa [countL] using hc)
    have hc0 := h c (by simp)
    refine ⟨by simp [mergeL, someC, hc0] at *; exact h1, by simp [mergeL, hc0] at *; exact h2, ?_⟩
    intro x hm hu
    rcases List.mem_cons.1 hm with rfl | hm
    · rw [hc0] at hu; cases hu
    · exact h3 x hm hu
theorem someC_all (l : List Cl) (h : ∀ c ∈ l, c.1 = false) : someC l = l := List.filter_eq_self.2 fun c hc => by simp [h c hc]
/-- A column that is put is got as it was, whatever stands behind. -/
theorem getC_put (k : Int) (nl : Bool) (l : List Cl) (hk : mayK k = true) (ha : allC k nl l = true) (hl : l.length ≤ 1048576) (r : List UInt8) : getC k nl (putB k nl l [] ++ r) (l.length : Int) = .ok (l, (putB k nl l []).length) := by
  obtain ⟨h1, h5⟩ : 1 ≤ k ∧ k ≤ 5 := by simpa [mayK] using hk
  obtain ⟨ho, hn⟩ := (allC_iff k nl l hk).1 ha
  have hs := someC_le l
  unfold getC
  rw [if_neg (by simp [hk]), if_neg (by omega)]
  cases nl with
  | false =>
    have hsl : someC l = l := someC_all l fun c hc => by
      cases hu : c.1 with
      | false => rfl
      | true => exact absurd (hn c hc hu).1 (by simp)
    rw [hsl] at ho
    simp only [putB, Bool.false_eq_true, if_false, List.nil_append, if_true, hsl]
    exact getB_put k h1 h5 l ho hl r
  | true =>
    have hu := unpackL_pack (l.map fun c => !c.1) (bareB k (someC l) ++ r) (by simpa using hl)
    rw [List.length_map] at hu
    simp only [putB, if_true, List.nil_append, List.append_assoc]
    rw [hu]
    simp only [Bool.true_eq_false, if_false, if_true]
    have hp : (packL (l.map fun c => !c.1)).length = need l.length := by rw [packL_length, List.length_map]
    rw [← hp, List.drop_left, countL_there, getB_put k h1 h5 (someC l) ho (by omega) r]
    simp only
    rw [merge_some l (fun c hc hu => (hn c hc hu).2), List.length_append]
theorem getC_only (k : Int) (nl : Bool) (xs : List UInt8) (n : Int) (l : List Cl) (s : Nat) (h : getC k nl xs n = .ok (l, s)) : mayK k = true ∧ (l.length : Int) = n ∧ l.length ≤ 1048576 ∧ s ≤ xs.length ∧ putB k nl l [] = xs.take s ∧ allC k nl l = true := by
  unfold getC at h
  split at h
  · cases h
  · rename_i hk
    have hk : mayK k = true := by simpa using hk
    obtain ⟨h1, h5⟩ : 1 ≤ k ∧ k ≤ 5 := by simpa [mayK] using hk
    split at h
    · cases h
    · rename_i hn
      obtain ⟨m, rfl⟩ : ∃ m : Nat, n = (m : Int) := ⟨n.toNat, by omega⟩
      cases nl with
      | false =>
        simp only [if_true] at h
        obtain ⟨q1, q2, q3, q4⟩ := getB_only k h1 h5 xs m l s h
        have hsl : someC l = l := someC_all l fun c hc => (q2 c hc).1
        refine ⟨hk, by omega, by omega, q3, by simp [putB, hsl, q4], (allC_iff k false l hk).2 ⟨by rw [hsl]; exact q2, fun c hc hu => ?_⟩⟩
        rw [(q2 c hc).1] at hu
        cases hu
      | true =>
        simp only [Bool.true_eq_false, if_false] at h
        rcases unpackL_only xs (m : Int) with ⟨t, a, e, q1, q2, q3⟩ | ⟨e, q1, q2, -⟩
        · rw [e] at h
          simp only [if_true] at h
          rcases hg : getB k (xs.drop a) (countL t : Int) with e2 | ⟨l2, s2⟩
          · rw [hg] at h; cases h
          · rw [hg] at h
            simp only [Except.ok.injEq, Prod.mk.injEq] at h
            obtain ⟨rfl, rfl⟩ := h
            obtain ⟨g1, g2, g3, g4⟩ := getB_only k h1 h5 _ _ l2 s2 hg
            obtain ⟨m1, m2, m3⟩ := some_merge t l2 (fun c hc => (g2 c hc).1) g1.symm
            have hlen := mergeL_len t l2 (by omega)
            rw [List.length_drop] at g3
            refine ⟨hk, by rw [hlen]; exact q1, by rw [hlen]; omega, by omega, ?_, (allC_iff k true _ hk).2 ⟨by rw [m1]; exact g2, fun c hc hu => ⟨rfl, m3 c hc hu⟩⟩⟩
            simp only [putB, if_true, List.nil_append]
            rw [m1, m2, g4, q3, List.take_add]
        · rw [q1] at h
          simp only at h
          rw [if_neg q2] at h
          cases h
theorem getC_cut (k : Int) (nl : Bool) (l : List Cl) (hk : mayK k = true) (ha : allC k nl l = true) (hl : l.length ≤ 1048576) (j : Nat) (hj : j < (putB k nl l []).length) : getC k nl ((putB k nl l []).take j) (l.length : Int) = .error 3 := by
  obtain ⟨h1, h5⟩ : 1 ≤ k ∧ k ≤ 5 := by simpa [mayK] using hk
  obtain ⟨ho, hn⟩ := (allC_iff k nl l hk).1 ha
  have hs := someC_le l
  unfold getC
  rw [if_neg (by simp [hk]), if_neg (by omega)]
  cases nl with
  | false =>
    have hsl : someC l = l := someC_all l fun c hc => by
      cases hu : c.1 with
      | false => rfl
      | true => exact absurd (hn c hc hu).1 (by simp)
    rw [hsl] at ho
    simp only [putB, Bool.false_eq_true, if_false, List.nil_append, if_true, hsl] at hj ⊢
    exact getB_cut k h1 h5 l ho hl j hj
  | true =>
    have hp : (packL (l.map fun c => !c.1)).length = need l.length := by rw [packL_length, List.length_map]
    simp only [putB, if_true, List.nil_append, Bool.true_eq_false, if_false] at hj ⊢
    rcases Nat.lt_or_ge j (packL (l.map fun c => !c.1)).length with hc | hc
    · have hu : unpackL ((packL (l.map fun c => !c.1) ++ bareB k (someC l)).take j) (l.length : Int) = ([], 0, 3) := by
        unfold unpackL
        rw [if_neg (by omega), Int.toNat_natCast]
        unfold unpackN
        rw [if_pos (by rw [List.length_take, List.length_append]; omega)]
      rw [hu]
      simp
    · have hu := unpackL_pack (l.map fun c => !c.1) ((bareB k (someC l)).take (j - (packL (l.map fun c => !c.1)).length)) (by simpa using hl)
      rw [List.length_map] at hu
      rw [List.take_append, List.take_of_length_le hc, hu]
      simp only [if_true]
      rw [List.length_append] at hj
      rw [← hp, List.drop_left, countL_there, getB_cut k h1 h5 (someC l) ho (by omega) _ (by omega)]
end Go.Proofs.YtfgpbnfobpfacaaGreatDoor
