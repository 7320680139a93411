/- Layer 15 (dict): the bytes of a list, plainly. -/
import Derived.Test.YtnkkhplddjopnaaDictPure
import Derived.Test.YtnkkhplddjopnaaLebPure
set_option linter.unusedVariables false
set_option linter.unusedSimpArgs false
namespace Go.Proofs.Ytnkkhplddjopnaa
instance textEq : DecidableEq ByteArray := fun a b => decidable_of_iff (a.data = b.data) ⟨fun h => by cases a; cases b; simp_all, fun h => by rw [h]⟩
/-- A text's bytes, and the text of bytes. -/
def bts (s : ByteArray) : List UInt8 := s.data.toList
def txt (l : List UInt8) : ByteArray := ⟨l.toArray⟩
@[simp] theorem bts_txt (l : List UInt8) : bts (txt l) = l := rfl
@[simp] theorem txt_bts (s : ByteArray) : txt (bts s) = s := rfl
def putText (s : ByteArray) : List UInt8 := leb (bts s).length ++ bts s
/-- What Put writes. -/
def putD (l : List ByteArray) : List UInt8 := leb (splitL l).1.length ++ (splitL l).1.flatMap putText ++ (splitL l).2.flatMap leb
/-- So many texts of a dictionary: an error, or the dictionary and what is left. -/
def takeTexts (most : Int) : Nat → List UInt8 → List ByteArray → Except Nat (List ByteArray × List UInt8)
  | 0, b, d => .ok (d, b)
  | k + 1, b, d =>
    if (get b).2.2 ≠ 0 then .error (get b).2.2
    else if most < 0 ∨ most < ((get b).1 : Int) then .error 5
    else if (b.drop (get b).2.1).length < (get b).1 then .error 3
    else if (placeL d (txt ((b.drop (get b).2.1).take (get b).1))).isSome then .error 150
    else takeTexts most k ((b.drop (get b).2.1).drop (get b).1) (d ++ [txt ((b.drop (get b).2.1).take (get b).1)])
/-- So many numbers: an error, or how many texts are used, the numbers, and what is left. -/
def takeNums (m : Nat) : Nat → List UInt8 → Nat → List Nat → Except Nat (Nat × List Nat × List UInt8)
  | 0, b, u, out => .ok (u, out, b)
  | k + 1, b, u, out =>
    if (get b).2.2 ≠ 0 then .error (get b).2.2
    else if m ≤ (get b).1 ∨ u < (get b).1 then .error 150
    else takeNums m k (b.drop (get b).2.1) (if (get b).1 = u then u + 1 else u) (out ++ [(get b).1])
theorem takeTexts_put (most : Int) : ∀ (t : List ByteArray) (d : List ByteArray) (r : List UInt8), (d ++ t).Nodup → (∀ s ∈ t, ((bts s).length : Int) ≤ most) → (∀ s ∈ t, (bts s).length < 18446744073709551616) →
    takeTexts most t.length (t.flatMap putText ++ r) d = .ok (d ++ t, r)
  | [], d, r, _, _, _ => by simp [takeTexts]
  | s :: t, d, r, hn, hm, hs => by
    have hg : get (putText s ++ (t.flatMap putText ++ r)) = ((bts s).length, (leb (bts s).length).length, 0) := by
      unfold putText
      rw [List.append_assoc]
      exact get_leb _ (hs s (by simp)) _
    have hdrop : (putText s ++ (t.flatMap putText ++ r)).drop (leb (bts s).length).length = bts s ++ (t.flatMap putText ++ r) := by
      unfold putText
      rw [List.append_assoc, List.drop_left]
    rw [List.length_cons, List.flatMap_cons, List.append_assoc, takeTexts, hg]
    simp only [hdrop]
    have h1 := hm s (by simp)
    have hnot : s ∉ d := by
      intro h
      exact (List.nodup_append.1 hn).2.2 s h s (by simp) rfl
    rw [if_neg (by simp), if_neg (by omega), if_neg (by simp), List.take_left, List.drop_left, txt_bts, (placeL_none d s).2 hnot, if_neg (by simp)]
    rw [takeTexts_put most t (d ++ [s]) r (by simpa using hn) (fun x hx => hm x (by simp [hx])) (fun x hx => hs x (by simp [hx]))]
    simp
theorem takeNums_put (m : Nat) : ∀ (ns : List Nat) (u v : Nat) (out : List Nat) (r : List UInt8), (∀ n ∈ ns, n < m) → m < 18446744073709551616 → usedL u ns = some v →
    takeNums m ns.length (ns.flatMap leb ++ r) u out = .ok (v, out ++ ns, r)
  | [], u, v, out, r, _, _, h => by
    obtain rfl : u = v := by simpa [usedL] using h
    simp [takeNums]
  | n :: ns, u, v, out, r, hm, hb, h => by
    have hn := hm n (by simp)
    rw [usedL] at h
    split at h
    · cases h
    · rename_i hnu
      rw [List.length_cons, List.flatMap_cons, List.append_assoc, takeNums, get_leb n (by omega)]
      simp only [List.drop_left]
      rw [if_neg (by simp), if_neg (by omega), takeNums_put m ns _ v _ r (fun x hx => hm x (by simp [hx])) hb h]
      simp
theorem get_take (b : List UInt8) (h : (get b).2.2 = 0) : b = leb (get b).1 ++ b.drop (get b).2.1 := by
  rcases get_only b with ⟨n, e, -, -, h4⟩ | ⟨e, h1, h2, -⟩
  · rw [e]
    simp only
    exact (List.take_append_drop (leb n).length b).symm.trans (by rw [← h4])
  · rw [h1] at h
    exact absurd h h2
theorem takeTexts_only (most : Int) : ∀ (k : Nat) (b : List UInt8) (d d' : List ByteArray) (r : List UInt8), takeTexts most k b d = .ok (d', r) →
    ∃ t, d' = d ++ t ∧ t.length = k ∧ b = t.flatMap putText ++ r ∧ (d.Nodup → d'.Nodup)
  | 0, b, d, d', r, h => by
    simp only [takeTexts, Except.ok.injEq, Prod.mk.injEq] at h
    exact ⟨[], by simp [h.1], rfl, by simp [h.2], fun hn => h.1 ▸ hn⟩
  | k + 1, b, d, d', r, h => by
    rw [takeTexts] at h
    split at h
    · cases h
    · rename_i h0
      split at h
      · cases h
      · split at h
        · cases h
        · rename_i hlen
          split at h
          · cases h
          · rename_i hp
            have hb := get_take b (by simpa using h0)
            obtain ⟨t, e1, e2, e3, e4⟩ := takeTexts_only most k _ _ d' r h
            generalize b.drop (get b).2.1 = c at hb hlen hp e1 e3 e4
            generalize (get b).1 = n at hb hlen hp e1 e3 e4
            have hn : (bts (txt (c.take n))).length = n := by rw [bts_txt, List.length_take]; omega
            refine ⟨txt (c.take n) :: t, by rw [e1]; simp, by simp [e2], ?_, fun hnd => e4 ?_⟩
            · rw [List.flatMap_cons, putText, hn, bts_txt, List.append_assoc, List.append_assoc, ← e3, List.take_append_drop]
              exact hb
            · have hno := (placeL_none d _).1 (by simpa using hp)
              rw [List.nodup_append]
              exact ⟨hnd, by simp, fun a ha x hx => by rw [List.mem_singleton] at hx; subst hx; exact fun e => hno (e ▸ ha)⟩
theorem takeNums_only (m : Nat) : ∀ (k : Nat) (b : List UInt8) (u v : Nat) (out out' : List Nat) (r : List UInt8), takeNums m k b u out = .ok (v, out', r) →
    ∃ ns, out' = out ++ ns ∧ ns.length = k ∧ b = ns.flatMap leb ++ r ∧ usedL u ns = some v ∧ ∀ n ∈ ns, n < m
  | 0, b, u, v, out, out', r, h => by
    simp only [takeNums, Except.ok.injEq, Prod.mk.injEq] at h
    exact ⟨[], by simp [h.2.1], rfl, by simp [h.2.2], by rw [usedL, h.1], by simp⟩
  | k + 1, b, u, v, out, out', r, h => by
    rw [takeNums] at h
    split at h
    · cases h
    · rename_i h0
      split at h
      · cases h
      · rename_i hc
        have hb := get_take b (by simpa using h0)
        obtain ⟨ns, e1, e2, e3, e4, e5⟩ := takeNums_only m k _ _ v _ out' r h
        generalize b.drop (get b).2.1 = c at hb e3
        generalize (get b).1 = n at hb hc e1 e4
        refine ⟨n :: ns, by rw [e1]; simp, by simp [e2], by rw [List.flatMap_cons, List.append_assoc, ← e3]; exact hb, ?_, ?_⟩
        · rw [usedL, if_neg (by omega)]
          exact e4
        · intro x hx
          rcases List.mem_cons.1 hx with rfl | hx
          · omega
          · exact e5 x hx
end Go.Proofs.Ytnkkhplddjopnaa
