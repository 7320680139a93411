/- Layer 15: what is put is got, what is got is what is put; plainly. -/
import Derived.Test.YtckaohkhknoocaaDictOnly
set_option linter.unusedVariables false
set_option linter.unusedSimpArgs false
namespace Go.Proofs.Ytckaohkhknoocaa
open Go.RowKit
theorem flatMap_mem_le {α : Type} (f : α → List UInt8) : ∀ (l : List α) (x : α), x ∈ l → (f x).length ≤ (l.flatMap f).length
  | y :: l, x, h => by
    rw [List.flatMap_cons, List.length_append]
    rcases List.mem_cons.1 h with rfl | h
    · omega
    · have := flatMap_mem_le f l x h
      omega
/-- What can be got is put as just those bytes. -/
theorem getDI_only (ys : List UInt8) (n most : Int) (t : List ByteArray) (s : Nat) (h : getDI ys n most = .ok (t, s)) : (t.length : Int) = n ∧ t.length ≤ 1048576 ∧ s ≤ ys.length ∧ putD t = ys.take s ∧ ∀ x ∈ t, x.size ≤ ys.length := by
  unfold getDI at h
  split at h
  · cases h
  · rename_i hn
    unfold getN at h
    rcases hd : dictL ys n.toNat most with e | ⟨d, r⟩
    · rw [hd] at h; cases h
    · rw [hd] at h
      simp only at h
      rcases hk : takeNums d.length n.toNat r 0 [] with e | ⟨u, ns, q⟩
      · rw [hk] at h; cases h
      · rw [hk] at h
        simp only at h
        split at h
        · cases h
        · rename_i hu
          injection h with h
          injection h with h1 h2
          obtain ⟨ns', e1, e2, e3, e4, e5⟩ := takeNums_only _ _ _ _ _ _ _ _ hk
          rw [List.nil_append] at e1
          subst e1
          unfold dictL at hd
          split at hd
          · cases hd
          · rename_i h0
            split at hd
            · cases hd
            · obtain ⟨t', f1, f2, f3, f4⟩ := takeTexts_only _ _ _ _ _ _ hd
              rw [List.nil_append] at f1
              subst f1
              have hnd := f4 List.nodup_nil
              have hb := get_take ys (by simpa using h0)
              have hall := map_some_of d ns e5
              obtain ⟨g1, g2⟩ := split_of_used d hnd ns 0 u [] _ (Nat.zero_le _) hall e4
              have hud : u = d.length := by omega
              have hs : splitL t = (d, ns) := by
                subst h1
                unfold splitL
                rw [List.take_zero] at g2
                rw [g2, hud, List.take_length]
                rfl
              have htl : t.length = ns.length := by
                have := (splitL_len t).2
                rw [hs] at this
                exact this.symm
              have hput : ys = putD t ++ q := by
                unfold putD
                rw [hs]
                simp only
                rw [f2, List.append_assoc, List.append_assoc, ← e3, ← f3]
                exact hb
              have hsz : s = (putD t).length := by
                rw [← h2]
                have := congrArg List.length hput
                rw [List.length_append] at this
                omega
              have hle := congrArg List.length hput
              rw [List.length_append] at hle
              refine ⟨by omega, by omega, by omega, ?_, fun x hx => ?_⟩
              · rw [hsz]
                conv => rhs; rw [hput]
                rw [List.take_left]
              · obtain ⟨-, -, k3⟩ := splitL_used t
                rw [hs] at k3
                have hm : some x ∈ ns.map (d[·]?) := by rw [k3]; exact List.mem_map_of_mem hx
                obtain ⟨j, -, hj⟩ := List.mem_map.1 hm
                have hxd : x ∈ d := List.mem_of_getElem? hj
                have h5 := flatMap_mem_le putText d x hxd
                have h6 : (bts x).length ≤ (putText x).length := by unfold putText; rw [List.length_append]; omega
                have h7 : (d.flatMap putText).length ≤ (putD t).length := by
                  unfold putD
                  rw [hs, List.length_append, List.length_append]
                  simp only
                  omega
                rw [bts_len] at h6
                omega
theorem takeTexts_long (most : Int) : ∀ (t : List ByteArray) (d : List ByteArray) (r : List UInt8), (d ++ t).Nodup → (∃ s ∈ t, most < ((bts s).length : Int)) → (∀ s ∈ t, (bts s).length < 18446744073709551616) →
    takeTexts most t.length (t.flatMap putText ++ r) d = .error 5
  | [], d, r, _, h, _ => by obtain ⟨s, hs, _⟩ := h; simp at hs
  | s :: t, d, r, hn, hm, hs => by
    have hg : get (putText s ++ (t.flatMap putText ++ r)) = ((bts s).length, (leb (bts s).length).length, 0) := by
      unfold putText
      rw [List.append_assoc]
      exact get_leb _ (hs s (by simp)) _
    have hdrop : (putText s ++ (t.flatMap putText ++ r)).drop (leb (bts s).length).length = bts s ++ (t.flatMap putText ++ r) := by
      unfold putText
      rw [List.append_assoc, List.drop_left]
    rw [List.length_cons, List.flatMap_cons, List.append_assoc, takeTexts, hg]
    simp only [hdrop]
    rw [if_neg (by simp)]
    by_cases h1 : most < 0 ∨ most < ((bts s).length : Int)
    · rw [if_pos h1]
    · have hnot : s ∉ d := by
        intro h
        exact (List.nodup_append.1 hn).2.2 s h s (by simp) rfl
      rw [if_neg h1, if_neg (by simp), List.take_left, List.drop_left, txt_bts, (placeL_none d s).2 hnot, if_neg (by simp)]
      refine takeTexts_long most t (d ++ [s]) r (by simpa using hn) ?_ (fun x hx => hs x (by simp [hx]))
      obtain ⟨x, hx, hx2⟩ := hm
      rcases List.mem_cons.1 hx with rfl | hx
      · exact absurd (.inr hx2) h1
      · exact ⟨x, hx, hx2⟩
theorem split_mem (l : List ByteArray) (s : ByteArray) : s ∈ (splitL l).1 ↔ s ∈ l := by
  have := (splitL_mem l l.length (Nat.le_refl _)).1 s
  rwa [List.take_length] at this
theorem get_putD (l : List ByteArray) (r : List UInt8) (h : l.length < 18446744073709551616) : get (putD l ++ r) = ((splitL l).1.length, (leb (splitL l).1.length).length, 0) ∧ (putD l ++ r).drop (leb (splitL l).1.length).length = (splitL l).1.flatMap putText ++ ((splitL l).2.flatMap leb ++ r) := by
  have hl := (splitL_len l).1
  unfold putD
  rw [List.append_assoc, List.append_assoc, List.drop_left]
  exact ⟨get_leb _ (by omega) _, rfl⟩
/-- What is put is got as it was, whatever stands behind. -/
theorem getN_put (l : List ByteArray) (r : List UInt8) (most : Int) (h : l.length ≤ 1048576) (hs : ∀ s ∈ l, (s.size : Int) ≤ most) (hm : ∀ s ∈ l, s.size < 18446744073709551616) : getN (putD l ++ r) l.length most = .ok (l, (putD l).length) := by
  obtain ⟨h1, h2⟩ := get_putD l r (by omega)
  obtain ⟨k1, k2, k3⟩ := splitL_used l
  have hlen := splitL_len l
  have hdict : dictL (putD l ++ r) l.length most = .ok ((splitL l).1, (splitL l).2.flatMap leb ++ r) := by
    unfold dictL
    rw [h1]
    simp only
    rw [if_neg (by simp), if_neg (by omega), h2]
    have := takeTexts_put most (splitL l).1 [] ((splitL l).2.flatMap leb ++ r) (by simpa using k1) (fun s hs' => by rw [bts_len]; exact hs s ((split_mem l s).1 hs')) (fun s hs' => by rw [bts_len]; exact hm s ((split_mem l s).1 hs'))
    rw [this, List.nil_append]
  have hnum : takeNums (splitL l).1.length l.length ((splitL l).2.flatMap leb ++ r) 0 [] = .ok ((splitL l).1.length, (splitL l).2, r) := by
    have := takeNums_put (splitL l).1.length (splitL l).2 0 (splitL l).1.length [] r (split_small l) (by omega) k2
    rw [hlen.2, List.nil_append] at this
    exact this
  rw [getN_end hdict hnum, if_neg (by omega)]
  have ho : (splitL l).2.filterMap ((splitL l).1[·]?) = l := by
    have := map_some_of (splitL l).1 (splitL l).2 (split_small l)
    rw [k3] at this
    rw [List.map_inj_right (fun _ _ e => Option.some.inj e)] at this
    exact this.symm
  rw [ho, List.length_append, Nat.add_sub_cancel]
theorem getN_long (l : List ByteArray) (r : List UInt8) (most : Int) (h : l.length ≤ 1048576) (hs : ∃ s ∈ l, most < (s.size : Int)) (hm : ∀ s ∈ l, s.size < 18446744073709551616) : getN (putD l ++ r) l.length most = .error 5 := by
  obtain ⟨h1, h2⟩ := get_putD l r (by omega)
  obtain ⟨k1, k2, k3⟩ := splitL_used l
  have hlen := splitL_len l
  refine getN_dict ?_
  unfold dictL
  rw [h1]
  simp only
  rw [if_neg (by simp), if_neg (by omega), h2]
  obtain ⟨s, hs1, hs2⟩ := hs
  exact takeTexts_long most (splitL l).1 [] ((splitL l).2.flatMap leb ++ r) (by simpa using k1) ⟨s, (split_mem l s).2 hs1, by rw [bts_len]; exact hs2⟩ (fun s hs' => by rw [bts_len]; exact hm s ((split_mem l s).1 hs'))
theorem takeTexts_err0 (most : Int) : ∀ (k : Nat) (b : List UInt8) (d : List ByteArray), takeTexts most k b d ≠ .error 0
  | 0, b, d => by simp [takeTexts]
  | k + 1, b, d => by
    rw [takeTexts_succ]
    rcases h : takeT most b with e | ⟨s, n⟩
    · simp only
      intro he
      injection he with he
      exact takeT_err _ _ _ h he
    · simp only
      split
      · intro he; injection he with he; omega
      · exact takeTexts_err0 most k _ _
theorem takeNums_err0 (m : Nat) : ∀ (k : Nat) (b : List UInt8) (u : Nat) (out : List Nat), takeNums m k b u out ≠ .error 0
  | 0, b, u, out => by simp [takeNums]
  | k + 1, b, u, out => by
    rw [takeNums]
    split
    · rename_i h
      intro he
      injection he with he
      exact h he
    · split
      · intro he; injection he with he; omega
      · exact takeNums_err0 m k _ _ _
theorem getDI_err0 (ys : List UInt8) (n most : Int) : getDI ys n most ≠ .error 0 := by
  unfold getDI
  split
  · intro he; injection he with he; omega
  · unfold getN
    rcases hd : dictL ys n.toNat most with e | ⟨d, r⟩
    · simp only
      intro he
      injection he with he
      subst he
      unfold dictL at hd
      split at hd
      · rename_i h
        injection hd with hd
        exact h hd
      · split at hd
        · injection hd with hd; omega
        · exact takeTexts_err0 _ _ _ _ hd
    · simp only
      rcases hk : takeNums d.length n.toNat r 0 [] with e | ⟨u, ns, q⟩
      · simp only
        intro he
        injection he with he
        subst he
        exact takeNums_err0 _ _ _ _ _ hk
      · simp only
        split
        · intro he; injection he with he; omega
        · intro he; cases he
end Go.Proofs.Ytckaohkhknoocaa
