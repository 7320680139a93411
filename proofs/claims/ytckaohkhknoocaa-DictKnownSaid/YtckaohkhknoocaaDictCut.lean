/- Layer 15, walked: what the laws' cut keeps of a list of texts. -/
import Derived.Test.YtckaohkhknoocaaLists
import Derived.Test.YtckaohkhknoocaaHeld
set_option linter.unusedVariables false
set_option linter.unusedSimpArgs false
namespace Go.Proofs.Ytckaohkhknoocaa
open Go.RowKit

def cutT (s : ByteArray) : ByteArray := s.extract 0 (min s.size 200)
def cutTs (l : List ByteArray) : List ByteArray := (l.take 60).map cutT
theorem cutT_size (s : ByteArray) : (cutT s).size ≤ 200 := by
  unfold cutT
  rw [ByteArray.size_extract]
  omega
theorem cutT_eq (s : ByteArray) : s.extract 0 (min (s.size : Int) 200).toNat = cutT s := by
  unfold cutT
  rw [show (min (s.size : Int) 200).toNat = min s.size 200 from by omega]
theorem cutTs_len (l : List ByteArray) : (cutTs l).length ≤ 60 := by unfold cutTs; simp; omega
theorem cutTs_size (l : List ByteArray) : ∀ s ∈ cutTs l, s.size ≤ 200 := by
  intro s hs
  unfold cutTs at hs
  obtain ⟨t, _, rfl⟩ := List.mem_map.1 hs
  exact cutT_size t
theorem cutTs_next (l : List ByteArray) (k : Nat) (s : ByteArray) (h : l[k]? = some s) (hk : k < 60) : (cutTs l).take (k + 1) = (cutTs l).take k ++ [cutT s] := by
  rw [List.take_add_one]
  congr 1
  unfold cutTs
  rw [List.getElem?_map, List.getElem?_take, if_pos hk, h]
  rfl
theorem cutTs_length (l : List ByteArray) : (cutTs l).length = min l.length 60 := by unfold cutTs; simp [Nat.min_comm]

set_option maxRecDepth 100000 in
set_option maxHeartbeats 400000 in
theorem dcut_any (A : Option Addr) (n c : Nat) (l : List ByteArray) (w : World) (hr : Reads w w.heap.size 1 A n (txs l)) (hn : n ≤ c) (hc : c ≤ maxLen) (hs : ∀ s ∈ l, s.size ≤ maxLen) :
    Calls Try.prog 11 #[.slice A n c] w fun e w' => ∃ A' c', e = .returned (.slice A' (cutTs l).length c') ∧ (cutTs l).length ≤ c' ∧ c' ≤ maxLen ∧
      w'.ownsRow w.heap.size 9 1 (.slice A' (cutTs l).length c') (cutTs l).length (txs (cutTs l)) ∧ Below w.heap.size w w' := by
  obtain ⟨i0, hi0, hz0, hz1, hz2⟩ := info_parts text_info
  unfold maxLen at hc
  have Hlen := Lib.hid (tlen hr)
  have Hcl := Lib.hid (cutTs_length l)
  have hcl := cutTs_len l
  have Hs := Lib.hid hs
  clear hs
  go_enter Try.func11, Try.ntmps11
  go_wp2
  go_loopw [3, 4] (fun v i wr => ∃ (k : Nat) (A1 : Option Addr) (c1 : Nat), k ≤ (cutTs l).length ∧ i = .int .i64 (k : Int) ∧ v = .slice A1 k c1 ∧
    wr.ownsRow w.heap.size 9 1 (.slice A1 k c1) k (txs ((cutTs l).take k)) ∧ Below w.heap.size w wr) (fun _ i _ => (cutTs l).length - (intOf i).toNat)
  case atStart => exact ⟨0, none, 0, Nat.zero_le _, rfl, rfl, World.ownsRow_nil _ _ _ _, Below.refl _ _⟩
  case round =>
    obtain ⟨k, A1, c1, hk, rfl, rfl, hown, hB⟩ := hrel
    by_cases hlt : k < (cutTs l).length
    · have hkn : k < n := by have := Hcl.out; have := Hlen.out; omega
      have hk60 : k < 60 := by omega
      obtain ⟨ad, v, rfl, hbk, hx, hcell⟩ := hr.at_ hkn
      obtain ⟨s, hs', rfl⟩ := txs_get _ _ _ hx
      have hnx := Lib.hid (cutTs_next l k s hs' hk60)
      have hsz := Hs.out s (List.mem_of_getElem? hs')
      unfold maxLen at hsz
      have hL : ∀ w', Below w.heap.size w w' → w'.cell? (ad.add k) = some (.string s) := fun w' h => by
        rw [h.cell (p := ad.add k) (by rw [block_of_add]; exact hbk)]; exact hcell
      have HL := Lib.hid hL
      have hbase := hB.size
      have hs1 : k + 1 ≤ maxLen := by simp only [maxLen]; omega
      have hs2 : (k + 1) * 16 ≤ 70368744177664 := by omega
      clear hL hx hs' hcell
      go_wp2
      have hS := hB.drew
      refine wp_region_keep (Below w.heap.size w) [(0, false), (1, false), (2, false), (3, false), (4, false), (5, false), (6, false), (7, false), (8, false), (9, false), (10, false), (11, false), (12, true), (13, true), (14, false)] (by kernel_rfl) (by kernel_rfl) (by kernel_rfl) (fun d _ _ _ _ h => by cases d <;> exact h) ?_
      refine held_pure (v := ?_) rfl rfl (by simp [Region.wanted, yielded]) hS ?_ ?_
      rotate_left
      · intro w hw; go_simp; try with_reducible rfl
      try simp only [Act.put, List.setIfInBounds_toArray, List.set_cons_succ, List.set_cons_zero]
      refine held_pure (v := ?_) rfl rfl (by simp [Region.wanted, yielded]) hS ?_ ?_
      rotate_left
      · intro w hw; go_simp; try with_reducible rfl
      try simp only [Act.put, List.setIfInBounds_toArray, List.set_cons_succ, List.set_cons_zero]
      refine held_pure (v := ?_) rfl rfl (by simp [Region.wanted, yielded]) hS ?_ ?_
      rotate_left
      · intro w hw; go_simp; try with_reducible rfl
      try simp only [Act.put, List.setIfInBounds_toArray, List.set_cons_succ, List.set_cons_zero]
      refine held_pure (v := ?_) rfl rfl (by simp [Region.wanted, yielded]) hS ?_ ?_
      rotate_left
      · intro w hw; go_simp; try with_reducible rfl
      try simp only [Act.put, List.setIfInBounds_toArray, List.set_cons_succ, List.set_cons_zero]
      refine held_pure (v := ?_) rfl rfl (by simp [Region.wanted, yielded]) hS ?_ ?_
      rotate_left
      · intro w hw; have c0 := HL.out w hw; go_simp; try with_reducible rfl
      try simp only [Act.put, List.setIfInBounds_toArray, List.set_cons_succ, List.set_cons_zero]
      refine held_pure (v := ?_) rfl rfl (by simp [Region.wanted, yielded]) hS ?_ ?_
      rotate_left
      · intro w hw; go_simp; try with_reducible rfl
      try simp only [Act.put, List.setIfInBounds_toArray, List.set_cons_succ, List.set_cons_zero]
      refine held_pure (v := ?_) rfl rfl (by simp [Region.wanted, yielded]) hS ?_ ?_
      rotate_left
      · intro w hw; go_simp; try with_reducible rfl
      try simp only [Act.put, List.setIfInBounds_toArray, List.set_cons_succ, List.set_cons_zero]
      refine held_pure (v := ?_) rfl rfl (by simp [Region.wanted, yielded]) hS ?_ ?_
      rotate_left
      · intro w hw; go_simp; try with_reducible rfl
      try simp only [Act.put, List.setIfInBounds_toArray, List.set_cons_succ, List.set_cons_zero]
      refine held_pure (v := ?_) rfl rfl (by simp [Region.wanted, yielded]) hS ?_ ?_
      rotate_left
      · intro w hw; have c0 := HL.out w hw; go_simp; try with_reducible rfl
      try simp only [Act.put, List.setIfInBounds_toArray, List.set_cons_succ, List.set_cons_zero]
      refine held_pure (v := ?_) rfl rfl (by simp [Region.wanted, yielded]) hS ?_ ?_
      rotate_left
      · intro w hw; go_simp; try with_reducible rfl
      try simp only [Act.put, List.setIfInBounds_toArray, List.set_cons_succ, List.set_cons_zero]
      refine held_pure (v := ?_) rfl rfl (by simp [Region.wanted, yielded]) hS ?_ ?_
      rotate_left
      · intro w hw; go_simp; try with_reducible rfl
      try simp only [Act.put, List.setIfInBounds_toArray, List.set_cons_succ, List.set_cons_zero]
      have hm1 : 0 ≤ min (s.size : Int) 200 := by omega
      have hm2 : min (s.size : Int) 200 ≤ (s.size : Int) := by omega
      refine held_pure (v := ?_) rfl rfl (by simp [Region.wanted, yielded]) hS ?_ ?_
      rotate_left
      · intro w hw; go_simp; try with_reducible rfl
      try simp only [Act.put, List.setIfInBounds_toArray, List.set_cons_succ, List.set_cons_zero]
      rw [cutT_eq]
      refine held_eff rfl fun K hK => ?_
      go_simp
      refine held_go hK (by exact hS.alloc hbase _) fun hS => ?_
      clear hK K
      try simp only [Act.put, List.setIfInBounds_toArray, List.set_cons_succ, List.set_cons_zero]
      refine held_eff1 rfl (by simp [Region.wanted, yielded]) fun K hK => ?_
      refine wp_append_any _ (.tmp 15) (.tmp 27) 22 rfl w.heap.size 9 i0 (.string ⟨#[]⟩) 1 16 Try.underlying22 hi0 hz0 hz1 hz2 rfl (by decide) A1 k c1 _ rfl ((hown.alloc _).drew) _ 1 1 [.string (cutT s)] rfl (reads_new _ _ _).drew (txs_one [cutT s]) hs1 hs2 (by simp; omega) ?_
      intro A2 c2 w2 hown2 hb2 hg2 hc2 hm2
      rw [show [Value.string (cutT s)] = txs [cutT s] from rfl, ← txs_append, ← hnx.out] at hown2
      have hB2 := hS.trans hb2
      refine held_go hK (by exact hB2) fun hS => ?_
      clear hK K
      try simp only [Act.put, List.setIfInBounds_toArray, List.set_cons_succ, List.set_cons_zero]
      refine held_pure (v := ?_) rfl rfl (by simp [Region.wanted, yielded]) hS ?_ ?_
      rotate_left
      · intro w hw; go_simp; try with_reducible rfl
      try simp only [Act.put, List.setIfInBounds_toArray, List.set_cons_succ, List.set_cons_zero]
      refine held_end ?_
      go_wp2
      go_roundw
      case rel => exact ⟨k + 1, A2, c2, by omega, by go_num, rfl, hown2, hB2⟩
      case measure => simp [intOf]; omega
    · have hke : k = (cutTs l).length := by omega
      subst hke
      rw [List.take_of_length_le (Nat.le_refl _)] at hown
      obtain ⟨A', c', hv, h1, h2⟩ := own_shape hown
      injection hv with hA hn hc'
      subst hA hc'
      have h3 := Hcl.out
      have h4 := Hlen.out
      have hor : n ≤ (cutTs l).length ∨ (cutTs l).length = 60 := by omega
      clear h3 h4
      rcases hor with h | h
      · go_wp2
        go_ret
        exact ⟨A1, c1, rfl, h1, h2, hown, hB⟩
      · have H := Lib.hid h
        have h60 : 60 ≤ (cutTs l).length := by omega
        clear h
        go_wp2
        all_goals
          go_ret
          exact ⟨A1, c1, rfl, h1, h2, hown, hB⟩
end Go.Proofs.Ytckaohkhknoocaa
