/- Layer 15: Join of whole numbers, plainly. -/
import Derived.Test.YtckaohkhknoocaaDictSplit2
set_option linter.unusedVariables false
set_option linter.unusedSimpArgs false
namespace Go.Proofs.Ytckaohkhknoocaa
open Go.RowKit

theorem splitL_mem (l : List ByteArray) (k : Nat) : k ≤ l.length → (∀ s, s ∈ (splitL (l.take k)).1 ↔ s ∈ l.take k) ∧ ((splitL (l.take k)).1.length = k ↔ (l.take k).Nodup) := by
  induction k with
  | zero => intro _; simp [splitL]
  | succ k ih =>
    intro hk
    obtain ⟨h1, h2⟩ := ih (by omega)
    have hx := List.getElem?_eq_getElem (show k < l.length by omega)
    have hle := (splitL_len (l.take k)).1
    rw [List.length_take, Nat.min_eq_left (by omega)] at hle
    rw [splitL_take l k _ hx, List.take_add_one, hx]
    generalize l[k] = s at hx
    simp only [Option.toList_some]
    generalize l.take k = t at h1 h2 hle ⊢
    rcases hp : placeL (splitL t).1 s with _ | j
    · have hs : splitStep (splitL t) s = ((splitL t).1 ++ [s], (splitL t).2 ++ [(splitL t).1.length]) := by unfold splitStep; simp only [hp]
      have hno := (placeL_none _ s).1 hp
      rw [h1] at hno
      rw [hs]
      refine ⟨fun r => by simp [h1], ?_⟩
      rw [List.length_append, List.nodup_append]
      simp only [List.length_cons, List.length_nil]
      constructor
      · intro h
        refine ⟨h2.1 (by omega), by simp, fun a ha b hb => ?_⟩
        rw [List.mem_singleton] at hb
        subst hb
        exact fun e => hno (e ▸ ha)
      · intro h
        have := h2.2 h.1
        omega
    · have hs : splitStep (splitL t) s = ((splitL t).1, (splitL t).2 ++ [j]) := by unfold splitStep; simp only [hp]
      have hin : s ∈ t := by
        rw [← h1]
        exact List.mem_of_getElem? (placeL_some _ _ _ hp)
      rw [hs]
      refine ⟨fun r => ?_, ?_⟩
      · simp only [List.mem_append, List.mem_singleton, h1]
        exact ⟨fun h => .inl h, fun h => h.elim id fun e => e ▸ hin⟩
      · constructor
        · intro h
          simp only at h
          omega
        · intro h
          rw [List.nodup_append] at h
          exact absurd rfl (h.2.2 s hin s (by simp))
theorem splitL_nodup (d : List ByteArray) : (splitL d).1.length = d.length ↔ d.Nodup := by
  have := (splitL_mem d d.length (Nat.le_refl _)).2
  rwa [List.take_length] at this
/-- What Join hands back, of all whole numbers. -/
def joinI (d : List ByteArray) (xs : List Int) : Option (List ByteArray) := if ∀ x ∈ xs, 0 ≤ x then joinN d (xs.map Int.toNat) else none
theorem joinI_nat (d : List ByteArray) (ns : List Nat) : joinI d (ns.map Int.ofNat) = joinN d ns := by
  unfold joinI
  rw [if_pos, List.map_map]
  · congr 1
    conv => rhs; rw [← List.map_id ns]
    exact List.map_congr_left fun n _ => rfl
  · intro x hx
    obtain ⟨n, _, rfl⟩ := List.mem_map.1 hx
    exact Int.natCast_nonneg n
theorem xs_split (xs : List Int) (k : Nat) (x : Int) (hx : xs[k]? = some x) : xs = xs.take k ++ x :: xs.drop (k + 1) := by
  obtain ⟨hlt, rfl⟩ := List.getElem?_eq_some_iff.1 hx
  rw [List.getElem_cons_drop, List.take_append_drop]
theorem joinI_neg (d : List ByteArray) (xs : List Int) (k : Nat) (x : Int) (hx : xs[k]? = some x) (h : x < 0) : joinI d xs = none := by
  unfold joinI
  rw [if_neg]
  intro h2
  have := h2 x (List.mem_of_getElem? hx)
  omega
theorem joinI_stop (d : List ByteArray) (xs : List Int) (ns : List Nat) (k n u : Nat) (hp : xs.take k = ns.map Int.ofNat) (hx : xs[k]? = some (n : Int)) (h : usedL 0 ns = some u) (hn : u < n ∨ d.length ≤ n) : joinI d xs = none := by
  unfold joinI
  split
  · rw [xs_split xs k _ hx, hp, List.map_append, List.map_map, List.map_cons, Int.toNat_natCast]
    have : ns.map (Int.toNat ∘ Int.ofNat) = ns := by
      conv => rhs; rw [← List.map_id ns]
      exact List.map_congr_left fun n _ => rfl
    rw [this]
    exact joinN_stop d ns _ n u h hn
  · rfl
theorem joinI_far (d : List ByteArray) (xs : List Int) (k n : Nat) (hx : xs[k]? = some (n : Int)) (hn : d.length ≤ n) : joinI d xs = none := by
  unfold joinI
  split
  · unfold joinN
    rw [if_neg]
    rintro ⟨h1, -⟩
    have := h1 n (List.mem_map.2 ⟨_, List.mem_of_getElem? hx, by simp⟩)
    omega
  · rfl
theorem take_nat (xs : List Int) (ns : List Nat) (k n : Nat) (hp : xs.take k = ns.map Int.ofNat) (hx : xs[k]? = some (n : Int)) : xs.take (k + 1) = (ns ++ [n]).map Int.ofNat := by
  rw [List.take_add_one, hx, hp, List.map_append]
  rfl
theorem usedL_snoc (ns : List Nat) (n u : Nat) (h : usedL 0 ns = some u) (hn : n ≤ u) : usedL 0 (ns ++ [n]) = some (if n = u then u + 1 else u) := by
  rw [usedL_append _ _ _ _ h, usedL, if_neg (by omega), usedL]
theorem outs_snoc (d : List ByteArray) (ns : List Nat) (n : Nat) (s : ByteArray) (h : d[n]? = some s) : (ns ++ [n]).filterMap (d[·]?) = ns.filterMap (d[·]?) ++ [s] := by
  rw [List.filterMap_append]
  simp [List.filterMap_cons, h]
theorem lt_snoc (d : List ByteArray) (ns : List Nat) (n : Nat) (h : ∀ m ∈ ns, m < d.length) (hn : n < d.length) : ∀ m ∈ ns ++ [n], m < d.length := by
  intro m hm
  rcases List.mem_append.1 hm with hm | hm
  · exact h m hm
  · rw [List.mem_singleton] at hm; omega
/-- A book, so many of whose texts are used. -/
def Joined (r : Option (List ByteArray)) (w : World) (e : Ending) (w' : World) : Prop :=
  ∃ (A : Option Addr) (c : Nat), e = .returned (.tuple #[.slice A (r.getD []).length c, .int .i64 (if r.isSome then 0 else 150)]) ∧ (r.getD []).length ≤ c ∧ c ≤ maxLen ∧
    w'.ownsRow w.heap.size 9 1 (.slice A (r.getD []).length c) (r.getD []).length (txs (r.getD [])) ∧ Below w.heap.size w w'
theorem joined_none (w w' : World) (h : Below w.heap.size w w') : Joined none w (.returned (.tuple #[.slice none 0 0, .int .i64 150])) w' :=
  ⟨none, 0, rfl, Nat.le_refl _, by simp [maxLen], World.ownsRow_nil _ _ _ _, h⟩
theorem own_far {w : World} {base size n g : Nat} {e t : TypeId} {v : Value} {xs : List Value} {cs : Array Value} (h : w.ownsRow base e size v n xs) (hb : Blk w g t cs) (hne : e ≠ t) (i : Nat) (u : Value) : (w.setCell ⟨g, i, none⟩ u).ownsRow base e size v n xs := by
  rcases h.2 with ⟨rfl, h0⟩ | ⟨g2, cap, cur, rfl, h1, h2, h3⟩
  · exact ⟨h.1, .inl ⟨rfl, h0⟩⟩
  · refine ⟨h.1, .inr ⟨g2, cap, cur, rfl, h1, ?_, h3⟩⟩
    have hg : g2 ≠ g := by
      rintro rfl
      unfold Blk at hb
      rw [h2] at hb
      injection hb with hb
      injection hb with _ h4
      exact hne h4
    exact (Below.heap_setCell w ⟨g, i, none⟩ u g2 hg).trans h2
theorem Blk.apart {w w' : World} {base size n g : Nat} {e t : TypeId} {v : Value} {xs : List Value} {cs : Array Value} (hb : Blk w g t cs) (h : w.ownsRow base e size v n xs) (hne : e ≠ t) (hg : w.grownBy w' v.ownBlock) : Blk w' g t cs := by
  refine (hg.block g hb.lt ?_).trans hb
  rcases h.2 with ⟨rfl, h0⟩ | ⟨g2, cap, cur, rfl, h1, h2, h3⟩
  · simp [Value.ownBlock]
  · simp only [Value.ownBlock, ne_eq, Option.some.injEq]
    rintro rfl
    unfold Blk at hb
    rw [h2] at hb
    injection hb with hb
    injection hb with _ h4
    exact hne h4
theorem MapS.blk {P : Program} {k e : TypeId} {w : World} {g n m g2 : Nat} {f : ByteArray → Option Int} (h : MapS P k e w g n m f) {t : TypeId} {cs : Array Value} (hb : Blk w g2 t cs) : g ≠ g2 := by
  rintro rfl
  obtain ⟨D, ⟨es, clock, h1, -⟩, -⟩ := h
  unfold Blk at hb
  rw [h1] at hb
  injection hb with hb
  cases hb
end Go.Proofs.Ytckaohkhknoocaa
