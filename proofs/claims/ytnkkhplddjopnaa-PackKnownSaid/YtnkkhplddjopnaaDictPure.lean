/- Layer 15 (dict), plainly: a list's dictionary and its numbers; the numbers' own law. No program in sight. -/
import Derived.Test.YtnkkhplddjopnaaMem
set_option linter.unusedVariables false
set_option linter.unusedSectionVars false
set_option linter.unusedSimpArgs false
namespace Go.Proofs.Ytnkkhplddjopnaa
section
variable {α : Type} [DecidableEq α]
/-- The first place of a text. -/
def placeL : List α → α → Option Nat
  | [], _ => none
  | x :: r, s => if x = s then some 0 else (placeL r s).map (· + 1)
theorem placeL_none : ∀ (d : List α) (s : α), placeL d s = none ↔ s ∉ d
  | [], s => by simp [placeL]
  | x :: r, s => by
    unfold placeL
    split
    · rename_i h; subst h; simp
    · rename_i h
      rw [Option.map_eq_none_iff, placeL_none r s, List.mem_cons, not_or]
      exact ⟨fun h2 => ⟨fun e => h e.symm, h2⟩, fun h2 => h2.2⟩
theorem placeL_some : ∀ (d : List α) (s : α) (k : Nat), placeL d s = some k → d[k]? = some s
  | x :: r, s, k, h => by
    unfold placeL at h
    split at h
    · rename_i e
      obtain rfl := Option.some.inj h
      simp [e]
    · obtain ⟨j, hj, rfl⟩ := Option.map_eq_some_iff.1 h
      simpa using placeL_some r s j hj
theorem placeL_nodup : ∀ (d : List α) (s : α) (k : Nat), d.Nodup → d[k]? = some s → placeL d s = some k
  | x :: r, s, 0, hn, h => by
    obtain rfl : x = s := by simpa using h
    simp [placeL]
  | x :: r, s, k + 1, hn, h => by
    have h' : r[k]? = some s := by simpa using h
    have hm : s ∈ r := List.mem_of_getElem? h'
    have hx : x ≠ s := fun e => (List.nodup_cons.1 hn).1 (e ▸ hm)
    simp [placeL, hx, placeL_nodup r s k (List.nodup_cons.1 hn).2 h']
/-- One text more. -/
def splitStep (st : List α × List Nat) (s : α) : List α × List Nat :=
  match placeL st.1 s with
  | some k => (st.1, st.2 ++ [k])
  | none => (st.1 ++ [s], st.2 ++ [st.1.length])
def splitL (l : List α) : List α × List Nat := l.foldl splitStep ([], [])
/-- Numbers in the order of first use: how many are used behind them. -/
def usedL : Nat → List Nat → Option Nat
  | u, [] => some u
  | u, n :: r => if u < n then none else usedL (if n = u then u + 1 else u) r
theorem splitL_snoc (l : List α) (s : α) : splitL (l ++ [s]) = splitStep (splitL l) s := by simp [splitL, List.foldl_append]
theorem split_of_used (d : List α) (hd : d.Nodup) : ∀ (ns : List Nat) (u v : Nat) (acc : List Nat) (l : List α), u ≤ d.length → ns.map (d[·]?) = l.map some → usedL u ns = some v →
    v ≤ d.length ∧ l.foldl splitStep (d.take u, acc) = (d.take v, acc ++ ns)
  | [], u, v, acc, l, hu, hl, h => by
    obtain rfl : l = [] := by simpa using hl.symm
    obtain rfl : u = v := by simpa [usedL] using h
    exact ⟨hu, by simp⟩
  | n :: r, u, v, acc, [], hu, hl, h => by simp at hl
  | n :: r, u, v, acc, s :: l, hu, hl, h => by
    simp only [List.map_cons, List.cons.injEq] at hl
    obtain ⟨h1, h2⟩ := hl
    unfold usedL at h
    split at h
    · cases h
    · rename_i hnu
      have hlt : n < d.length := (List.getElem?_eq_some_iff.1 h1).1
      rw [List.foldl_cons]
      by_cases e : n = u
      · subst e
        rw [if_pos rfl] at h
        have hno : placeL (d.take n) s = none := by
          rw [placeL_none]
          intro hm
          obtain ⟨j, hj⟩ := List.getElem?_of_mem hm
          rw [List.getElem?_take] at hj
          split at hj
          · rename_i hjn
            have a := placeL_nodup d s j hd hj
            have b := placeL_nodup d s n hd h1
            rw [a] at b
            have := Option.some.inj b
            omega
          · cases hj
        have hs : splitStep (d.take n, acc) s = (d.take (n + 1), acc ++ [n]) := by
          unfold splitStep
          simp only [hno]
          rw [List.length_take, Nat.min_eq_left hu, List.take_add_one, h1]
          rfl
        rw [hs]
        obtain ⟨hv, hr⟩ := split_of_used d hd r (n + 1) v (acc ++ [n]) l hlt h2 h
        exact ⟨hv, by rw [hr]; simp⟩
      · rw [if_neg e] at h
        have hyes : placeL (d.take u) s = some n := placeL_nodup _ s n (hd.sublist (List.take_sublist _ _)) (by rw [List.getElem?_take, if_pos (by omega), h1])
        have hs : splitStep (d.take u, acc) s = (d.take u, acc ++ [n]) := by
          unfold splitStep
          simp only [hyes]
        rw [hs]
        obtain ⟨hv, hr⟩ := split_of_used d hd r u v (acc ++ [n]) l hu h2 h
        exact ⟨hv, by rw [hr]; simp⟩
theorem used_of_split : ∀ (l : List α) (d0 : List α) (acc : List Nat), d0.Nodup →
    ∃ (d : List α) (ns : List Nat), l.foldl splitStep (d0, acc) = (d, acc ++ ns) ∧ d0 <+: d ∧ d.Nodup ∧ usedL d0.length ns = some d.length ∧ ns.map (d[·]?) = l.map some
  | [], d0, acc, h => ⟨d0, [], by simp, List.prefix_refl _, h, rfl, rfl⟩
  | s :: l, d0, acc, h => by
    rw [List.foldl_cons]
    rcases hp : placeL d0 s with _ | k
    · have hs : splitStep (d0, acc) s = (d0 ++ [s], acc ++ [d0.length]) := by unfold splitStep; simp only [hp]
      have hno := (placeL_none d0 s).1 hp
      have hnd : (d0 ++ [s]).Nodup := by
        rw [List.nodup_append]
        exact ⟨h, by simp, fun a ha b hb => by rw [List.mem_singleton] at hb; subst hb; exact fun e => hno (e ▸ ha)⟩
      obtain ⟨d, ns, e1, e2, e3, e4, e5⟩ := used_of_split l (d0 ++ [s]) (acc ++ [d0.length]) hnd
      refine ⟨d, d0.length :: ns, by rw [hs, e1]; simp, (List.prefix_append _ _).trans e2, e3, ?_, ?_⟩
      · unfold usedL
        rw [if_neg (by omega), if_pos rfl]
        simpa using e4
      · rw [List.map_cons, List.map_cons, e5]
        congr 1
        obtain ⟨t, rfl⟩ := e2
        simp
    · have hs : splitStep (d0, acc) s = (d0, acc ++ [k]) := by unfold splitStep; simp only [hp]
      have hk := placeL_some d0 s k hp
      have hlt : k < d0.length := (List.getElem?_eq_some_iff.1 hk).1
      obtain ⟨d, ns, e1, e2, e3, e4, e5⟩ := used_of_split l d0 (acc ++ [k]) h
      refine ⟨d, k :: ns, by rw [hs, e1]; simp, e2, e3, ?_, ?_⟩
      · unfold usedL
        rw [if_neg (by omega), if_neg (by omega)]
        exact e4
      · rw [List.map_cons, List.map_cons, e5]
        congr 1
        obtain ⟨t, rfl⟩ := e2
        rw [List.getElem?_append_left hlt, hk]
theorem usedL_append : ∀ (p r : List Nat) (a u : Nat), usedL a p = some u → usedL a (p ++ r) = usedL u r
  | [], r, a, u, h => by
    obtain rfl : a = u := by simpa [usedL] using h
    rfl
  | n :: p, r, a, u, h => by
    rw [List.cons_append, usedL]
    rw [usedL] at h
    split at h
    · cases h
    · rename_i hn
      rw [if_neg hn]
      exact usedL_append p r _ u h
theorem splitL_used (l : List α) : (splitL l).1.Nodup ∧ usedL 0 (splitL l).2 = some (splitL l).1.length ∧ (splitL l).2.map ((splitL l).1[·]?) = l.map some := by
  obtain ⟨d, ns, e1, e2, e3, e4, e5⟩ := used_of_split l [] [] List.nodup_nil
  unfold splitL
  rw [e1]
  exact ⟨e3, e4, e5⟩
/-- What Join hands back, of numbers that are not below 0. -/
def joinN (d : List α) (ns : List Nat) : Option (List α) :=
  if (∀ n ∈ ns, n < d.length) ∧ splitL (ns.filterMap (d[·]?)) = (d, ns) then some (ns.filterMap (d[·]?)) else none
theorem joinN_stop (d : List α) (p r : List Nat) (n u : Nat) (h : usedL 0 p = some u) (hn : u < n ∨ d.length ≤ n) : joinN d (p ++ n :: r) = none := by
  unfold joinN
  rw [if_neg]
  rintro ⟨h1, h2⟩
  have hlt := h1 n (by simp)
  obtain ⟨-, h3, -⟩ := splitL_used ((p ++ n :: r).filterMap (d[·]?))
  rw [h2] at h3
  rw [usedL_append p _ 0 u h] at h3
  unfold usedL at h3
  rw [if_pos (by omega)] at h3
  cases h3
theorem map_some_of (d : List α) : ∀ (ns : List Nat), (∀ n ∈ ns, n < d.length) → ns.map (d[·]?) = (ns.filterMap (d[·]?)).map some
  | [], _ => rfl
  | n :: r, h => by
    have hn := List.getElem?_eq_getElem (h n (by simp))
    rw [List.map_cons, List.filterMap_cons, hn]
    simp only [List.map_cons]
    rw [map_some_of d r (fun m hm => h m (by simp [hm]))]
theorem joinN_end (d : List α) (ns : List Nat) (u : Nat) (h : usedL 0 ns = some u) (hr : ∀ n ∈ ns, n < d.length) :
    joinN d ns = if u = d.length ∧ d.Nodup then some (ns.filterMap (d[·]?)) else none := by
  unfold joinN
  by_cases hc : u = d.length ∧ d.Nodup
  · rw [if_pos hc, if_pos]
    refine ⟨hr, ?_⟩
    obtain ⟨h1, h2⟩ := split_of_used d hc.2 ns 0 u [] (ns.filterMap (d[·]?)) (Nat.zero_le _) (map_some_of d ns hr) h
    unfold splitL
    rw [List.take_zero] at h2
    rw [h2, hc.1, List.take_length]
    rfl
  · rw [if_neg hc, if_neg]
    rintro ⟨-, h2⟩
    obtain ⟨h3, h4, -⟩ := splitL_used (ns.filterMap (d[·]?))
    rw [h2] at h3 h4
    rw [h] at h4
    exact hc ⟨Option.some.inj h4, h3⟩
/-- What is split is joined as it was. -/
theorem join_split (l : List α) : joinN (splitL l).1 (splitL l).2 = some l := by
  obtain ⟨h1, h2, h3⟩ := splitL_used l
  have hr : ∀ n ∈ (splitL l).2, n < (splitL l).1.length := by
    intro n hn
    have : (splitL l).1[n]? ∈ l.map some := by rw [← h3]; exact List.mem_map_of_mem hn
    obtain ⟨s, -, e⟩ := List.mem_map.1 this
    exact (List.getElem?_eq_some_iff.1 e.symm).1
  rw [joinN_end _ _ _ h2 hr, if_pos ⟨rfl, h1⟩]
  have := map_some_of _ _ hr
  rw [h3] at this
  rw [List.map_inj_right (fun _ _ e => Option.some.inj e)] at this
  rw [← this]
/-- What can be joined is split to just those. -/
theorem split_join (d : List α) (ns : List Nat) (l : List α) (h : joinN d ns = some l) : splitL l = (d, ns) := by
  unfold joinN at h
  split at h
  · rename_i hc
    obtain rfl := Option.some.inj h
    exact hc.2
  · cases h
end
end Go.Proofs.Ytnkkhplddjopnaa
