/- Part 19 of the walks, merged: each text under its own heading. Conditions: none of its own; each lemma states what it asks. -/
import Derived.Test.YtegcbjkikhheiaaGreatDoorGm18
set_option linter.unusedVariables false
set_option linter.unusedSimpArgs false
namespace Go.Proofs.YtegcbjkikhheiaaGreatDoor
open Go.RowKit
theorem item_info : (Tryz.prog.info? 56).map (fun i => (i.zero, i.size, i.bytes)) = some (some (.agg #[.slice none 0 0, .int .i64 0]), 2, 32) := by kernel_rfl
def RowsOwn (w : World) (base : Nat) (hs : List Hd) (l : List It) : Prop := hs.length = l.length ∧ ∀ (j : Nat) h it, hs[j]? = some h → l[j]? = some it → w.ownsRow base 53 3 (.slice h.1 h.2.1 h.2.2) h.2.1 (cls it.1)
def ItemsOwn (w : World) (base : Nat) (A : Option Addr) (n c : Nat) (l : List It) : Prop := ∃ hs, w.ownsRow base 56 2 (.slice A n c) n (its hs l) ∧ RowsOwn w base hs l
section
variable {w w' : World} {base n c : Nat} {A : Option Addr} {hs : List Hd} {l : List It}
theorem RowsOwn.nil : RowsOwn w base [] [] := ⟨rfl, fun j g it h => by simp at h⟩
theorem RowsOwn.below (h : RowsOwn w base hs l) (hb : Below w.heap.size w w') : RowsOwn w' base hs l := ⟨h.1, fun j g it h1 h2 => own_below (h.2 j g it h1 h2) hb⟩
theorem RowsOwn.apart (h : RowsOwn w base hs l) {base2 n2 size2 : Nat} {e2 : TypeId} {v2 : Value} {ys : List Value} (h2 : w.ownsRow base2 e2 size2 v2 n2 ys) (hne : 53 ≠ e2) (hg : w.grownBy w' v2.ownBlock) : RowsOwn w' base hs l :=
  ⟨h.1, fun j g it h1 h3 => own_apart (h.2 j g it h1 h3) h2 hne hg⟩
theorem RowsOwn.far (h : RowsOwn w base hs l) {g : Nat} {t : TypeId} {cs : Array Value} (hb : Blk w g t cs) (hne : 53 ≠ t) (i : Nat) (u : Value) : RowsOwn (w.setCell ⟨g, i, none⟩ u) base hs l :=
  ⟨h.1, fun j k it h1 h3 => own_far (h.2 j k it h1 h3) hb hne i u⟩
theorem RowsOwn.snoc {h : Hd} {it : It} (h0 : RowsOwn w base hs l) (h1 : w.ownsRow base 53 3 (.slice h.1 h.2.1 h.2.2) h.2.1 (cls it.1)) : RowsOwn w base (hs ++ [h]) (l ++ [it]) := by
  refine ⟨by simp [h0.1], fun j g jt g1 g2 => ?_⟩
  rcases Nat.lt_or_ge j hs.length with hj | hj
  · rw [List.getElem?_append_left hj] at g1
    rw [List.getElem?_append_left (by rw [← h0.1]; exact hj)] at g2
    exact h0.2 j g jt g1 g2
  · rw [List.getElem?_append_right hj] at g1
    rw [List.getElem?_append_right (by rw [← h0.1]; exact hj), ← h0.1] at g2
    have h4 : j - hs.length = 0 := by have := (List.getElem?_eq_some_iff.1 g1).1; simp at this; omega
    rw [h4] at g1 g2
    simp only [List.getElem?_cons_zero, Option.some.injEq] at g1 g2
    subst g1 g2
    exact h1
theorem own_caps2 {base size : Nat} {e : TypeId} {xs : List Value} (h : w.ownsRow base e size (.slice A n c) n xs) : n ≤ c ∧ c ≤ maxLen := by
  obtain ⟨A', c', e, h1, h2⟩ := own_shape h
  cases e
  exact ⟨h1, h2⟩
theorem RowsOwn.at_ (h : RowsOwn w base hs l) : RowsAt w w.heap.size hs l := ⟨h.1, fun j g it h1 h2 => ⟨Reads.of_own (h.2 j g it h1 h2), own_caps2 (h.2 j g it h1 h2)⟩⟩
theorem ItemsOwn.at_ (h : ItemsOwn w base A n c l) : ItemsAt w w.heap.size A n l := by
  obtain ⟨hs, h1, h2⟩ := h
  exact ⟨hs, Reads.of_own h1, h2.at_⟩
theorem ItemsOwn.caps (h : ItemsOwn w base A n c l) : n ≤ c ∧ c ≤ maxLen := by
  obtain ⟨hs, h1, -⟩ := h
  exact own_caps2 h1
theorem ItemsOwn.len (h : ItemsOwn w base A n c l) : l.length = n := h.at_.len
theorem ItemsOwn.nil : ItemsOwn w base none 0 0 [] := ⟨[], World.ownsRow_nil _ _ _ _, RowsOwn.nil⟩
theorem ItemsOwn.below (h : ItemsOwn w base A n c l) (hb : Below w.heap.size w w') : ItemsOwn w' base A n c l := by
  obtain ⟨hs, h1, h2⟩ := h
  exact ⟨hs, own_below h1 hb, h2.below hb⟩
theorem ItemsOwn.al (h : ItemsOwn w base A n c l) (o : Obj) : ItemsOwn (w.alloc o) base A n c l := h.below ((Below.refl _ _).alloc (Nat.le_refl _) o)
theorem ItemsOwn.drew (h : ItemsOwn w base A n c l) : ItemsOwn w.drew base A n c l := h.below (Below.refl _ _).drew
theorem ItemsOwn.far (h : ItemsOwn w base A n c l) {g : Nat} {t : TypeId} {cs : Array Value} (hb : Blk w g t cs) (h1 : 53 ≠ t) (h2 : 56 ≠ t) (i : Nat) (u : Value) : ItemsOwn (w.setCell ⟨g, i, none⟩ u) base A n c l := by
  obtain ⟨hs, g1, g2⟩ := h
  exact ⟨hs, own_far g1 hb h2 i u, g2.far hb h1 i u⟩
theorem ItemsOwn.app (h : ItemsOwn w base A n c l) {hd : Hd} {it : It} (hr : w.ownsRow base 53 3 (.slice hd.1 hd.2.1 hd.2.2) hd.2.1 (cls it.1)) (hg : w.grownBy w' (Value.slice A n c).ownBlock) {A2 : Option Addr} {n2 c2 : Nat}
    (ho : ∀ hs : List Hd, w.ownsRow base 56 2 (.slice A n c) n (its hs l) → w'.ownsRow base 56 2 (.slice A2 n2 c2) n2 (its hs l ++ itV hd it)) : ItemsOwn w' base A2 n2 c2 (l ++ [it]) := by
  obtain ⟨hs, h1, h2⟩ := h
  have h3 := ho hs h1
  rw [← its_snoc h2.1] at h3
  exact ⟨hs ++ [hd], h3, (h2.apart h1 (by decide) hg).snoc (own_apart hr h1 (by decide) hg)⟩
theorem items_app {hd : Hd} {it : It} {A2 : Option Addr} {n2 c2 : Nat} (h1 : w.ownsRow base 56 2 (.slice A n c) n (its hs l)) (h2 : RowsOwn w base hs l) (hr : w.ownsRow base 53 3 (.slice hd.1 hd.2.1 hd.2.2) hd.2.1 (cls it.1)) (hg : w.grownBy w' (Value.slice A n c).ownBlock)
    (h3 : w'.ownsRow base 56 2 (.slice A2 n2 c2) n2 (its hs l ++ itV hd it)) : ItemsOwn w' base A2 n2 c2 (l ++ [it]) := by
  rw [← its_snoc h2.1] at h3
  exact ⟨hs ++ [hd], h3, (h2.apart h1 (by decide) hg).snoc (own_apart hr h1 (by decide) hg)⟩
theorem ItemsOwn.row (h : ItemsOwn w base A n c l) {B n2 : Nat} {v2 : Value} {ys : List Value} (hB : ∀ hs, w.ownsRow base 56 2 (.slice A n c) n (its hs l) → RowsOwn w base hs l → ∀ (j : Nat) (q : Hd), hs[j]? = some q → ∀ k, (Value.slice q.1 q.2.1 q.2.2).ownBlock = some k → k < B)
    (h2 : w.ownsRow B 53 3 v2 n2 ys) (hg : w.grownBy w' v2.ownBlock) : ItemsOwn w' base A n c l := by
  obtain ⟨hs, g1, g2⟩ := h
  refine ⟨hs, own_apart g1 h2 (by decide) hg, g2.1, fun j q it h3 h4 => own_sep (g2.2 j q it h3 h4) (hB hs g1 g2 j q h3) h2 hg⟩
end
def ItemsLow (w : World) (base B : Nat) (A : Option Addr) (n c : Nat) (l : List It) : Prop := ∃ hs, w.ownsRow base 56 2 (.slice A n c) n (its hs l) ∧ RowsOwn w base hs l ∧ ∀ (j : Nat) (q : Hd), hs[j]? = some q → ∀ k, (Value.slice q.1 q.2.1 q.2.2).ownBlock = some k → k < B
section
variable {w w' : World} {base B n c : Nat} {A : Option Addr} {l : List It}
theorem ItemsOwn.low (h : ItemsOwn w base A n c l) (hB : w.heap.size ≤ B) : ItemsLow w base B A n c l := by
  obtain ⟨hs, g1, g2⟩ := h
  refine ⟨hs, g1, g2, fun j q hq k hk => ?_⟩
  have hj : j < l.length := by rw [← g2.1]; exact (List.getElem?_eq_some_iff.1 hq).1
  exact Nat.lt_of_lt_of_le ((g2.2 j q _ hq (List.getElem?_eq_getElem hj)).lt k hk).2 hB
theorem ItemsLow.own (h : ItemsLow w base B A n c l) : ItemsOwn w base A n c l := by
  obtain ⟨hs, g1, g2, -⟩ := h
  exact ⟨hs, g1, g2⟩
theorem ItemsLow.below (h : ItemsLow w base B A n c l) (hb : Below w.heap.size w w') : ItemsLow w' base B A n c l := by
  obtain ⟨hs, g1, g2, g3⟩ := h
  exact ⟨hs, own_below g1 hb, g2.below hb, g3⟩
theorem ItemsLow.al (h : ItemsLow w base B A n c l) (o : Obj) : ItemsLow (w.alloc o) base B A n c l := h.below ((Below.refl _ _).alloc (Nat.le_refl _) o)
theorem ItemsLow.drew (h : ItemsLow w base B A n c l) : ItemsLow w.drew base B A n c l := h.below (Below.refl _ _).drew
theorem ItemsLow.far (h : ItemsLow w base B A n c l) {g : Nat} {t : TypeId} {cs : Array Value} (hb : Blk w g t cs) (h1 : 53 ≠ t) (h2 : 56 ≠ t) (i : Nat) (u : Value) : ItemsLow (w.setCell ⟨g, i, none⟩ u) base B A n c l := by
  obtain ⟨hs, g1, g2, g3⟩ := h
  exact ⟨hs, own_far g1 hb h2 i u, g2.far hb h1 i u, g3⟩
theorem ItemsLow.row (h : ItemsLow w base B A n c l) {n2 : Nat} {v2 : Value} {ys : List Value} (h2 : w.ownsRow B 53 3 v2 n2 ys) (hg : w.grownBy w' v2.ownBlock) : ItemsLow w' base B A n c l := by
  obtain ⟨hs, g1, g2, g3⟩ := h
  exact ⟨hs, own_apart g1 h2 (by decide) hg, ⟨g2.1, fun j q it h3 h4 => own_sep (g2.2 j q it h3 h4) (g3 j q h3) h2 hg⟩, g3⟩
end
theorem itV_one (h : Hd) (it : It) : ∀ u ∈ itV h it, u.oneCell' = true := by
  intro u hu
  simp [itV] at hu
  rcases hu with rfl | rfl <;> rfl
theorem reads_item (w : World) (b : Nat) (hb : b = w.heap.size) (h : Hd) (it : It) : Reads (w.alloc (.cells #[.slice h.1 h.2.1 h.2.2, .int .i64 it.2] 56)) (w.alloc (.cells #[.slice h.1 h.2.1 h.2.2, .int .i64 it.2] 56)).heap.size 2 (some ⟨b, 0, none⟩) 1 (itV h it) := by
  subst hb
  have hB := Blk.new w 56 #[.slice h.1 h.2.1 h.2.2, .int .i64 it.2]
  refine ⟨rfl, fun _ => ⟨_, rfl, hB.lt, fun j u hu => ?_⟩⟩
  have hadd : (⟨w.heap.size, 0, none⟩ : Addr).add j = ⟨w.heap.size, j, none⟩ := by unfold Addr.add; split <;> simp_all
  rw [hadd, hB.cell, ← Array.getElem?_toList]
  exact hu
end Go.Proofs.YtegcbjkikhheiaaGreatDoor
namespace Go.Proofs.YtegcbjkikhheiaaGreatDoor
open Go.RowKit
set_option maxRecDepth 100000 in
set_option maxHeartbeats 2000000 in
theorem ceq_any (A B : Option Addr) (n c m d : Nat) (l1 l2 : List Cl) (w : World) (h1 : Reads w w.heap.size 3 A n (cls l1)) (h2 : Reads w w.heap.size 3 B m (cls l2)) (hn : n ≤ maxLen) :
    Calls Tryz.prog 96 #[.slice A n c, .slice B m d] w fun e w' => e = .returned (.bool (decide (l1 = l2))) ∧ Below w.heap.size w w' := by
  have H1 := Lib.hid h1
  have H2 := Lib.hid h2
  have Hl1 := Lib.hid (cls_len h1)
  have Hl2 := Lib.hid (cls_len h2)
  have hn63 : n ≤ 9223372036854775807 := by simp only [maxLen] at hn; omega
  clear h1 h2 hn
  by_cases hnm : n = m
  · subst hnm
    go_enter Tryz.func96, Tryz.ntmps96
    go_wp2
    go_loopw [13] (fun i wr => ∃ j : Nat, j ≤ n ∧ i = .int .i64 (j : Int) ∧ Hid (l1.take j = l2.take j) ∧ Hid (Below w.heap.size w wr)) (fun i _ => n - (intOf i).toNat)
    case atStart => exact ⟨0, Nat.zero_le _, rfl, Lib.hid rfl, Lib.hid (Below.refl _ _)⟩
    case round =>
      obtain ⟨j, hj, rfl, Htk, HB⟩ := hrel
      by_cases hlt : j < n
      · obtain ⟨ad, u, x, s, rfl, hbk, hx, a0, a1, a2⟩ := cls_at (H1.out.below HB.out) hlt
        obtain ⟨ad', u', x', s', rfl, hbk', hx', b0, b1, b2⟩ := cls_at (H2.out.below HB.out) hlt
        have Hx := Lib.hid hx
        have Hx' := Lib.hid hx'
        have HA0 := Lib.hid (show ∀ w', w' = wr.drew → w'.cell? (ad.add (j * 3)) = some (.bool u) from fun w' h => by rw [h]; exact a0)
        have HA1 := Lib.hid (show ∀ w', w' = wr.drew → w'.cell? ⟨(ad.add (j * 3)).block, (ad.add (j * 3)).off + 1, none⟩ = some (.int .i64 x) from fun w' h => by rw [h]; exact a1)
        have HA2 := Lib.hid (show ∀ w', w' = wr.drew → w'.cell? ⟨(ad.add (j * 3)).block, (ad.add (j * 3)).off + 2, none⟩ = some (.string s) from fun w' h => by rw [h]; exact a2)
        have HB0 := Lib.hid (show ∀ w', w' = wr.drew → w'.cell? (ad'.add (j * 3)) = some (.bool u') from fun w' h => by rw [h]; exact b0)
        have HB1 := Lib.hid (show ∀ w', w' = wr.drew → w'.cell? ⟨(ad'.add (j * 3)).block, (ad'.add (j * 3)).off + 1, none⟩ = some (.int .i64 x') from fun w' h => by rw [h]; exact b1)
        have HB2 := Lib.hid (show ∀ w', w' = wr.drew → w'.cell? ⟨(ad'.add (j * 3)).block, (ad'.add (j * 3)).off + 2, none⟩ = some (.string s') from fun w' h => by rw [h]; exact b2)
        clear hx hx' hbk hbk' a0 a1 a2 b0 b1 b2
        by_cases hc : (u, x, s) = (u', x', s')
        · simp only [Prod.mk.injEq] at hc
          obtain ⟨rfl, rfl, rfl⟩ := hc
          have Htk2 := Lib.hid (show l1.take (j + 1) = l2.take (j + 1) by rw [List.take_add_one, List.take_add_one, Hx.out, Hx'.out, Htk.out])
          go_wp2
          have hji : (j : Int) < (n : Int) := by omega
          have hS : wr.drew = wr.drew := rfl
          refine wp_region_keep (fun w' => w' = wr.drew) [(0, false), (1, false), (2, false), (3, false), (4, false), (5, false), (6, false), (7, false), (8, false)] (by kernel_rfl) (by kernel_rfl) (by kernel_rfl) (fun d _ _ _ _ h => by cases d <;> exact h) ?_
          iterate 3
            refine held_pure (v := ?_) rfl rfl (by simp [Region.wanted, yielded]) hS ?_ ?_
            rotate_left
            · intro w hw; go_simp; try with_reducible rfl
            try simp only [Act.put, List.setIfInBounds_toArray, List.set_cons_succ, List.set_cons_zero]
          refine held_pure (v := ?_) rfl rfl (by simp [Region.wanted, yielded]) hS ?_ ?_
          rotate_left
          · intro w hw; have c0 := HA0.out w hw; have c1 := HA1.out w hw; have c2 := HA2.out w hw; clear hw; go_simp; try with_reducible rfl
          try simp only [Act.put, List.setIfInBounds_toArray, List.set_cons_succ, List.set_cons_zero]
          iterate 3
            refine held_pure (v := ?_) rfl rfl (by simp [Region.wanted, yielded]) hS ?_ ?_
            rotate_left
            · intro w hw; go_simp; try with_reducible rfl
            try simp only [Act.put, List.setIfInBounds_toArray, List.set_cons_succ, List.set_cons_zero]
          refine held_pure (v := ?_) rfl rfl (by simp [Region.wanted, yielded]) hS ?_ ?_
          rotate_left
          · intro w hw; have c0 := HB0.out w hw; have c1 := HB1.out w hw; have c2 := HB2.out w hw; clear hw; go_simp; try with_reducible rfl
          try simp only [Act.put, List.setIfInBounds_toArray, List.set_cons_succ, List.set_cons_zero]
          refine held_pure (v := ?_) rfl rfl (by simp [Region.wanted, yielded]) hS ?_ ?_
          rotate_left
          · intro w hw; go_simp; try with_reducible rfl
          try simp only [Act.put, List.setIfInBounds_toArray, List.set_cons_succ, List.set_cons_zero]
          refine held_end ?_
          go_wp2
          go_roundw
          case rel => exact ⟨j + 1, by omega, by go_num, Htk2, Lib.hid HB.out.drew⟩
          case measure => simp [intOf]; omega
        · have Hne := Lib.hid (show decide (l1 = l2) = false from decide_eq_false (fun h => hc (by subst h; exact Option.some.inj (Hx.out.symm.trans Hx'.out))))
          have Hc := Lib.hid hc
          clear hc
          cases u with
          | false =>
            cases u' with
            | false =>
              by_cases hxx : x = x'
              · subst hxx
                have hss : ¬ s.toList = s'.toList := by
                  intro h
                  apply Hc.out
                  have : (s.toList == s'.toList) = true := by rw [h]; simp
                  rw [text_eqb2] at this
                  rw [of_decide_eq_true this]
                go_wp2
                have hji : (j : Int) < (n : Int) := by omega
                have hS : wr.drew = wr.drew := rfl
                refine wp_region_keep (fun w' => w' = wr.drew) [(0, false), (1, false), (2, false), (3, false), (4, false), (5, false), (6, false), (7, false), (8, false)] (by kernel_rfl) (by kernel_rfl) (by kernel_rfl) (fun d _ _ _ _ h => by cases d <;> exact h) ?_
                iterate 3
                  refine held_pure (v := ?_) rfl rfl (by simp [Region.wanted, yielded]) hS ?_ ?_
                  rotate_left
                  · intro w hw; go_simp; try with_reducible rfl
                  try simp only [Act.put, List.setIfInBounds_toArray, List.set_cons_succ, List.set_cons_zero]
                refine held_pure (v := ?_) rfl rfl (by simp [Region.wanted, yielded]) hS ?_ ?_
                rotate_left
                · intro w hw; have c0 := HA0.out w hw; have c1 := HA1.out w hw; have c2 := HA2.out w hw; clear hw; go_simp; try with_reducible rfl
                try simp only [Act.put, List.setIfInBounds_toArray, List.set_cons_succ, List.set_cons_zero]
                iterate 3
                  refine held_pure (v := ?_) rfl rfl (by simp [Region.wanted, yielded]) hS ?_ ?_
                  rotate_left
                  · intro w hw; go_simp; try with_reducible rfl
                  try simp only [Act.put, List.setIfInBounds_toArray, List.set_cons_succ, List.set_cons_zero]
                refine held_pure (v := ?_) rfl rfl (by simp [Region.wanted, yielded]) hS ?_ ?_
                rotate_left
                · intro w hw; have c0 := HB0.out w hw; have c1 := HB1.out w hw; have c2 := HB2.out w hw; clear hw; go_simp; try with_reducible rfl
                try simp only [Act.put, List.setIfInBounds_toArray, List.set_cons_succ, List.set_cons_zero]
                refine held_pure (v := ?_) rfl rfl (by simp [Region.wanted, yielded]) hS ?_ ?_
                rotate_left
                · intro w hw; go_simp; try with_reducible rfl
                try simp only [Act.put, List.setIfInBounds_toArray, List.set_cons_succ, List.set_cons_zero]
                refine held_end ?_
                go_wp2
                go_ret
                rw [Hne.out]
                exact ⟨rfl, HB.out.drew⟩
              · have hxb : (x == x') = false := by simpa using hxx
                go_wp2
                have hji : (j : Int) < (n : Int) := by omega
                have hS : wr.drew = wr.drew := rfl
                refine wp_region_keep (fun w' => w' = wr.drew) [(0, false), (1, false), (2, false), (3, false), (4, false), (5, false), (6, false), (7, false), (8, false)] (by kernel_rfl) (by kernel_rfl) (by kernel_rfl) (fun d _ _ _ _ h => by cases d <;> exact h) ?_
                iterate 3
                  refine held_pure (v := ?_) rfl rfl (by simp [Region.wanted, yielded]) hS ?_ ?_
                  rotate_left
                  · intro w hw; go_simp; try with_reducible rfl
                  try simp only [Act.put, List.setIfInBounds_toArray, List.set_cons_succ, List.set_cons_zero]
                refine held_pure (v := ?_) rfl rfl (by simp [Region.wanted, yielded]) hS ?_ ?_
                rotate_left
                · intro w hw; have c0 := HA0.out w hw; have c1 := HA1.out w hw; have c2 := HA2.out w hw; clear hw; go_simp; try with_reducible rfl
                try simp only [Act.put, List.setIfInBounds_toArray, List.set_cons_succ, List.set_cons_zero]
                iterate 3
                  refine held_pure (v := ?_) rfl rfl (by simp [Region.wanted, yielded]) hS ?_ ?_
                  rotate_left
                  · intro w hw; go_simp; try with_reducible rfl
                  try simp only [Act.put, List.setIfInBounds_toArray, List.set_cons_succ, List.set_cons_zero]
                refine held_pure (v := ?_) rfl rfl (by simp [Region.wanted, yielded]) hS ?_ ?_
                rotate_left
                · intro w hw; have c0 := HB0.out w hw; have c1 := HB1.out w hw; have c2 := HB2.out w hw; clear hw; go_simp; try with_reducible rfl
                try simp only [Act.put, List.setIfInBounds_toArray, List.set_cons_succ, List.set_cons_zero]
                refine held_pure (v := ?_) rfl rfl (by simp [Region.wanted, yielded]) hS ?_ ?_
                rotate_left
                · intro w hw; go_simp; try with_reducible rfl
                try simp only [Act.put, List.setIfInBounds_toArray, List.set_cons_succ, List.set_cons_zero]
                refine held_end ?_
                go_wp2
                go_ret
                rw [Hne.out]
                exact ⟨rfl, HB.out.drew⟩
            | true =>
              go_wp2
              have hji : (j : Int) < (n : Int) := by omega
              have hS : wr.drew = wr.drew := rfl
              refine wp_region_keep (fun w' => w' = wr.drew) [(0, false), (1, false), (2, false), (3, false), (4, false), (5, false), (6, false), (7, false), (8, false)] (by kernel_rfl) (by kernel_rfl) (by kernel_rfl) (fun d _ _ _ _ h => by cases d <;> exact h) ?_
              iterate 3
                refine held_pure (v := ?_) rfl rfl (by simp [Region.wanted, yielded]) hS ?_ ?_
                rotate_left
                · intro w hw; go_simp; try with_reducible rfl
                try simp only [Act.put, List.setIfInBounds_toArray, List.set_cons_succ, List.set_cons_zero]
              refine held_pure (v := ?_) rfl rfl (by simp [Region.wanted, yielded]) hS ?_ ?_
              rotate_left
              · intro w hw; have c0 := HA0.out w hw; have c1 := HA1.out w hw; have c2 := HA2.out w hw; clear hw; go_simp; try with_reducible rfl
              try simp only [Act.put, List.setIfInBounds_toArray, List.set_cons_succ, List.set_cons_zero]
              iterate 3
                refine held_pure (v := ?_) rfl rfl (by simp [Region.wanted, yielded]) hS ?_ ?_
                rotate_left
                · intro w hw; go_simp; try with_reducible rfl
                try simp only [Act.put, List.setIfInBounds_toArray, List.set_cons_succ, List.set_cons_zero]
              refine held_pure (v := ?_) rfl rfl (by simp [Region.wanted, yielded]) hS ?_ ?_
              rotate_left
              · intro w hw; have c0 := HB0.out w hw; have c1 := HB1.out w hw; have c2 := HB2.out w hw; clear hw; go_simp; try with_reducible rfl
              try simp only [Act.put, List.setIfInBounds_toArray, List.set_cons_succ, List.set_cons_zero]
              refine held_pure (v := ?_) rfl rfl (by simp [Region.wanted, yielded]) hS ?_ ?_
              rotate_left
              · intro w hw; go_simp; try with_reducible rfl
              try simp only [Act.put, List.setIfInBounds_toArray, List.set_cons_succ, List.set_cons_zero]
              refine held_end ?_
              go_wp2
              go_ret
              rw [Hne.out]
              exact ⟨rfl, HB.out.drew⟩
          | true =>
            cases u' with
            | false =>
              go_wp2
              have hji : (j : Int) < (n : Int) := by omega
              have hS : wr.drew = wr.drew := rfl
              refine wp_region_keep (fun w' => w' = wr.drew) [(0, false), (1, false), (2, false), (3, false), (4, false), (5, false), (6, false), (7, false), (8, false)] (by kernel_rfl) (by kernel_rfl) (by kernel_rfl) (fun d _ _ _ _ h => by cases d <;> exact h) ?_
              iterate 3
                refine held_pure (v := ?_) rfl rfl (by simp [Region.wanted, yielded]) hS ?_ ?_
                rotate_left
                · intro w hw; go_simp; try with_reducible rfl
                try simp only [Act.put, List.setIfInBounds_toArray, List.set_cons_succ, List.set_cons_zero]
              refine held_pure (v := ?_) rfl rfl (by simp [Region.wanted, yielded]) hS ?_ ?_
              rotate_left
              · intro w hw; have c0 := HA0.out w hw; have c1 := HA1.out w hw; have c2 := HA2.out w hw; clear hw; go_simp; try with_reducible rfl
              try simp only [Act.put, List.setIfInBounds_toArray, List.set_cons_succ, List.set_cons_zero]
              iterate 3
                refine held_pure (v := ?_) rfl rfl (by simp [Region.wanted, yielded]) hS ?_ ?_
                rotate_left
                · intro w hw; go_simp; try with_reducible rfl
                try simp only [Act.put, List.setIfInBounds_toArray, List.set_cons_succ, List.set_cons_zero]
              refine held_pure (v := ?_) rfl rfl (by simp [Region.wanted, yielded]) hS ?_ ?_
              rotate_left
              · intro w hw; have c0 := HB0.out w hw; have c1 := HB1.out w hw; have c2 := HB2.out w hw; clear hw; go_simp; try with_reducible rfl
              try simp only [Act.put, List.setIfInBounds_toArray, List.set_cons_succ, List.set_cons_zero]
              refine held_pure (v := ?_) rfl rfl (by simp [Region.wanted, yielded]) hS ?_ ?_
              rotate_left
              · intro w hw; go_simp; try with_reducible rfl
              try simp only [Act.put, List.setIfInBounds_toArray, List.set_cons_succ, List.set_cons_zero]
              refine held_end ?_
              go_wp2
              go_ret
              rw [Hne.out]
              exact ⟨rfl, HB.out.drew⟩
            | true =>
              by_cases hxx : x = x'
              · subst hxx
                have hss : ¬ s.toList = s'.toList := by
                  intro h
                  apply Hc.out
                  have : (s.toList == s'.toList) = true := by rw [h]; simp
                  rw [text_eqb2] at this
                  rw [of_decide_eq_true this]
                go_wp2
                have hji : (j : Int) < (n : Int) := by omega
                have hS : wr.drew = wr.drew := rfl
                refine wp_region_keep (fun w' => w' = wr.drew) [(0, false), (1, false), (2, false), (3, false), (4, false), (5, false), (6, false), (7, false), (8, false)] (by kernel_rfl) (by kernel_rfl) (by kernel_rfl) (fun d _ _ _ _ h => by cases d <;> exact h) ?_
                iterate 3
                  refine held_pure (v := ?_) rfl rfl (by simp [Region.wanted, yielded]) hS ?_ ?_
                  rotate_left
                  · intro w hw; go_simp; try with_reducible rfl
                  try simp only [Act.put, List.setIfInBounds_toArray, List.set_cons_succ, List.set_cons_zero]
                refine held_pure (v := ?_) rfl rfl (by simp [Region.wanted, yielded]) hS ?_ ?_
                rotate_left
                · intro w hw; have c0 := HA0.out w hw; have c1 := HA1.out w hw; have c2 := HA2.out w hw; clear hw; go_simp; try with_reducible rfl
                try simp only [Act.put, List.setIfInBounds_toArray, List.set_cons_succ, List.set_cons_zero]
                iterate 3
                  refine held_pure (v := ?_) rfl rfl (by simp [Region.wanted, yielded]) hS ?_ ?_
                  rotate_left
                  · intro w hw; go_simp; try with_reducible rfl
                  try simp only [Act.put, List.setIfInBounds_toArray, List.set_cons_succ, List.set_cons_zero]
                refine held_pure (v := ?_) rfl rfl (by simp [Region.wanted, yielded]) hS ?_ ?_
                rotate_left
                · intro w hw; have c0 := HB0.out w hw; have c1 := HB1.out w hw; have c2 := HB2.out w hw; clear hw; go_simp; try with_reducible rfl
                try simp only [Act.put, List.setIfInBounds_toArray, List.set_cons_succ, List.set_cons_zero]
                refine held_pure (v := ?_) rfl rfl (by simp [Region.wanted, yielded]) hS ?_ ?_
                rotate_left
                · intro w hw; go_simp; try with_reducible rfl
                try simp only [Act.put, List.setIfInBounds_toArray, List.set_cons_succ, List.set_cons_zero]
                refine held_end ?_
                go_wp2
                go_ret
                rw [Hne.out]
                exact ⟨rfl, HB.out.drew⟩
              · have hxb : (x == x') = false := by simpa using hxx
                go_wp2
                have hji : (j : Int) < (n : Int) := by omega
                have hS : wr.drew = wr.drew := rfl
                refine wp_region_keep (fun w' => w' = wr.drew) [(0, false), (1, false), (2, false), (3, false), (4, false), (5, false), (6, false), (7, false), (8, false)] (by kernel_rfl) (by kernel_rfl) (by kernel_rfl) (fun d _ _ _ _ h => by cases d <;> exact h) ?_
                iterate 3
                  refine held_pure (v := ?_) rfl rfl (by simp [Region.wanted, yielded]) hS ?_ ?_
                  rotate_left
                  · intro w hw; go_simp; try with_reducible rfl
                  try simp only [Act.put, List.setIfInBounds_toArray, List.set_cons_succ, List.set_cons_zero]
                refine held_pure (v := ?_) rfl rfl (by simp [Region.wanted, yielded]) hS ?_ ?_
                rotate_left
                · intro w hw; have c0 := HA0.out w hw; have c1 := HA1.out w hw; have c2 := HA2.out w hw; clear hw; go_simp; try with_reducible rfl
                try simp only [Act.put, List.setIfInBounds_toArray, List.set_cons_succ, List.set_cons_zero]
                iterate 3
                  refine held_pure (v := ?_) rfl rfl (by simp [Region.wanted, yielded]) hS ?_ ?_
                  rotate_left
                  · intro w hw; go_simp; try with_reducible rfl
                  try simp only [Act.put, List.setIfInBounds_toArray, List.set_cons_succ, List.set_cons_zero]
                refine held_pure (v := ?_) rfl rfl (by simp [Region.wanted, yielded]) hS ?_ ?_
                rotate_left
                · intro w hw; have c0 := HB0.out w hw; have c1 := HB1.out w hw; have c2 := HB2.out w hw; clear hw; go_simp; try with_reducible rfl
                try simp only [Act.put, List.setIfInBounds_toArray, List.set_cons_succ, List.set_cons_zero]
                refine held_pure (v := ?_) rfl rfl (by simp [Region.wanted, yielded]) hS ?_ ?_
                rotate_left
                · intro w hw; go_simp; try with_reducible rfl
                try simp only [Act.put, List.setIfInBounds_toArray, List.set_cons_succ, List.set_cons_zero]
                refine held_end ?_
                go_wp2
                go_ret
                rw [Hne.out]
                exact ⟨rfl, HB.out.drew⟩
      · obtain rfl : j = n := by omega
        have He := Lib.hid (show decide (l1 = l2) = true by
          have := Htk.out
          rw [List.take_of_length_le (by rw [Hl1.out]; exact Nat.le_refl _), List.take_of_length_le (by rw [Hl2.out]; exact Nat.le_refl _)] at this
          exact decide_eq_true this)
        go_wp2
        go_ret
        rw [He.out]
        exact ⟨rfl, HB.out⟩
  · have hne : (n == m) = false := by simpa using hnm
    have hne2 : ((n : Int) == (m : Int)) = false := by simp; omega
    have Hne := Lib.hid (show decide (l1 = l2) = false from decide_eq_false (fun h => hnm (by rw [← Hl1.out, ← Hl2.out, h])))
    go_enter Tryz.func96, Tryz.ntmps96
    go_wp2
    go_ret
    rw [Hne.out]
    exact ⟨rfl, Below.refl _ _⟩
set_option maxRecDepth 100000 in
theorem rsame_any (A B : Option Addr) (n c m d : Nat) (l1 l2 : List Cl) (w : World) (h1 : Reads w w.heap.size 3 A n (cls l1)) (h2 : Reads w w.heap.size 3 B m (cls l2)) (hn : n ≤ maxLen) :
    Calls Tryz.prog 55 #[.slice A n c, .slice B m d] w fun e w' => e = .returned (.bool (decide (l1 = l2))) ∧ Below w.heap.size w w' := by
  have HK := Lib.hid (ceq_any A B n c m d l1 l2 w h1 h2 hn)
  clear h1 h2 hn
  go_enter Tryz.func55, Tryz.ntmps55
  go_wp2_with fail
  with_reducible refine HK.out.mono ?_
  rintro e w1 ⟨rfl, hb⟩
  have HB := Lib.hid hb
  clear hb
  go_wp2
  go_ret
  exact ⟨rfl, HB.out⟩
set_option maxRecDepth 100000 in
set_option maxHeartbeats 1000000 in
theorem isame_any (A B : Option Addr) (n c m d : Nat) (x y : Int) (l1 l2 : List Cl) (w : World) (h1 : Reads w w.heap.size 3 A n (cls l1)) (h2 : Reads w w.heap.size 3 B m (cls l2)) (hn : n ≤ maxLen) :
    Calls Tryz.prog 54 #[.agg #[.slice A n c, .int .i64 x], .agg #[.slice B m d, .int .i64 y]] w fun e w' => e = .returned (.bool (decide ((l1, x) = (l2, y)))) ∧ Below w.heap.size w w' := by
  have HB1 := Lib.hid (bal (bal (Below.refl w.heap.size w) (.cells #[.slice A n c, .int .i64 x] 56)) (.cells #[.slice B m d, .int .i64 y] 56))
  have P1 := Lib.hid ((Blk.new w 56 #[.slice A n c, .int .i64 x]).alloc (.cells #[.slice B m d, .int .i64 y] 56))
  have P2 := Lib.hid (Blk.new (w.alloc (.cells #[.slice A n c, .int .i64 x] 56)) 56 #[.slice B m d, .int .i64 y])
  have HK := Lib.hid (rsame_any A B n c m d l1 l2 ((w.alloc (.cells #[.slice A n c, .int .i64 x] 56)).alloc (.cells #[.slice B m d, .int .i64 y] 56)) (h1.on HB1.out) (h2.on HB1.out) hn)
  clear h1 h2 hn
  by_cases hxy : x = y
  · subst hxy
    have db : (x == x) = true := by simp
    go_enter Tryz.func54, Tryz.ntmps54
    go_wp2_with fail
    with_reducible refine HK.out.mono ?_
    rintro e w1 ⟨rfl, hb⟩
    have HB := Lib.hid (bon HB1.out hb)
    clear hb
    go_wp2
    go_ret
    refine ⟨?_, HB.out⟩
    simp
  · have db : (x == y) = false := by simpa using hxy
    have HE := Lib.hid (show decide ((l1, x) = (l2, y)) = false from decide_eq_false (fun h => hxy (Prod.mk.inj h).2))
    clear hxy
    go_enter Tryz.func54, Tryz.ntmps54
    go_wp2
    go_ret
    exact ⟨by rw [HE.out]; rfl, HB1.out⟩
set_option maxRecDepth 100000 in
set_option maxHeartbeats 1000000 in
theorem esame_any (A B : Option Addr) (n c m d : Nat) (l1 l2 : List It) (w : World) (h1 : ItemsAt w w.heap.size A n l1) (h2 : ItemsAt w w.heap.size B m l2) (hn : n ≤ maxLen) :
    Calls Tryz.prog 56 #[.slice A n c, .slice B m d, .func (.func 54) #[] #[]] w fun e w' => e = .returned (.bool (decide (l1 = l2))) ∧ Below w.heap.size w w' := by
  have hin := callFunc_in Tryz.func54 (by kernel_rfl) (by kernel_rfl)
  have H1 := Lib.hid h1
  have H2 := Lib.hid h2
  have Hl1 := Lib.hid h1.len
  have Hl2 := Lib.hid h2.len
  have hn63 : n ≤ 9223372036854775807 := by simp only [maxLen] at hn; omega
  clear h1 h2 hn
  by_cases hnm : m = n
  · subst hnm
    go_enter Tryz.func56, Tryz.ntmps56
    go_wp2
    go_loopw [17] (fun i wr => ∃ j : Nat, j ≤ m ∧ i = .int .i64 (j : Int) ∧ Hid (l1.take j = l2.take j) ∧ Hid (Below w.heap.size w wr)) (fun i _ => m - (intOf i).toNat)
    case atStart => exact ⟨0, Nat.zero_le _, rfl, Lib.hid rfl, Lib.hid (Below.refl _ _)⟩
    case round =>
      obtain ⟨j, hj, rfl, Htk, HB⟩ := hrel
      by_cases hlt : j < m
      · obtain ⟨ad, A', c', it, rfl, hbk, hx, a0, a1, r1, rc1, rc2⟩ := (H1.out.below HB.out).at_ hlt
        obtain ⟨ad', A'', c'', it', rfl, hbk', hx', b0, b1, r2, -, -⟩ := (H2.out.below HB.out).at_ hlt
        have HB1 := Lib.hid (bal (bal HB.out (.cells #[.slice A' it.1.length c', .int .i64 it.2] 56)) (.cells #[.slice A'' it'.1.length c'', .int .i64 it'.2] 56))
        have hbX := ((Below.refl wr.heap.size wr).alloc (Nat.le_refl _) (.cells #[.slice A' it.1.length c', .int .i64 it.2] 56))
        have b0' := ((hbX.cell (p := ad'.add (j * 2)) (by rw [block_of_add]; exact Nat.lt_of_lt_of_le hbk' HB.out.size))).trans b0
        have b1' := ((hbX.cell (p := ⟨(ad'.add (j * 2)).block, (ad'.add (j * 2)).off + 1, none⟩) (by show (ad'.add (j * 2)).block < _; rw [block_of_add]; exact Nat.lt_of_lt_of_le hbk' HB.out.size))).trans b1
        have HK := Lib.hid (isame_any A' A'' it.1.length c' it'.1.length c'' it.2 it'.2 it.1 it'.1 _ ((r1.more HB.out.size).al (.cells #[.slice A' it.1.length c', .int .i64 it.2] 56) |>.al (.cells #[.slice A'' it'.1.length c'', .int .i64 it'.2] 56)) ((r2.more HB.out.size).al (.cells #[.slice A' it.1.length c', .int .i64 it.2] 56) |>.al (.cells #[.slice A'' it'.1.length c'', .int .i64 it'.2] 56)) (Nat.le_trans rc1 rc2))
        have Hx := Lib.hid hx
        have Hx' := Lib.hid hx'
        have hji : (j : Int) < (m : Int) := by omega
        clear hx hx' hbk hbk' r1 r2 rc1 rc2 hbX b0 b1
        obtain ⟨r, v⟩ := it
        obtain ⟨r', v'⟩ := it'
        simp only at a0 a1 b0' b1' HK HB1
        generalize r.length = rl at *
        generalize r'.length = rl' at *
        go_wp2_with fail
        with_reducible refine HK.out.mono ?_
        rintro e w1 ⟨rfl, hb⟩
        have HB2 := Lib.hid (bon HB1.out hb)
        clear hb a0 a1 b0' b1' HK
        by_cases hc : (r, v) = (r', v')
        · have Htk2 := Lib.hid (show l1.take (j + 1) = l2.take (j + 1) by rw [List.take_add_one, List.take_add_one, Hx.out, Hx'.out, Htk.out, hc])
          rw [decide_eq_true hc]
          clear hc
          go_wp2
          go_roundw
          case rel => exact ⟨j + 1, by omega, by go_num, Htk2, HB2⟩
          case measure => simp [intOf]; omega
        · have Hne := Lib.hid (show decide (l1 = l2) = false from decide_eq_false (fun h => hc (by subst h; exact Option.some.inj (Hx.out.symm.trans Hx'.out))))
          rw [decide_eq_false hc]
          clear hc
          go_wp2
          go_ret
          exact ⟨by rw [Hne.out]; rfl, HB2.out⟩
      · obtain rfl : m = j := by omega
        have He := Lib.hid (show decide (l1 = l2) = true by
          have := Htk.out
          rw [List.take_of_length_le (by rw [Hl1.out]; exact Nat.le_refl _), List.take_of_length_le (by rw [Hl2.out]; exact Nat.le_refl _)] at this
          exact decide_eq_true this)
        go_wp2
        go_ret
        exact ⟨by rw [He.out]; rfl, HB.out⟩
  · have hne2 : ((n : Int) != (m : Int)) = true := by simp; omega
    have hne3 : (n != m) = true := by simp; omega
    have Hne := Lib.hid (show decide (l1 = l2) = false from decide_eq_false (fun h => hnm (by rw [← Hl1.out, ← Hl2.out, h])))
    go_enter Tryz.func56, Tryz.ntmps56
    go_wp2
    go_ret
    exact ⟨by rw [Hne.out]; rfl, Below.refl _ _⟩
def sameBa (a b : Ba) : Bool := decide (a.1 = b.1) && (decide (a.2.1 = b.2.1) && decide (a.2.2 = b.2.2))
theorem sameBa_iff (a b : Ba) : sameBa a b = true ↔ a = b := by
  obtain ⟨v, s, l⟩ := a
  obtain ⟨v', s', l'⟩ := b
  unfold sameBa
  simp only [Bool.and_eq_true, decide_eq_true_eq, Prod.mk.injEq]
theorem sameBa_self (a : Ba) : sameBa a a = true := (sameBa_iff a a).2 rfl
theorem sameBa_not {a b : Ba} (h : a ≠ b) : sameBa a b = false := by
  cases hs : sameBa a b with
  | false => rfl
  | true => exact absurd ((sameBa_iff a b).1 hs) h
set_option maxRecDepth 100000 in
set_option maxHeartbeats 1000000 in
theorem bsame_any (v1 s1 : Int) (A : Option Addr) (n c : Nat) (l1 : List It) (v2 s2 : Int) (B : Option Addr) (m d : Nat) (l2 : List It) (w : World) (h1 : ItemsAt w w.heap.size A n l1) (h2 : ItemsAt w w.heap.size B m l2) (hn : n ≤ maxLen) :
    Calls Tryz.prog 17 #[.agg #[.int .i64 v1, .int .i64 s1, .slice A n c], .agg #[.int .i64 v2, .int .i64 s2, .slice B m d]] w fun e w' => e = .returned (.bool (sameBa (v1, s1, l1) (v2, s2, l2))) ∧ Below w.heap.size w w' := by
  have HB1 := Lib.hid (bal (bal (Below.refl w.heap.size w) (.cells #[.int .i64 v1, .int .i64 s1, .slice A n c] 25)) (.cells #[.int .i64 v2, .int .i64 s2, .slice B m d] 25))
  have HK := Lib.hid (esame_any A B n c m d l1 l2 ((w.alloc (.cells #[.int .i64 v1, .int .i64 s1, .slice A n c] 25)).alloc (.cells #[.int .i64 v2, .int .i64 s2, .slice B m d] 25)) (h1.on HB1.out) (h2.on HB1.out) hn)
  clear h1 h2 hn
  by_cases hv : v1 = v2
  · subst hv
    have d1 : (v1 == v1) = true := by simp
    by_cases hs : s1 = s2
    · subst hs
      have d2 : (s1 == s1) = true := by simp
      go_enter Tryz.func17, Tryz.ntmps17
      go_wp2_with fail
      with_reducible refine HK.out.mono ?_
      rintro e w1 ⟨rfl, hb⟩
      have HB := Lib.hid (bon HB1.out hb)
      clear hb
      go_wp2
      go_ret
      refine ⟨?_, HB.out⟩
      simp [sameBa]
    · have d2 : (s1 == s2) = false := by simpa using hs
      have HE := Lib.hid (show sameBa (v1, s1, l1) (v1, s2, l2) = false from sameBa_not (fun h => hs (by simp only [Prod.mk.injEq] at h; exact h.2.1)))
      clear hs HK
      go_enter Tryz.func17, Tryz.ntmps17
      go_wp2
      go_ret
      exact ⟨by rw [HE.out]; rfl, HB1.out⟩
  · have d1 : (v1 == v2) = false := by simpa using hv
    have HE := Lib.hid (show sameBa (v1, s1, l1) (v2, s2, l2) = false from sameBa_not (fun h => hv (by simp only [Prod.mk.injEq] at h; exact h.1)))
    clear hv HK
    go_enter Tryz.func17, Tryz.ntmps17
    go_wp2
    go_ret
    exact ⟨by rw [HE.out]; rfl, HB1.out⟩
end Go.Proofs.YtegcbjkikhheiaaGreatDoor
namespace Go.Proofs.YtegcbjkikhheiaaGreatDoor
open Go.RowKit
theorem col_info : (Tryz.prog.info? 64).map (fun i => (i.zero, i.size, i.bytes)) = some (some (.agg #[.int .i64 0, .string ⟨#[]⟩, .int .i64 0, .bool false, .bool false, .int .i64 0, .string ⟨#[]⟩]), 7, 72) := by kernel_rfl
set_option maxRecDepth 100000 in
set_option maxHeartbeats 400000 in
theorem copyCols_any (A : Option Addr) (n c : Nat) (l : List Co) (w : World) (hr : Reads w w.heap.size 7 A n (cos l)) (hn : n ≤ 1048576) :
    Calls Tryz.prog 12 #[.slice A n c] w fun e w' => ∃ A' c', e = .returned (.slice A' n c') ∧ n ≤ c' ∧ c' ≤ maxLen ∧ w'.ownsRow w.heap.size 64 7 (.slice A' n c') n (cos l) ∧ Below w.heap.size w w' := by
  obtain ⟨i0, hi0, hz0, hz1, hz2⟩ := info_parts col_info
  go_enter Tryz.func12, Tryz.ntmps12
  go_wp2_with (at_builtin
               refine wpList_append_any _ rfl (.tmp 4) (.tmp 5) 22 rfl w.heap.size 64 i0 (.agg #[.int .i64 0, .string ⟨#[]⟩, .int .i64 0, .bool false, .bool false, .int .i64 0, .string ⟨#[]⟩]) 7 72 Tryz.underlying22 hi0 hz0 hz1 hz2 rfl (by decide) none 0 0 [] rfl (World.ownsRow_nil _ _ _ _) A n c (cos l) rfl hr (cos_one l) (by simp only [maxLen]; omega) (by omega) (Nat.le_refl _) ?_
               intro A2 c2 w2 hown2 hb2 hg2 hc2 hm2
               simp only [Nat.zero_add, List.nil_append] at hown2 hc2)
  go_ret
  exact ⟨A2, c2, by simp, hc2, hm2, hown2, hb2⟩
end Go.Proofs.YtegcbjkikhheiaaGreatDoor
namespace Go.Proofs.YtegcbjkikhheiaaGreatDoor
open Go.RowKit
set_option maxRecDepth 100000 in
theorem beq_any (A B : Option Addr) (n c m d : Nat) (l1 l2 : List UInt8) (w : World) (h1 : Reads w w.heap.size 1 A n (u8s l1)) (h2 : Reads w w.heap.size 1 B m (u8s l2)) :
    Calls Tryz.prog 84 #[.slice A n c, .slice B m d] w fun e w' => e = .returned (.bool (l1 == l2)) ∧ w = w' := by
  have e1 := run_bytes_string (P := Tryz.prog) w 26 9 5 Tryz.underlying26 Tryz.underlying5 Tryz.underlying9 _ A n c l1 h1
  have e2 := run_bytes_string (P := Tryz.prog) w 26 9 5 Tryz.underlying26 Tryz.underlying5 Tryz.underlying9 _ B m d l2 h2
  go_enter Tryz.func84, Tryz.ntmps84
  go_wp2
  go_ret
  exact ⟨rfl, rfl⟩
set_option maxRecDepth 100000 in
theorem bhas_any (A B : Option Addr) (n c m d : Nat) (l1 l2 : List UInt8) (w : World) (h1 : Reads w w.heap.size 1 A n (u8s l1)) (h2 : Reads w w.heap.size 1 B m (u8s l2)) (hn : n ≤ c) (hc : c ≤ maxLen) :
    Calls Tryz.prog 122 #[.slice A n c, .slice B m d] w fun e w' => e = .returned (.bool (l1.take m == l2)) ∧ w = w' := by
  have hl1 := reads_len h1
  have hl2 := reads_len h2
  have hc63 : c ≤ 9223372036854775807 := by simp only [maxLen] at hc; omega
  by_cases hmn : m ≤ n
  · have d1 : decide ((m : Int) ≤ (n : Int)) = true := by simp; omega
    have hmi : (m : Int) ≤ (n : Int) := by omega
    have hr := h1.head hmn
    rw [Nat.mul_one, u8s_take] at hr
    have HK := Lib.hid (beq_any A B m c m d (l1.take m) l2 w hr h2)
    clear h1 h2 hr hl1 hl2
    go_enter Tryz.func122, Tryz.ntmps122
    go_wp2_with fail
    with_reducible refine HK.out.mono ?_
    rintro e w1 ⟨rfl, rfl⟩
    go_wp2
    go_ret
    exact ⟨rfl, rfl⟩
  · have d1 : decide ((m : Int) ≤ (n : Int)) = false := by simp; omega
    have hE : (l1.take m == l2) = false := by
      rw [beq_eq_false_iff_ne]
      intro h
      have := congrArg List.length h
      rw [List.length_take] at this
      omega
    rw [hE]
    clear h1 h2 hl1 hl2 hE
    go_enter Tryz.func122, Tryz.ntmps122
    go_wp2
    go_ret
    exact ⟨rfl, rfl⟩
def CutP (l1 l2 : List UInt8) (A : Option Addr) (n c m b : Nat) (w : World) (e : Ending) (w' : World) : Prop :=
  w = w' ∧ if (l1.take m == l2) = true then ∃ A' k c', e = .returned (.tuple #[.slice A' k c', .bool true]) ∧ Reads w b 1 A' k (u8s (l1.drop m)) ∧ k ≤ c' ∧ c' ≤ maxLen
  else e = .returned (.tuple #[.slice A n c, .bool false])
set_option maxRecDepth 100000 in
theorem bcut_any (b : Nat) (A B : Option Addr) (n c m d : Nat) (l1 l2 : List UInt8) (w : World) (h1 : Reads w b 1 A n (u8s l1)) (hb : b ≤ w.heap.size) (h2 : Reads w w.heap.size 1 B m (u8s l2)) (hn : n ≤ c) (hc : c ≤ maxLen) :
    Calls Tryz.prog 85 #[.slice A n c, .slice B m d] w (CutP l1 l2 A n c m b w) := by
  have hl1 := reads_len h1
  have hl2 := reads_len h2
  have hc63 : c ≤ 9223372036854775807 := by simp only [maxLen] at hc; omega
  have HK := Lib.hid (bhas_any A B n c m d l1 l2 w (h1.more hb) h2 hn hc)
  by_cases he : (l1.take m == l2) = true
  · have hmn : m ≤ n := by
      have := congrArg List.length (eq_of_beq he)
      rw [List.length_take] at this
      omega
    have hcut := h1.cut hmn hn
    rw [Nat.mul_one, u8s_drop] at hcut
    obtain ⟨A2, hA2⟩ : ∃ A2, (if c = m then A else Option.map (fun x => x.add m) A) = A2 := ⟨_, rfl⟩
    rw [hA2] at hcut
    have Hcut := Lib.hid hcut
    have hmi : (m : Int) ≤ (n : Int) := by omega
    have hmi2 : (m : Int) ≤ (c : Int) := by omega
    have hmc : m ≤ c := by omega
    have HE := Lib.hid he
    clear h1 h2 hl1 hl2 hcut
    go_enter Tryz.func85, Tryz.ntmps85
    go_wp2_with fail
    with_reducible refine HK.out.mono ?_
    rintro e w1 ⟨rfl, rfl⟩
    rw [he]
    clear he
    go_wp2
    go_ret2
    refine ⟨rfl, ?_⟩
    rw [if_pos HE.out]
    exact ⟨A2, n - m, c - m, rfl, Hcut.out, by omega, by simp only [maxLen] at hc ⊢; omega⟩
  · have HE := Lib.hid he
    have he2 : (l1.take m == l2) = false := by simpa using he
    clear h1 h2 hl1 hl2 he
    go_enter Tryz.func85, Tryz.ntmps85
    go_wp2_with fail
    with_reducible refine HK.out.mono ?_
    rintro e w1 ⟨rfl, rfl⟩
    rw [he2]
    clear he2
    go_wp2
    go_ret2
    refine ⟨rfl, ?_⟩
    rw [if_neg HE.out]
    rfl
def NumR (r : Got (Nat × List UInt8)) (base g : Nat) (w : World) (e : Ending) (w' : World) : Prop :=
  match r with
  | .ok p => e = .returned (.int .u64 (p.1 : Int)) ∧ ∃ B m c, w' = w.setCell ⟨g, 0, none⟩ (.slice B m c) ∧ Reads w base 1 B m (u8s p.2) ∧ m ≤ c ∧ c ≤ maxLen
  | .error er => e = thr (er : Int) ∧ er ≠ 0 ∧ w' = w
set_option maxRecDepth 100000 in
set_option maxHeartbeats 1000000 in
theorem number_any (base g : Nat) (B : Option Addr) (m c : Nat) (xs : List UInt8) (most beyond : Nat) (w : World) (hG : Blk w g 78 #[.slice B m c]) (hr : Reads w base 1 B m (u8s xs)) (hb : base ≤ w.heap.size) (hm : m ≤ c) (hc : c ≤ maxLen) (hbe : beyond ≠ 0) :
    Calls Tryz.prog 86 #[.pointer (some ⟨g, 0, none⟩), .int .u64 (most : Int), .int .i64 (beyond : Int)] w (NumR (numD most beyond xs) base g w) := by
  have hxl := reads_len hr
  have HK := Lib.hid (get_any B m c xs w (hr.more hb) hm hc)
  have hc0 := hG.cell 0
  have hf0 := hG.frozen 0
  have hc63 : c ≤ 9223372036854775807 := by simp only [maxLen] at hc; omega
  rcases get_only xs with ⟨N, hg, hN, hl, -⟩ | ⟨er, hg, he, hel⟩
  · have hE : numD most beyond xs = if N ≤ most then .ok (N, xs.drop (leb N).length) else .error beyond := by
      unfold numD
      rw [hg]
      simp
    rw [hg] at HK
    unfold gotten at HK
    generalize (leb N).length = sz at *
    rw [hxl] at hl
    have hcut := hr.cut hl hm
    rw [Nat.mul_one, u8s_drop] at hcut
    obtain ⟨A2, hA2⟩ : ∃ A2, (if c = sz then B else Option.map (fun x => x.add sz) B) = A2 := ⟨_, rfl⟩
    rw [hA2] at hcut
    have Hcut := Lib.hid hcut
    have HE := Lib.hid hE
    have hmi : (sz : Int) ≤ (m : Int) := by omega
    have hmi2 : (sz : Int) ≤ (c : Int) := by omega
    have hmc : sz ≤ c := by omega
    simp only at HK
    clear hr hxl hcut hE hg hG
    go_enter Tryz.func86, Tryz.ntmps86
    go_wp2_with fail
    with_reducible refine HK.out.mono ?_
    rintro e w1 ⟨rfl, rfl⟩
    go_wp2_with fail
    with_reducible refine (must_yes _).mono ?_
    rintro e w2 ⟨rfl, rfl⟩
    by_cases hle : N ≤ most
    · have HE := Lib.hid (show numD most beyond xs = .ok (N, xs.drop sz) by rw [HE.out, if_pos hle])
      have d1 : decide (N ≤ most) = true := by simpa using hle
      clear hle
      go_wp2_with fail
      with_reducible refine (need_yes _ _).mono ?_
      rintro e w2 ⟨rfl, rfl⟩
      go_wp2
      go_ret
      rw [HE.out]
      exact ⟨rfl, A2, m - sz, c - sz, rfl, Hcut.out, by omega, by simp only [maxLen] at hc ⊢; omega⟩
    · have HE := Lib.hid (show numD most beyond xs = .error beyond by rw [HE.out, if_neg hle])
      have d1 : decide (N ≤ most) = false := by simpa using hle
      clear hle
      go_wp2_with fail
      with_reducible refine (need_no _ _).mono ?_
      rintro e w2 ⟨rfl, rfl⟩
      go_wp2
      refine ⟨rfl, ?_⟩
      rw [HE.out]
      exact ⟨rfl, hbe, rfl⟩
  · have HE := Lib.hid (show numD most beyond xs = .error er by unfold numD; rw [hg]; simp [he])
    rw [hg] at HK
    unfold gotten at HK
    simp only at HK
    have hei : (er : Int) ≠ 0 := by omega
    clear hr hxl hg hG
    go_enter Tryz.func86, Tryz.ntmps86
    go_wp2_with fail
    with_reducible refine HK.out.mono ?_
    rintro e w1 ⟨rfl, rfl⟩
    go_wp2_with fail
    with_reducible refine (must_no _ hei _).mono ?_
    rintro e w2 ⟨rfl, rfl⟩
    go_wp2
    refine ⟨rfl, ?_⟩
    rw [HE.out]
    exact ⟨rfl, he, rfl⟩
end Go.Proofs.YtegcbjkikhheiaaGreatDoor
