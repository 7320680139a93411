/- Part 11 of the walks, merged: each text under its own heading. Conditions: none of its own; each lemma states what it asks. -/
import Derived.Test.YtfgpbnfobpfacaaGreatDoorPart10
import Derived.Lib.Slices
/- Layer 16: a column that is written, or read: one cell more. -/
set_option linter.unusedVariables false
set_option linter.unusedSimpArgs false
namespace Go.Proofs.YtfgpbnfobpfacaaGreatDoor
open Go.RowKit
theorem cell_info : (Tryz.prog.info? 41).map (fun i => (i.zero, i.size, i.bytes)) = some (some (.agg #[.bool false, .int .i64 0, .string ⟨#[]⟩]), 3, 32) := by kernel_rfl
theorem cls_one (l : List Cl) : ∀ u ∈ cls l, u.oneCell' = true := by
  intro u hu
  unfold cls at hu
  obtain ⟨c, -, hc⟩ := List.mem_flatMap.1 hu
  simp at hc
  rcases hc with rfl | rfl | rfl <;> rfl
theorem cls_append (l r : List Cl) : cls (l ++ r) = cls l ++ cls r := by simp [cls]
theorem cls_length (l : List Cl) : (cls l).length = 3 * l.length := by
  rw [cls, flatMap_length _ 3 (fun _ => rfl)]
  omega
theorem reads_cell (w : World) (u : Bool) (x : Int) (s : ByteArray) : Reads (w.alloc (.cells #[.bool u, .int .i64 x, .string s] 41)) (w.alloc (.cells #[.bool u, .int .i64 x, .string s] 41)).heap.size 3 (some ⟨w.heap.size, 0, none⟩) 1 (cls [(u, x, s)]) := by
  refine ⟨rfl, fun _ => ⟨_, rfl, by simp, fun j v hv => ?_⟩⟩
  have h := (Blk.new w 41 #[.bool u, .int .i64 x, .string s]).cell j
  rw [show (⟨w.heap.size, 0, none⟩ : Addr).add j = ⟨w.heap.size, j, none⟩ by unfold Addr.add; split <;> simp_all, h]
  simpa [cls] using hv
theorem blk_row {w w' : World} {p : Nat} {t : TypeId} {cs : Array Value} {v : Value} (h : Blk w p t cs) (hg : w.grownBy w' v.ownBlock) (hr : ∀ q, v.ownBlock = some q → q < p) : Blk w' p t cs :=
  (hg.block p h.lt (fun e => by have := hr _ e.symm; omega)).trans h
theorem ColW.onDrew {w : World} {base g : Nat} {k at_ : Int} {A : Option Addr} {n c : Nat} {l : List Cl} {B : Option Addr} {m cb : Nat} {xs : List UInt8} (h : ColW w base g k at_ A n c l B m cb xs) : ColW w.drew base g k at_ A n c l B m cb xs :=
  ⟨h.blk, h.far, h.cells, h.bytes, h.le, h.max⟩
theorem ColW.app {w w' : World} {base g : Nat} {k at_ : Int} {A : Option Addr} {n c : Nat} {l : List Cl} {B : Option Addr} {m cb : Nat} {xs : List UInt8} (h : ColW w base g k at_ A n c l B m cb xs)
    (hg : w.grownBy w' (Value.slice A n c).ownBlock) (hb : Below base w w') {A2 : Option Addr} {n2 c2 : Nat} {l2 : List Cl} (ho : w'.ownsRow base 41 3 (.slice A2 n2 c2) n2 (cls l2)) :
    ColW (w'.setCell ⟨g, 1, none⟩ (.slice A2 n2 c2)) base g k at_ A2 n2 c2 l2 B m cb xs ∧ Blk w' g 54 #[.int .i64 k, .slice A n c, .slice B m cb, .int .i64 at_] := by
  have hb2 := h.blk.apart h.cells (by decide) hg
  exact ⟨⟨hb2.set_ 1 _, h.far, own_far ho hb2 (by decide) 1 _, own_far (own_apart h.bytes h.cells (by decide) hg) hb2 (by decide) 1 _, h.le, h.max⟩, hb2⟩
/-- A column that is read: its block, its cells, the bytes that it reads, how far. -/
structure ColG (w : World) (base bc g : Nat) (k at_ : Int) (A : Option Addr) (n c : Nat) (l : List Cl) (B : Option Addr) (m cb : Nat) (xs : List UInt8) : Prop where
  blk : Blk w g 54 #[.int .i64 k, .slice A n c, .slice B m cb, .int .i64 at_]
  far : base ≤ g
  cells : w.ownsRow bc 41 3 (.slice A n c) n (cls l)
  low0 : base ≤ bc
  bytes : Reads w base 1 B m (u8s xs)
  le : m ≤ cb
  max : cb ≤ maxLen
section
variable {w w' : World} {base bc g : Nat} {k at_ : Int} {A : Option Addr} {n c : Nat} {l : List Cl} {B : Option Addr} {m cb : Nat} {xs : List UInt8}
theorem ColG.below (h : ColG w base bc g k at_ A n c l B m cb xs) (hb : Below w.heap.size w w') : ColG w' base bc g k at_ A n c l B m cb xs :=
  ⟨h.blk.on hb, h.far, own_below h.cells hb, h.low0, h.bytes.below (hb.mono (Nat.le_of_lt (Nat.lt_of_le_of_lt h.far h.blk.lt))), h.le, h.max⟩
theorem ColG.base_le (h : ColG w base bc g k at_ A n c l B m cb xs) : base ≤ w.heap.size := Nat.le_of_lt (Nat.lt_of_le_of_lt h.far h.blk.lt)
theorem ColG.onDrew (h : ColG w base bc g k at_ A n c l B m cb xs) : ColG w.drew base bc g k at_ A n c l B m cb xs := ⟨h.blk, h.far, h.cells, h.low0, h.bytes, h.le, h.max⟩
theorem ColG.reads (h : ColG w base bc g k at_ A n c l B m cb xs) : Reads w w.heap.size 1 B m (u8s xs) := h.bytes.more h.base_le
theorem ColG.app (h : ColG w base bc g k at_ A n c l B m cb xs)
    (hg : w.grownBy w' (Value.slice A n c).ownBlock) (hb : Below bc w w') {A2 : Option Addr} {n2 c2 : Nat} {l2 : List Cl} (ho : w'.ownsRow bc 41 3 (.slice A2 n2 c2) n2 (cls l2)) :
    ColG (w'.setCell ⟨g, 1, none⟩ (.slice A2 n2 c2)) base bc g k at_ A2 n2 c2 l2 B m cb xs ∧ Blk w' g 54 #[.int .i64 k, .slice A n c, .slice B m cb, .int .i64 at_] := by
  have hb2 := h.blk.apart h.cells (by decide) hg
  exact ⟨⟨hb2.set_ 1 _, h.far, own_far ho hb2 (by decide) 1 _, h.low0, (h.bytes.below (hb.mono h.low0)).setCell (p := ⟨g, 1, none⟩) h.far _, h.le, h.max⟩, hb2⟩
theorem ColG.seek (h : ColG w base bc g k at_ A n c l B m cb xs) (i : Int) : ColG (w.setCell ⟨g, 3, none⟩ (.int .i64 i)) base bc g k i A n c l B m cb xs :=
  ⟨h.blk.set_ 3 _, h.far, own_far h.cells h.blk (by decide) 3 _, h.low0, h.bytes.setCell (p := ⟨g, 3, none⟩) h.far _, h.le, h.max⟩
theorem ColG.low (h : ColG w base bc g k at_ A n c l B m cb xs) {p : Nat} (hp : w.heap.size ≤ p) : (∀ q, (Value.slice A n c).ownBlock = some q → q < p) ∧ g ≠ p :=
  ⟨fun q hq => Nat.lt_of_lt_of_le (h.cells.lt q hq).2 hp, Nat.ne_of_lt (Nat.lt_of_lt_of_le h.blk.lt hp)⟩
/-- Where no cell stands yet, they may be owned from any place on. -/
theorem ColG.fresh (h : ColG w base bc g k at_ none 0 0 [] B m cb xs) {b2 : Nat} (hb : base ≤ b2) : ColG w base b2 g k at_ none 0 0 [] B m cb xs :=
  ⟨h.blk, h.far, World.ownsRow_nil _ _ _ _, hb, h.bytes, h.le, h.max⟩
theorem ColG.floor (h : ColG w base bc g k at_ A n c l B m cb xs) : ColG w base base g k at_ A n c l B m cb xs :=
  ⟨h.blk, h.far, own_mono h.cells h.low0, Nat.le_refl _, h.bytes, h.le, h.max⟩
end
theorem ColW.low0 {w : World} {base g : Nat} {k at_ : Int} {A : Option Addr} {n c : Nat} {l : List Cl} {B : Option Addr} {m cb : Nat} {xs : List UInt8} (h : ColW w base g k at_ A n c l B m cb xs) : base ≤ base := Nat.le_refl _
/-- A reading of what a block does not hold is kept over a store into that block. -/
theorem Reads.notin {w : World} {B n g i : Nat} {A : Option Addr} {xs : List Value} {t : TypeId} {cs : Array Value} {v : Value} (h : Reads w B 1 A n xs) (hb : Blk w g t cs) (hx : ∀ u ∈ xs, u ∉ cs) : Reads (w.setCell ⟨g, i, none⟩ v) B 1 A n xs := by
  refine ⟨h.1, fun hn => ?_⟩
  obtain ⟨ad, e, h1, h2⟩ := h.2 hn
  refine ⟨ad, e, h1, fun j u hu => ?_⟩
  have hne : (ad.add j).block ≠ g := by
    intro hg
    have hc := h2 j u hu
    unfold Blk at hb
    simp only [World.cell?, hg, hb] at hc
    split at hc
    · cases hc
    · exact hx u (List.mem_of_getElem? hu) (Array.mem_of_getElem? hc)
  exact (World.cell?_setCell_other w _ _ _ (fun e2 => hne (by rw [← e2]))).trans (h2 j u hu)
theorem ColW.low {w : World} {base g : Nat} {k at_ : Int} {A : Option Addr} {n c : Nat} {l : List Cl} {B : Option Addr} {m cb : Nat} {xs : List UInt8} (h : ColW w base g k at_ A n c l B m cb xs) {p : Nat} (hp : w.heap.size ≤ p) : (∀ q, (Value.slice A n c).ownBlock = some q → q < p) ∧ g ≠ p :=
  ⟨fun q hq => Nat.lt_of_lt_of_le (h.cells.lt q hq).2 hp, Nat.ne_of_lt (Nat.lt_of_lt_of_le h.blk.lt hp)⟩
/-- What lies below a place is as it was, but for one block. -/
def Apart (B g : Nat) (w w' : World) : Prop := ∀ k, k < B → k ≠ g → w'.heap[k]? = w.heap[k]?
section
variable {w w' w2 : World} {B g : Nat}
theorem Apart.refl (B g : Nat) (w : World) : Apart B g w w := fun _ _ _ => rfl
theorem Apart.trans (h : Apart B g w w') (h2 : Apart B g w' w2) : Apart B g w w2 := fun k hk hg => (h2 k hk hg).trans (h k hk hg)
theorem Apart.below {B2 : Nat} (h : Apart B g w w') (hb : Below B2 w' w2) (hB : B ≤ B2) : Apart B g w w2 := fun k hk hg => (hb.block k (Nat.lt_of_lt_of_le hk hB)).trans (h k hk hg)
theorem Apart.alloc (h : Apart B g w w') (hB : B ≤ w'.heap.size) (o : Obj) : Apart B g w (w'.alloc o) := fun k hk hg => (Below.heap_alloc w' o k (Nat.lt_of_lt_of_le hk hB)).trans (h k hk hg)
theorem Apart.set (h : Apart B g w w') (i : Nat) (u : Value) : Apart B g w (w'.setCell ⟨g, i, none⟩ u) := fun k hk hg => (Below.heap_setCell w' ⟨g, i, none⟩ u k hg).trans (h k hk hg)
theorem Apart.drew (h : Apart B g w w') : Apart B g w w'.drew := h
theorem Apart.reads {n : Nat} {A : Option Addr} {xs : List Value} {t : TypeId} {cs : Array Value} (h : Apart B g w w') (hr : Reads w B 1 A n xs) (hb : Blk w g t cs) (hx : ∀ u ∈ xs, u ∉ cs) : Reads w' B 1 A n xs := by
  refine ⟨hr.1, fun hn => ?_⟩
  obtain ⟨ad, e, h1, h2⟩ := hr.2 hn
  refine ⟨ad, e, h1, fun j u hu => ?_⟩
  have hne : (ad.add j).block ≠ g := by
    intro hg
    have hc := h2 j u hu
    unfold Blk at hb
    simp only [World.cell?, hg, hb] at hc
    split at hc
    · cases hc
    · exact hx u (List.mem_of_getElem? hu) (Array.mem_of_getElem? hc)
  exact (World.cell?_of_block (h _ (by rw [block_of_add]; exact h1) hne)).trans (h2 j u hu)
end
/-- How long the bytes of texts are at most. -/
theorem putD_le (l : List ByteArray) (h : ∀ s ∈ l, s.size ≤ 1024) : (putD l).length ≤ 10 + 1044 * l.length := by
  have hlen := splitL_len l
  have h1 : ((splitL l).1.flatMap putText).length ≤ 1034 * (splitL l).1.length := by
    have : ∀ t : List ByteArray, (∀ s ∈ t, s.size ≤ 1024) → (t.flatMap putText).length ≤ 1034 * t.length := by
      intro t
      induction t with
      | nil => intro _; simp
      | cons s t ih =>
        intro ht
        have h2 := ih (fun x hx => ht x (by simp [hx]))
        have h3 := ht s (by simp)
        have h4 := leb_le (bts s).length
        simp only [List.flatMap_cons, List.length_append, List.length_cons, putText, bts_len] at *
        omega
    exact this _ (fun s hs => h s ((split_mem l s).1 hs))
  have h2 : ((splitL l).2.flatMap leb).length ≤ 10 * (splitL l).2.length := by
    have : ∀ t : List Nat, (t.flatMap leb).length ≤ 10 * t.length := by
      intro t
      induction t with
      | nil => simp
      | cons s t ih =>
        have h4 := leb_le s
        simp only [List.flatMap_cons, List.length_append, List.length_cons] at *
        omega
    exact this _
  have h3 := leb_le (splitL l).1.length
  unfold putD
  simp only [List.length_append]
  omega
end Go.Proofs.YtfgpbnfobpfacaaGreatDoor
/- Layer 16, walked: the document's EqRow; the law's cut. -/
set_option linter.unusedVariables false
set_option linter.unusedSimpArgs false
namespace Go.Proofs.YtfgpbnfobpfacaaGreatDoor
open Go.RowKit
set_option maxRecDepth 100000 in
set_option maxHeartbeats 2000000 in
theorem eqRow_any (A B : Option Addr) (n c m d : Nat) (l1 l2 : List Cl) (w : World) (h1 : Reads w w.heap.size 3 A n (cls l1)) (h2 : Reads w w.heap.size 3 B m (cls l2)) (hn : n ≤ maxLen) :
    Calls Tryz.prog 16 #[.slice A n c, .slice B m d] w fun e w' => e = .returned (.bool (decide (l1 = l2))) ∧ Below w.heap.size w w' := by
  have H1 := Lib.hid h1
  have H2 := Lib.hid h2
  have Hl1 := Lib.hid (cls_len h1)
  have Hl2 := Lib.hid (cls_len h2)
  have hn63 : n ≤ 9223372036854775807 := by simp only [maxLen] at hn; omega
  clear h1 h2 hn
  by_cases hnm : n = m
  · subst hnm
    go_enter Tryz.func16, Tryz.ntmps16
    go_wp2
    go_loopw [5] (fun i wr => ∃ j : Nat, j ≤ n ∧ i = .int .i64 (j : Int) ∧ Hid (l1.take j = l2.take j) ∧ Hid (Below w.heap.size w wr)) (fun i _ => n - (intOf i).toNat)
    case atStart => exact ⟨0, Nat.zero_le _, rfl, Lib.hid rfl, Lib.hid (Below.refl _ _)⟩
    case round =>
      obtain ⟨j, hj, rfl, Htk, HB⟩ := hrel
      by_cases hlt : j < n
      · obtain ⟨ad, u, x, s, rfl, hbk, hx, a0, a1, a2⟩ := cls_at (H1.out.below HB.out) hlt
        obtain ⟨ad', u', x', s', rfl, hbk', hx', b0, b1, b2⟩ := cls_at (H2.out.below HB.out) hlt
        have Hx := Lib.hid hx
        have Hx' := Lib.hid hx'
        have HA0 := Lib.hid (show ∀ w', w' = wr.drew → w'.cell? (ad.add (j * 3)) = some (.bool u) from fun w' h => by rw [h]; exact a0)
        have HA1 := Lib.hid (show ∀ w', w' = wr.drew → w'.cell? ⟨(ad.add (j * 3)).block, (ad.add (j * 3)).off + 1, none⟩ = some (.int .i64 x) from fun w' h => by rw [h]; exact a1)
        have HA2 := Lib.hid (show ∀ w', w' = wr.drew → w'.cell? ⟨(ad.add (j * 3)).block, (ad.add (j * 3)).off + 2, none⟩ = some (.string s) from fun w' h => by rw [h]; exact a2)
        have HB0 := Lib.hid (show ∀ w', w' = wr.drew → w'.cell? (ad'.add (j * 3)) = some (.bool u') from fun w' h => by rw [h]; exact b0)
        have HB1 := Lib.hid (show ∀ w', w' = wr.drew → w'.cell? ⟨(ad'.add (j * 3)).block, (ad'.add (j * 3)).off + 1, none⟩ = some (.int .i64 x') from fun w' h => by rw [h]; exact b1)
        have HB2 := Lib.hid (show ∀ w', w' = wr.drew → w'.cell? ⟨(ad'.add (j * 3)).block, (ad'.add (j * 3)).off + 2, none⟩ = some (.string s') from fun w' h => by rw [h]; exact b2)
        clear hx hx' hbk hbk' a0 a1 a2 b0 b1 b2
        by_cases hc : (u, x, s) = (u', x', s')
        · simp only [Prod.mk.injEq] at hc
          obtain ⟨rfl, rfl, rfl⟩ := hc
          have Htk2 := Lib.hid (show l1.take (j + 1) = l2.take (j + 1) by rw [List.take_add_one, List.take_add_one, Hx.out, Hx'.out, Htk.out])
          go_wp2
          have hji : (j : Int) < (n : Int) := by omega
          have hS : wr.drew = wr.drew := rfl
          refine wp_region_keep (fun w' => w' = wr.drew) [(0, false), (1, false), (2, false), (3, false), (4, false), (5, false), (6, false), (7, false), (8, false)] (by kernel_rfl) (by kernel_rfl) (by kernel_rfl) (fun d _ _ _ _ h => by cases d <;> exact h) ?_
          refine held_pure (v := ?_) rfl rfl (by simp [Region.wanted, yielded]) hS ?_ ?_
          rotate_left
          · intro w hw; go_simp; try with_reducible rfl
          try simp only [Act.put, List.setIfInBounds_toArray, List.set_cons_succ, List.set_cons_zero]
          refine held_pure (v := ?_) rfl rfl (by simp [Region.wanted, yielded]) hS ?_ ?_
          rotate_left
          · intro w hw; go_simp; try with_reducible rfl
          try simp only [Act.put, List.setIfInBounds_toArray, List.set_cons_succ, List.set_cons_zero]
          refine held_pure (v := ?_) rfl rfl (by simp [Region.wanted, yielded]) hS ?_ ?_
          rotate_left
          · intro w hw; go_simp; try with_reducible rfl
          try simp only [Act.put, List.setIfInBounds_toArray, List.set_cons_succ, List.set_cons_zero]
          refine held_pure (v := ?_) rfl rfl (by simp [Region.wanted, yielded]) hS ?_ ?_
          rotate_left
          · intro w hw; have c0 := HA0.out w hw; have c1 := HA1.out w hw; have c2 := HA2.out w hw; clear hw; go_simp; try with_reducible rfl
          try simp only [Act.put, List.setIfInBounds_toArray, List.set_cons_succ, List.set_cons_zero]
          refine held_pure (v := ?_) rfl rfl (by simp [Region.wanted, yielded]) hS ?_ ?_
          rotate_left
          · intro w hw; go_simp; try with_reducible rfl
          try simp only [Act.put, List.setIfInBounds_toArray, List.set_cons_succ, List.set_cons_zero]
          refine held_pure (v := ?_) rfl rfl (by simp [Region.wanted, yielded]) hS ?_ ?_
          rotate_left
          · intro w hw; go_simp; try with_reducible rfl
          try simp only [Act.put, List.setIfInBounds_toArray, List.set_cons_succ, List.set_cons_zero]
          refine held_pure (v := ?_) rfl rfl (by simp [Region.wanted, yielded]) hS ?_ ?_
          rotate_left
          · intro w hw; go_simp; try with_reducible rfl
          try simp only [Act.put, List.setIfInBounds_toArray, List.set_cons_succ, List.set_cons_zero]
          refine held_pure (v := ?_) rfl rfl (by simp [Region.wanted, yielded]) hS ?_ ?_
          rotate_left
          · intro w hw; have c0 := HB0.out w hw; have c1 := HB1.out w hw; have c2 := HB2.out w hw; clear hw; go_simp; try with_reducible rfl
          try simp only [Act.put, List.setIfInBounds_toArray, List.set_cons_succ, List.set_cons_zero]
          refine held_pure (v := ?_) rfl rfl (by simp [Region.wanted, yielded]) hS ?_ ?_
          rotate_left
          · intro w hw; go_simp; try with_reducible rfl
          try simp only [Act.put, List.setIfInBounds_toArray, List.set_cons_succ, List.set_cons_zero]
          refine held_end ?_
          go_wp2
          go_roundw
          case rel => exact ⟨j + 1, by omega, by go_num, Htk2, Lib.hid HB.out.drew⟩
          case measure => simp [intOf]; omega
        · have Hne := Lib.hid (show decide (l1 = l2) = false from decide_eq_false (fun h => hc (by subst h; exact Option.some.inj (Hx.out.symm.trans Hx'.out))))
          have Hc := Lib.hid hc
          clear hc
          cases u with
          | false =>
            cases u' with
            | false =>
              by_cases hxx : x = x'
              · subst hxx
                have hss : ¬ s.toList = s'.toList := by
                  intro h
                  apply Hc.out
                  have : (s.toList == s'.toList) = true := by rw [h]; simp
                  rw [text_eqb2] at this
                  rw [of_decide_eq_true this]
                go_wp2
                have hji : (j : Int) < (n : Int) := by omega
                have hS : wr.drew = wr.drew := rfl
                refine wp_region_keep (fun w' => w' = wr.drew) [(0, false), (1, false), (2, false), (3, false), (4, false), (5, false), (6, false), (7, false), (8, false)] (by kernel_rfl) (by kernel_rfl) (by kernel_rfl) (fun d _ _ _ _ h => by cases d <;> exact h) ?_
                refine held_pure (v := ?_) rfl rfl (by simp [Region.wanted, yielded]) hS ?_ ?_
                rotate_left
                · intro w hw; go_simp; try with_reducible rfl
                try simp only [Act.put, List.setIfInBounds_toArray, List.set_cons_succ, List.set_cons_zero]
                refine held_pure (v := ?_) rfl rfl (by simp [Region.wanted, yielded]) hS ?_ ?_
                rotate_left
                · intro w hw; go_simp; try with_reducible rfl
                try simp only [Act.put, List.setIfInBounds_toArray, List.set_cons_succ, List.set_cons_zero]
                refine held_pure (v := ?_) rfl rfl (by simp [Region.wanted, yielded]) hS ?_ ?_
                rotate_left
                · intro w hw; go_simp; try with_reducible rfl
                try simp only [Act.put, List.setIfInBounds_toArray, List.set_cons_succ, List.set_cons_zero]
                refine held_pure (v := ?_) rfl rfl (by simp [Region.wanted, yielded]) hS ?_ ?_
                rotate_left
                · intro w hw; have c0 := HA0.out w hw; have c1 := HA1.out w hw; have c2 := HA2.out w hw; clear hw; go_simp; try with_reducible rfl
                try simp only [Act.put, List.setIfInBounds_toArray, List.set_cons_succ, List.set_cons_zero]
                refine held_pure (v := ?_) rfl rfl (by simp [Region.wanted, yielded]) hS ?_ ?_
                rotate_left
                · intro w hw; go_simp; try with_reducible rfl
                try simp only [Act.put, List.setIfInBounds_toArray, List.set_cons_succ, List.set_cons_zero]
                refine held_pure (v := ?_) rfl rfl (by simp [Region.wanted, yielded]) hS ?_ ?_
                rotate_left
                · intro w hw; go_simp; try with_reducible rfl
                try simp only [Act.put, List.setIfInBounds_toArray, List.set_cons_succ, List.set_cons_zero]
                refine held_pure (v := ?_) rfl rfl (by simp [Region.wanted, yielded]) hS ?_ ?_
                rotate_left
                · intro w hw; go_simp; try with_reducible rfl
                try simp only [Act.put, List.setIfInBounds_toArray, List.set_cons_succ, List.set_cons_zero]
                refine held_pure (v := ?_) rfl rfl (by simp [Region.wanted, yielded]) hS ?_ ?_
                rotate_left
                · intro w hw; have c0 := HB0.out w hw; have c1 := HB1.out w hw; have c2 := HB2.out w hw; clear hw; go_simp; try with_reducible rfl
                try simp only [Act.put, List.setIfInBounds_toArray, List.set_cons_succ, List.set_cons_zero]
                refine held_pure (v := ?_) rfl rfl (by simp [Region.wanted, yielded]) hS ?_ ?_
                rotate_left
                · intro w hw; go_simp; try with_reducible rfl
                try simp only [Act.put, List.setIfInBounds_toArray, List.set_cons_succ, List.set_cons_zero]
                refine held_end ?_
                go_wp2
                go_ret
                rw [Hne.out]
                exact ⟨rfl, HB.out.drew⟩
              · have hxb : (x == x') = false := by simpa using hxx
                go_wp2
                have hji : (j : Int) < (n : Int) := by omega
                have hS : wr.drew = wr.drew := rfl
                refine wp_region_keep (fun w' => w' = wr.drew) [(0, false), (1, false), (2, false), (3, false), (4, false), (5, false), (6, false), (7, false), (8, false)] (by kernel_rfl) (by kernel_rfl) (by kernel_rfl) (fun d _ _ _ _ h => by cases d <;> exact h) ?_
                refine held_pure (v := ?_) rfl rfl (by simp [Region.wanted, yielded]) hS ?_ ?_
                rotate_left
                · intro w hw; go_simp; try with_reducible rfl
                try simp only [Act.put, List.setIfInBounds_toArray, List.set_cons_succ, List.set_cons_zero]
                refine held_pure (v := ?_) rfl rfl (by simp [Region.wanted, yielded]) hS ?_ ?_
                rotate_left
                · intro w hw; go_simp; try with_reducible rfl
                try simp only [Act.put, List.setIfInBounds_toArray, List.set_cons_succ, List.set_cons_zero]
                refine held_pure (v := ?_) rfl rfl (by simp [Region.wanted, yielded]) hS ?_ ?_
                rotate_left
                · intro w hw; go_simp; try with_reducible rfl
                try simp only [Act.put, List.setIfInBounds_toArray, List.set_cons_succ, List.set_cons_zero]
                refine held_pure (v := ?_) rfl rfl (by simp [Region.wanted, yielded]) hS ?_ ?_
                rotate_left
                · intro w hw; have c0 := HA0.out w hw; have c1 := HA1.out w hw; have c2 := HA2.out w hw; clear hw; go_simp; try with_reducible rfl
                try simp only [Act.put, List.setIfInBounds_toArray, List.set_cons_succ, List.set_cons_zero]
                refine held_pure (v := ?_) rfl rfl (by simp [Region.wanted, yielded]) hS ?_ ?_
                rotate_left
                · intro w hw; go_simp; try with_reducible rfl
                try simp only [Act.put, List.setIfInBounds_toArray, List.set_cons_succ, List.set_cons_zero]
                refine held_pure (v := ?_) rfl rfl (by simp [Region.wanted, yielded]) hS ?_ ?_
                rotate_left
                · intro w hw; go_simp; try with_reducible rfl
                try simp only [Act.put, List.setIfInBounds_toArray, List.set_cons_succ, List.set_cons_zero]
                refine held_pure (v := ?_) rfl rfl (by simp [Region.wanted, yielded]) hS ?_ ?_
                rotate_left
                · intro w hw; go_simp; try with_reducible rfl
                try simp only [Act.put, List.setIfInBounds_toArray, List.set_cons_succ, List.set_cons_zero]
                refine held_pure (v := ?_) rfl rfl (by simp [Region.wanted, yielded]) hS ?_ ?_
                rotate_left
                · intro w hw; have c0 := HB0.out w hw; have c1 := HB1.out w hw; have c2 := HB2.out w hw; clear hw; go_simp; try with_reducible rfl
                try simp only [Act.put, List.setIfInBounds_toArray, List.set_cons_succ, List.set_cons_zero]
                refine held_pure (v := ?_) rfl rfl (by simp [Region.wanted, yielded]) hS ?_ ?_
                rotate_left
                · intro w hw; go_simp; try with_reducible rfl
                try simp only [Act.put, List.setIfInBounds_toArray, List.set_cons_succ, List.set_cons_zero]
                refine held_end ?_
                go_wp2
                go_ret
                rw [Hne.out]
                exact ⟨rfl, HB.out.drew⟩
            | true =>
              go_wp2
              have hji : (j : Int) < (n : Int) := by omega
              have hS : wr.drew = wr.drew := rfl
              refine wp_region_keep (fun w' => w' = wr.drew) [(0, false), (1, false), (2, false), (3, false), (4, false), (5, false), (6, false), (7, false), (8, false)] (by kernel_rfl) (by kernel_rfl) (by kernel_rfl) (fun d _ _ _ _ h => by cases d <;> exact h) ?_
              refine held_pure (v := ?_) rfl rfl (by simp [Region.wanted, yielded]) hS ?_ ?_
              rotate_left
              · intro w hw; go_simp; try with_reducible rfl
              try simp only [Act.put, List.setIfInBounds_toArray, List.set_cons_succ, List.set_cons_zero]
              refine held_pure (v := ?_) rfl rfl (by simp [Region.wanted, yielded]) hS ?_ ?_
              rotate_left
              · intro w hw; go_simp; try with_reducible rfl
              try simp only [Act.put, List.setIfInBounds_toArray, List.set_cons_succ, List.set_cons_zero]
              refine held_pure (v := ?_) rfl rfl (by simp [Region.wanted, yielded]) hS ?_ ?_
              rotate_left
              · intro w hw; go_simp; try with_reducible rfl
              try simp only [Act.put, List.setIfInBounds_toArray, List.set_cons_succ, List.set_cons_zero]
              refine held_pure (v := ?_) rfl rfl (by simp [Region.wanted, yielded]) hS ?_ ?_
              rotate_left
              · intro w hw; have c0 := HA0.out w hw; have c1 := HA1.out w hw; have c2 := HA2.out w hw; clear hw; go_simp; try with_reducible rfl
              try simp only [Act.put, List.setIfInBounds_toArray, List.set_cons_succ, List.set_cons_zero]
              refine held_pure (v := ?_) rfl rfl (by simp [Region.wanted, yielded]) hS ?_ ?_
              rotate_left
              · intro w hw; go_simp; try with_reducible rfl
              try simp only [Act.put, List.setIfInBounds_toArray, List.set_cons_succ, List.set_cons_zero]
              refine held_pure (v := ?_) rfl rfl (by simp [Region.wanted, yielded]) hS ?_ ?_
              rotate_left
              · intro w hw; go_simp; try with_reducible rfl
              try simp only [Act.put, List.setIfInBounds_toArray, List.set_cons_succ, List.set_cons_zero]
              refine held_pure (v := ?_) rfl rfl (by simp [Region.wanted, yielded]) hS ?_ ?_
              rotate_left
              · intro w hw; go_simp; try with_reducible rfl
              try simp only [Act.put, List.setIfInBounds_toArray, List.set_cons_succ, List.set_cons_zero]
              refine held_pure (v := ?_) rfl rfl (by simp [Region.wanted, yielded]) hS ?_ ?_
              rotate_left
              · intro w hw; have c0 := HB0.out w hw; have c1 := HB1.out w hw; have c2 := HB2.out w hw; clear hw; go_simp; try with_reducible rfl
              try simp only [Act.put, List.setIfInBounds_toArray, List.set_cons_succ, List.set_cons_zero]
              refine held_pure (v := ?_) rfl rfl (by simp [Region.wanted, yielded]) hS ?_ ?_
              rotate_left
              · intro w hw; go_simp; try with_reducible rfl
              try simp only [Act.put, List.setIfInBounds_toArray, List.set_cons_succ, List.set_cons_zero]
              refine held_end ?_
              go_wp2
              go_ret
              rw [Hne.out]
              exact ⟨rfl, HB.out.drew⟩
          | true =>
            cases u' with
            | false =>
              go_wp2
              have hji : (j : Int) < (n : Int) := by omega
              have hS : wr.drew = wr.drew := rfl
              refine wp_region_keep (fun w' => w' = wr.drew) [(0, false), (1, false), (2, false), (3, false), (4, false), (5, false), (6, false), (7, false), (8, false)] (by kernel_rfl) (by kernel_rfl) (by kernel_rfl) (fun d _ _ _ _ h => by cases d <;> exact h) ?_
              refine held_pure (v := ?_) rfl rfl (by simp [Region.wanted, yielded]) hS ?_ ?_
              rotate_left
              · intro w hw; go_simp; try with_reducible rfl
              try simp only [Act.put, List.setIfInBounds_toArray, List.set_cons_succ, List.set_cons_zero]
              refine held_pure (v := ?_) rfl rfl (by simp [Region.wanted, yielded]) hS ?_ ?_
              rotate_left
              · intro w hw; go_simp; try with_reducible rfl
              try simp only [Act.put, List.setIfInBounds_toArray, List.set_cons_succ, List.set_cons_zero]
              refine held_pure (v := ?_) rfl rfl (by simp [Region.wanted, yielded]) hS ?_ ?_
              rotate_left
              · intro w hw; go_simp; try with_reducible rfl
              try simp only [Act.put, List.setIfInBounds_toArray, List.set_cons_succ, List.set_cons_zero]
              refine held_pure (v := ?_) rfl rfl (by simp [Region.wanted, yielded]) hS ?_ ?_
              rotate_left
              · intro w hw; have c0 := HA0.out w hw; have c1 := HA1.out w hw; have c2 := HA2.out w hw; clear hw; go_simp; try with_reducible rfl
              try simp only [Act.put, List.setIfInBounds_toArray, List.set_cons_succ, List.set_cons_zero]
              refine held_pure (v := ?_) rfl rfl (by simp [Region.wanted, yielded]) hS ?_ ?_
              rotate_left
              · intro w hw; go_simp; try with_reducible rfl
              try simp only [Act.put, List.setIfInBounds_toArray, List.set_cons_succ, List.set_cons_zero]
              refine held_pure (v := ?_) rfl rfl (by simp [Region.wanted, yielded]) hS ?_ ?_
              rotate_left
              · intro w hw; go_simp; try with_reducible rfl
              try simp only [Act.put, List.setIfInBounds_toArray, List.set_cons_succ, List.set_cons_zero]
              refine held_pure (v := ?_) rfl rfl (by simp [Region.wanted, yielded]) hS ?_ ?_
              rotate_left
              · intro w hw; go_simp; try with_reducible rfl
              try simp only [Act.put, List.setIfInBounds_toArray, List.set_cons_succ, List.set_cons_zero]
              refine held_pure (v := ?_) rfl rfl (by simp [Region.wanted, yielded]) hS ?_ ?_
              rotate_left
              · intro w hw; have c0 := HB0.out w hw; have c1 := HB1.out w hw; have c2 := HB2.out w hw; clear hw; go_simp; try with_reducible rfl
              try simp only [Act.put, List.setIfInBounds_toArray, List.set_cons_succ, List.set_cons_zero]
              refine held_pure (v := ?_) rfl rfl (by simp [Region.wanted, yielded]) hS ?_ ?_
              rotate_left
              · intro w hw; go_simp; try with_reducible rfl
              try simp only [Act.put, List.setIfInBounds_toArray, List.set_cons_succ, List.set_cons_zero]
              refine held_end ?_
              go_wp2
              go_ret
              rw [Hne.out]
              exact ⟨rfl, HB.out.drew⟩
            | true =>
              by_cases hxx : x = x'
              · subst hxx
                have hss : ¬ s.toList = s'.toList := by
                  intro h
                  apply Hc.out
                  have : (s.toList == s'.toList) = true := by rw [h]; simp
                  rw [text_eqb2] at this
                  rw [of_decide_eq_true this]
                go_wp2
                have hji : (j : Int) < (n : Int) := by omega
                have hS : wr.drew = wr.drew := rfl
                refine wp_region_keep (fun w' => w' = wr.drew) [(0, false), (1, false), (2, false), (3, false), (4, false), (5, false), (6, false), (7, false), (8, false)] (by kernel_rfl) (by kernel_rfl) (by kernel_rfl) (fun d _ _ _ _ h => by cases d <;> exact h) ?_
                refine held_pure (v := ?_) rfl rfl (by simp [Region.wanted, yielded]) hS ?_ ?_
                rotate_left
                · intro w hw; go_simp; try with_reducible rfl
                try simp only [Act.put, List.setIfInBounds_toArray, List.set_cons_succ, List.set_cons_zero]
                refine held_pure (v := ?_) rfl rfl (by simp [Region.wanted, yielded]) hS ?_ ?_
                rotate_left
                · intro w hw; go_simp; try with_reducible rfl
                try simp only [Act.put, List.setIfInBounds_toArray, List.set_cons_succ, List.set_cons_zero]
                refine held_pure (v := ?_) rfl rfl (by simp [Region.wanted, yielded]) hS ?_ ?_
                rotate_left
                · intro w hw; go_simp; try with_reducible rfl
                try simp only [Act.put, List.setIfInBounds_toArray, List.set_cons_succ, List.set_cons_zero]
                refine held_pure (v := ?_) rfl rfl (by simp [Region.wanted, yielded]) hS ?_ ?_
                rotate_left
                · intro w hw; have c0 := HA0.out w hw; have c1 := HA1.out w hw; have c2 := HA2.out w hw; clear hw; go_simp; try with_reducible rfl
                try simp only [Act.put, List.setIfInBounds_toArray, List.set_cons_succ, List.set_cons_zero]
                refine held_pure (v := ?_) rfl rfl (by simp [Region.wanted, yielded]) hS ?_ ?_
                rotate_left
                · intro w hw; go_simp; try with_reducible rfl
                try simp only [Act.put, List.setIfInBounds_toArray, List.set_cons_succ, List.set_cons_zero]
                refine held_pure (v := ?_) rfl rfl (by simp [Region.wanted, yielded]) hS ?_ ?_
                rotate_left
                · intro w hw; go_simp; try with_reducible rfl
                try simp only [Act.put, List.setIfInBounds_toArray, List.set_cons_succ, List.set_cons_zero]
                refine held_pure (v := ?_) rfl rfl (by simp [Region.wanted, yielded]) hS ?_ ?_
                rotate_left
                · intro w hw; go_simp; try with_reducible rfl
                try simp only [Act.put, List.setIfInBounds_toArray, List.set_cons_succ, List.set_cons_zero]
                refine held_pure (v := ?_) rfl rfl (by simp [Region.wanted, yielded]) hS ?_ ?_
                rotate_left
                · intro w hw; have c0 := HB0.out w hw; have c1 := HB1.out w hw; have c2 := HB2.out w hw; clear hw; go_simp; try with_reducible rfl
                try simp only [Act.put, List.setIfInBounds_toArray, List.set_cons_succ, List.set_cons_zero]
                refine held_pure (v := ?_) rfl rfl (by simp [Region.wanted, yielded]) hS ?_ ?_
                rotate_left
                · intro w hw; go_simp; try with_reducible rfl
                try simp only [Act.put, List.setIfInBounds_toArray, List.set_cons_succ, List.set_cons_zero]
                refine held_end ?_
                go_wp2
                go_ret
                rw [Hne.out]
                exact ⟨rfl, HB.out.drew⟩
              · have hxb : (x == x') = false := by simpa using hxx
                go_wp2
                have hji : (j : Int) < (n : Int) := by omega
                have hS : wr.drew = wr.drew := rfl
                refine wp_region_keep (fun w' => w' = wr.drew) [(0, false), (1, false), (2, false), (3, false), (4, false), (5, false), (6, false), (7, false), (8, false)] (by kernel_rfl) (by kernel_rfl) (by kernel_rfl) (fun d _ _ _ _ h => by cases d <;> exact h) ?_
                refine held_pure (v := ?_) rfl rfl (by simp [Region.wanted, yielded]) hS ?_ ?_
                rotate_left
                · intro w hw; go_simp; try with_reducible rfl
                try simp only [Act.put, List.setIfInBounds_toArray, List.set_cons_succ, List.set_cons_zero]
                refine held_pure (v := ?_) rfl rfl (by simp [Region.wanted, yielded]) hS ?_ ?_
                rotate_left
                · intro w hw; go_simp; try with_reducible rfl
                try simp only [Act.put, List.setIfInBounds_toArray, List.set_cons_succ, List.set_cons_zero]
                refine held_pure (v := ?_) rfl rfl (by simp [Region.wanted, yielded]) hS ?_ ?_
                rotate_left
                · intro w hw; go_simp; try with_reducible rfl
                try simp only [Act.put, List.setIfInBounds_toArray, List.set_cons_succ, List.set_cons_zero]
                refine held_pure (v := ?_) rfl rfl (by simp [Region.wanted, yielded]) hS ?_ ?_
                rotate_left
                · intro w hw; have c0 := HA0.out w hw; have c1 := HA1.out w hw; have c2 := HA2.out w hw; clear hw; go_simp; try with_reducible rfl
                try simp only [Act.put, List.setIfInBounds_toArray, List.set_cons_succ, List.set_cons_zero]
                refine held_pure (v := ?_) rfl rfl (by simp [Region.wanted, yielded]) hS ?_ ?_
                rotate_left
                · intro w hw; go_simp; try with_reducible rfl
                try simp only [Act.put, List.setIfInBounds_toArray, List.set_cons_succ, List.set_cons_zero]
                refine held_pure (v := ?_) rfl rfl (by simp [Region.wanted, yielded]) hS ?_ ?_
                rotate_left
                · intro w hw; go_simp; try with_reducible rfl
                try simp only [Act.put, List.setIfInBounds_toArray, List.set_cons_succ, List.set_cons_zero]
                refine held_pure (v := ?_) rfl rfl (by simp [Region.wanted, yielded]) hS ?_ ?_
                rotate_left
                · intro w hw; go_simp; try with_reducible rfl
                try simp only [Act.put, List.setIfInBounds_toArray, List.set_cons_succ, List.set_cons_zero]
                refine held_pure (v := ?_) rfl rfl (by simp [Region.wanted, yielded]) hS ?_ ?_
                rotate_left
                · intro w hw; have c0 := HB0.out w hw; have c1 := HB1.out w hw; have c2 := HB2.out w hw; clear hw; go_simp; try with_reducible rfl
                try simp only [Act.put, List.setIfInBounds_toArray, List.set_cons_succ, List.set_cons_zero]
                refine held_pure (v := ?_) rfl rfl (by simp [Region.wanted, yielded]) hS ?_ ?_
                rotate_left
                · intro w hw; go_simp; try with_reducible rfl
                try simp only [Act.put, List.setIfInBounds_toArray, List.set_cons_succ, List.set_cons_zero]
                refine held_end ?_
                go_wp2
                go_ret
                rw [Hne.out]
                exact ⟨rfl, HB.out.drew⟩
      · obtain rfl : j = n := by omega
        have He := Lib.hid (show decide (l1 = l2) = true by
          have := Htk.out
          rw [List.take_of_length_le (by rw [Hl1.out]; exact Nat.le_refl _), List.take_of_length_le (by rw [Hl2.out]; exact Nat.le_refl _)] at this
          exact decide_eq_true this)
        go_wp2
        go_ret
        rw [He.out]
        exact ⟨rfl, HB.out⟩
  · have hne : (n == m) = false := by simpa using hnm
    have hne2 : ((n : Int) == (m : Int)) = false := by simp; omega
    have Hne := Lib.hid (show decide (l1 = l2) = false from decide_eq_false (fun h => hnm (by rw [← Hl1.out, ← Hl2.out, h])))
    go_enter Tryz.func16, Tryz.ntmps16
    go_wp2
    go_ret
    rw [Hne.out]
    exact ⟨rfl, Below.refl _ _⟩
end Go.Proofs.YtfgpbnfobpfacaaGreatDoor
/- Layer 16, walked: the program's Put. -/
set_option linter.unusedVariables false
set_option linter.unusedSimpArgs false
namespace Go.Proofs.YtfgpbnfobpfacaaGreatDoor
open Go.RowKit
set_option maxRecDepth 100000 in
theorem clone_any (A : Option Addr) (n c : Nat) (l : List UInt8) (w : World) (hr : Reads w w.heap.size 1 A n (u8s l)) (hn : n ≤ 35184372088832) :
    Calls Tryz.prog 25 #[.slice A n c] w fun e w' => ∃ A' c', e = .returned (.slice A' n c') ∧ n ≤ c' ∧ c' ≤ maxLen ∧ w'.ownsRow w.heap.size 5 1 (.slice A' n c') n (u8s l) ∧ Below w.heap.size w w' := by
  obtain ⟨i0, hi0, hz0, hz1, hz2⟩ := info_parts u8_info
  have hnil : ∀ W, (binOp .eql 22 (.slice A n c) (.slice none 0 0)).run Tryz.prog W = .ok (.bool A.isNone) W := fun W => Lib.run_eql_slice_nil W _ _ _ _ _ _ _ Tryz.underlying22
  cases A with
  | none =>
    have hn0 : n = 0 := by
      rcases Nat.eq_zero_or_pos n with h | h
      · exact h
      · obtain ⟨ad, h2, _⟩ := hr.2 h
        cases h2
    subst hn0
    have hl0 : l = [] := by
      have := hr.1
      cases l with
      | nil => rfl
      | cons a l => simp at this
    subst hl0
    go_enter Tryz.func25, Tryz.ntmps25
    go_wp2
    go_ret
    exact ⟨none, 0, rfl, Nat.le_refl _, by decide, World.ownsRow_nil _ _ _ _, Below.refl _ _⟩
  | some ad =>
    have hown : (w.alloc (.cells #[] 5)).ownsRow w.heap.size 5 1 (.slice (some ⟨w.heap.size, 0, none⟩) 0 0) 0 [] := (Blk.new w 5 #[]).own (Nat.le_refl _) rfl rfl (by decide)
    have hs2 : (0 + n) * 1 ≤ 70368744177664 := by omega
    have hs1 : 0 + n ≤ maxLen := by simp only [maxLen]; omega
    go_enter Tryz.func25, Tryz.ntmps25
    go_wp2_with (at_builtin
                 refine wpList_append_any _ rfl (.tmp 5) (.tmp 6) 22 rfl w.heap.size 5 i0 (.int .u8 0) 1 1 Tryz.underlying22 hi0 hz0 hz1 hz2 rfl (by decide) (some ⟨w.heap.size, 0, none⟩) 0 0 [] rfl hown (some ad) n c (u8s l) rfl (hr.al _) (u8s_one l) hs1 hs2 (by simp) ?_
                 intro A3 c3 w3 hown3 hb3 hg3 hc3 hm3)
    go_ret
    rw [Nat.zero_add] at hown3 hc3
    rw [List.nil_append] at hown3
    exact ⟨A3, c3, by first | rfl | (rw [Nat.zero_add]; rfl), hc3, hm3, hown3, ((Below.refl _ _).alloc (Nat.le_refl _) _).trans hb3⟩
/-- How a kind is written. -/
def putF (k : Int) : Nat := if k = 1 then 49 else if k = 4 then 51 else if k = 5 then 52 else 50
set_option maxRecDepth 100000 in
theorem writes_any (k : Int) (w : World) (h1 : 1 ≤ k) (h5 : k ≤ 5) : Calls Tryz.prog 28 #[.int .i64 k] w fun e w' => e = .returned (.func (.func (putF k)) #[] #[]) ∧ w = w' := by
  have hix : (Instr.index 91 (.agg #[.nilFunc, .func (.func 49) #[] #[], .func (.func 50) #[] #[], .func (.func 50) #[] #[], .func (.func 51) #[] #[], .func (.func 52) #[] #[]]) (.int .i64 k)).run Tryz.prog w = .ok (.func (.func (putF k)) #[] #[]) w := by
    rcases (show k = 1 ∨ k = 2 ∨ k = 3 ∨ k = 4 ∨ k = 5 by omega) with rfl | rfl | rfl | rfl | rfl
    all_goals kernel_rfl
  go_enter Tryz.func28, Tryz.ntmps28
  go_wp2
  go_ret
  exact ⟨rfl, rfl⟩
end Go.Proofs.YtfgpbnfobpfacaaGreatDoor
/- Layer 1, plainly: the bytes of a number that are cut off. -/
set_option linter.unusedVariables false
set_option linter.unusedSimpArgs false
namespace Go.Proofs.YtfgpbnfobpfacaaGreatDoor
theorem getL_cut : ∀ (f m i acc j : Nat), i + f = 9 → m < 128 ^ (f + 1) → (0 < i → 0 < m) → m * 128 ^ i < 18446744073709551616 → j < (lebF f m).length → getL ((lebF f m).take j) i acc = (0, 0, 3) := by
  intro f
  induction f with
  | zero =>
    intro m i acc j h1 h2 h3 h4 hj
    have : j = 0 := by simp [lebF] at hj; omega
    subst this
    rfl
  | succ f ih =>
    intro m i acc j h1 h2 h3 h4 hj
    by_cases hm : m < 128
    · rw [lebF_small _ _ hm] at hj ⊢
      have : j = 0 := by simpa using hj
      subst this
      rfl
    · rw [lebF_big _ _ (by omega)] at hj ⊢
      cases j with
      | zero => rfl
      | succ j =>
        rw [List.take_succ_cons, getL]
        have hb : (UInt8.ofNat (m % 128 + 128)).toNat = m % 128 + 128 := ofNat_toNat _ (by omega)
        rw [hb, if_neg (by omega), if_neg (by omega), if_neg (by omega)]
        refine ih (m / 128) (i + 1) _ j (by omega) ?_ (fun _ => by omega) ?_ (by simpa using hj)
        · rw [Nat.pow_succ] at h2
          omega
        · refine Nat.lt_of_le_of_lt ?_ h4
          rw [Nat.pow_succ, ← Nat.mul_assoc, Nat.mul_right_comm]
          exact Nat.mul_le_mul_right _ (Nat.div_mul_le_self _ _)
theorem get_cut (n j : Nat) (hn : n < 18446744073709551616) (hj : j < (leb n).length) : get ((leb n).take j) = (0, 0, 3) :=
  getL_cut 9 n 0 0 j rfl (by omega) (fun h => absurd h (by omega)) (by omega) hj
end Go.Proofs.YtfgpbnfobpfacaaGreatDoor
/- Layer 15, plainly: the bytes of a list that are cut off; how long texts are that are got. -/
set_option linter.unusedVariables false
set_option linter.unusedSimpArgs false
namespace Go.Proofs.YtfgpbnfobpfacaaGreatDoor
open Go.RowKit
theorem takeTexts_sizes (most : Int) : ∀ (k : Nat) (b : List UInt8) (d d' : List ByteArray) (r : List UInt8), takeTexts most k b d = .ok (d', r) → (∀ x ∈ d, (x.size : Int) ≤ most) → ∀ x ∈ d', (x.size : Int) ≤ most
  | 0, b, d, d', r, h, hd => by
    simp only [takeTexts, Except.ok.injEq, Prod.mk.injEq] at h
    exact h.1 ▸ hd
  | k + 1, b, d, d', r, h, hd => by
    rw [takeTexts] at h
    split at h
    · cases h
    · split at h
      · cases h
      · rename_i h2
        split at h
        · cases h
        · rename_i h3
          split at h
          · cases h
          · refine takeTexts_sizes most k _ _ _ _ h ?_
            intro x hx
            rcases List.mem_append.1 hx with hx | hx
            · exact hd x hx
            · obtain rfl : x = txt ((b.drop (get b).2.1).take (get b).1) := by simpa using hx
              rw [← bts_len, bts_txt, List.length_take]
              omega
theorem getDI_sizes (ys : List UInt8) (n most : Int) (t : List ByteArray) (s : Nat) (h : getDI ys n most = .ok (t, s)) : ∀ x ∈ t, (x.size : Int) ≤ most := by
  unfold getDI at h
  split at h
  · cases h
  · unfold getN at h
    rcases hd : dictL ys n.toNat most with e | ⟨d, r⟩
    · rw [hd] at h; cases h
    · rw [hd] at h
      simp only at h
      have hds : ∀ x ∈ d, (x.size : Int) ≤ most := by
        unfold dictL at hd
        split at hd
        · cases hd
        · split at hd
          · cases hd
          · exact takeTexts_sizes most _ _ _ _ _ hd (by simp)
      rcases hk : takeNums d.length n.toNat r 0 [] with e | ⟨u, ns, q⟩
      · rw [hk] at h; cases h
      · rw [hk] at h
        simp only at h
        split at h
        · cases h
        · injection h with h
          injection h with h1 h2
          subst h1
          intro x hx
          obtain ⟨j, -, hj⟩ := List.mem_filterMap.1 hx
          exact hds x (List.mem_of_getElem? hj)
theorem takeTexts_cut (most : Int) : ∀ (t d : List ByteArray) (m : Nat), (d ++ t).Nodup → (∀ s ∈ t, ((bts s).length : Int) ≤ most) → (∀ s ∈ t, (bts s).length < 18446744073709551616) → m < (t.flatMap putText).length →
    takeTexts most t.length ((t.flatMap putText).take m) d = .error 3
  | [], d, m, _, _, _, h => by simp at h
  | s :: t, d, m, hn, hm, hs, hlt => by
    have h1 := hm s (by simp)
    have h2 := hs s (by simp)
    have hp : (putText s).length = (leb (bts s).length).length + (bts s).length := by unfold putText; rw [List.length_append]
    rw [List.length_cons, takeTexts_succ]
    rcases Nat.lt_or_ge m (putText s).length with hc | hc
    · rw [List.flatMap_cons, List.take_append_of_le_length (by omega)]
      have : takeT most ((putText s).take m) = .error 3 := by
        unfold takeT
        rcases Nat.lt_or_ge m (leb (bts s).length).length with h3 | h3
        · rw [show (putText s).take m = (leb (bts s).length).take m by unfold putText; rw [List.take_append_of_le_length (by omega)], get_cut _ _ h2 h3]
          simp
        · rw [show (putText s).take m = leb (bts s).length ++ (bts s).take (m - (leb (bts s).length).length) by unfold putText; rw [List.take_append, List.take_of_length_le h3], get_leb _ h2]
          simp only
          rw [if_neg (by simp), if_neg (by omega), if_pos ?_]
          rw [List.length_append, List.length_take]
          omega
      rw [this]
    · rw [List.flatMap_cons, List.take_append, List.take_of_length_le hc]
      have hnot : s ∉ d := by
        intro h
        exact (List.nodup_append.1 hn).2.2 s h s (by simp) rfl
      have : takeT most (putText s ++ (t.flatMap putText).take (m - (putText s).length)) = .ok (s, (putText s).length) := by
        unfold takeT
        have hg : get (putText s ++ (t.flatMap putText).take (m - (putText s).length)) = ((bts s).length, (leb (bts s).length).length, 0) := by
          unfold putText
          rw [List.append_assoc]
          exact get_leb _ h2 _
        rw [hg]
        simp only
        rw [if_neg (by simp), if_neg (by omega), if_neg (by rw [List.length_append]; omega), show (putText s ++ (t.flatMap putText).take (m - (putText s).length)).drop (leb (bts s).length).length = bts s ++ (t.flatMap putText).take (m - (putText s).length) by
          unfold putText
          rw [List.append_assoc, List.drop_left], List.take_left, txt_bts, hp]
      rw [this]
      simp only
      rw [(placeL_none d s).2 hnot, if_neg (by simp), List.drop_left]
      refine takeTexts_cut most t (d ++ [s]) _ (by simpa using hn) (fun x hx => hm x (by simp [hx])) (fun x hx => hs x (by simp [hx])) ?_
      rw [List.flatMap_cons, List.length_append] at hlt
      omega
theorem takeNums_cut (m : Nat) : ∀ (ns : List Nat) (u v : Nat) (out : List Nat) (j : Nat), (∀ n ∈ ns, n < m) → m < 18446744073709551616 → usedL u ns = some v → j < (ns.flatMap leb).length →
    takeNums m ns.length ((ns.flatMap leb).take j) u out = .error 3
  | [], u, v, out, j, _, _, _, h => by simp at h
  | n :: ns, u, v, out, j, hm, hb, h, hlt => by
    have hn := hm n (by simp)
    rw [usedL] at h
    rw [List.flatMap_cons, List.length_append] at hlt
    split at h
    · cases h
    · rename_i hnu
      rw [List.length_cons, List.flatMap_cons, takeNums]
      rcases Nat.lt_or_ge j (leb n).length with hc | hc
      · rw [List.take_append_of_le_length (by omega), get_cut n j (by omega) hc]
        simp
      · rw [List.take_append, List.take_of_length_le hc, get_leb n (by omega)]
        simp only [List.drop_left]
        rw [if_neg (by simp), if_neg (by omega), takeNums_cut m ns _ v _ _ (fun x hx => hm x (by simp [hx])) hb h (by omega)]
theorem getN_cut (l : List ByteArray) (j : Nat) (most : Int) (h : l.length ≤ 1048576) (hs : ∀ s ∈ l, (s.size : Int) ≤ most) (hm : ∀ s ∈ l, s.size < 18446744073709551616) (hj : j < (putD l).length) : getN ((putD l).take j) l.length most = .error 3 := by
  obtain ⟨k1, k2, k3⟩ := splitL_used l
  have hlen := splitL_len l
  have hp : putD l = leb (splitL l).1.length ++ ((splitL l).1.flatMap putText ++ (splitL l).2.flatMap leb) := by unfold putD; rw [List.append_assoc]
  rw [hp] at hj ⊢
  rw [List.length_append, List.length_append] at hj
  rcases Nat.lt_or_ge j (leb (splitL l).1.length).length with hc | hc
  · refine getN_dict ?_
    unfold dictL
    rw [List.take_append_of_le_length (by omega), get_cut _ _ (by omega) hc]
    simp
  · rw [List.take_append, List.take_of_length_le hc]
    have hsz1 : ∀ s ∈ (splitL l).1, ((bts s).length : Int) ≤ most := fun s hs' => by rw [bts_len]; exact hs s ((split_mem l s).1 hs')
    have hsz2 : ∀ s ∈ (splitL l).1, (bts s).length < 18446744073709551616 := fun s hs' => by rw [bts_len]; exact hm s ((split_mem l s).1 hs')
    have hd : dictL (leb (splitL l).1.length ++ (((splitL l).1.flatMap putText ++ (splitL l).2.flatMap leb).take (j - (leb (splitL l).1.length).length))) l.length most = takeTexts most (splitL l).1.length (((splitL l).1.flatMap putText ++ (splitL l).2.flatMap leb).take (j - (leb (splitL l).1.length).length)) [] := by
      unfold dictL
      rw [get_leb _ (by omega)]
      simp only
      rw [if_neg (by simp), if_neg (by omega), List.drop_left]
    rcases Nat.lt_or_ge (j - (leb (splitL l).1.length).length) ((splitL l).1.flatMap putText).length with hc2 | hc2
    · refine getN_dict ?_
      rw [hd, List.take_append_of_le_length (by omega)]
      exact takeTexts_cut most _ [] _ (by simpa using k1) hsz1 hsz2 hc2
    · have hd2 : dictL (leb (splitL l).1.length ++ (((splitL l).1.flatMap putText ++ (splitL l).2.flatMap leb).take (j - (leb (splitL l).1.length).length))) l.length most = .ok ((splitL l).1, ((splitL l).2.flatMap leb).take (j - (leb (splitL l).1.length).length - ((splitL l).1.flatMap putText).length)) := by
        rw [hd, List.take_append, List.take_of_length_le hc2]
        have := takeTexts_put most (splitL l).1 [] (((splitL l).2.flatMap leb).take (j - (leb (splitL l).1.length).length - ((splitL l).1.flatMap putText).length)) (by simpa using k1) hsz1 hsz2
        rw [this, List.nil_append]
      unfold getN
      rw [hd2]
      simp only
      have := takeNums_cut (splitL l).1.length (splitL l).2 0 (splitL l).1.length [] (j - (leb (splitL l).1.length).length - ((splitL l).1.flatMap putText).length) (split_small l) (by omega) k2 (by omega)
      rw [hlen.2] at this
      rw [this]
end Go.Proofs.YtfgpbnfobpfacaaGreatDoor
