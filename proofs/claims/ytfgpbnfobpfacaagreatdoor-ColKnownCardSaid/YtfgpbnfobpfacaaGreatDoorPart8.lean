/- Part 8 of the walks, merged: each text under its own heading. Conditions: none of its own; each lemma states what it asks. -/
import Derived.Test.YtfgpbnfobpfacaaGreatDoorPart7
import Derived.Deep.RegionHeld
/- Layer 16, walked: the program's putInts, putRaws, putBools, putTexts. -/
set_option linter.unusedVariables false
set_option linter.unusedSimpArgs false
namespace Go.Proofs.YtfgpbnfobpfacaaGreatDoor
open Go.RowKit
/-- A column that is written: its block, its cells, its bytes. -/
structure ColW (w : World) (base g : Nat) (k at_ : Int) (A : Option Addr) (n c : Nat) (l : List Cl) (B : Option Addr) (m cb : Nat) (xs : List UInt8) : Prop where
  blk : Blk w g 54 #[.int .i64 k, .slice A n c, .slice B m cb, .int .i64 at_]
  far : base ≤ g
  cells : w.ownsRow base 41 3 (.slice A n c) n (cls l)
  bytes : w.ownsRow base 5 1 (.slice B m cb) m (u8s xs)
  le : m ≤ cb
  max : cb ≤ maxLen
theorem ColW.below {w w' : World} {base g : Nat} {k at_ : Int} {A : Option Addr} {n c : Nat} {l : List Cl} {B : Option Addr} {m cb : Nat} {xs : List UInt8} (h : ColW w base g k at_ A n c l B m cb xs) (hb : Below w.heap.size w w') : ColW w' base g k at_ A n c l B m cb xs :=
  ⟨h.blk.on hb, h.far, own_below h.cells hb, own_below h.bytes hb, h.le, h.max⟩
theorem ColW.store {w : World} {base g : Nat} {k at_ : Int} {A : Option Addr} {n c : Nat} {l : List Cl} {B : Option Addr} {m cb : Nat} {xs : List UInt8} (h : ColW w base g k at_ A n c l B m cb xs) {B2 : Option Addr} {m2 c2 : Nat} {ys : List UInt8}
    (ho : w.ownsRow base 5 1 (.slice B2 m2 c2) m2 (u8s ys)) (h1 : m2 ≤ c2) (h2 : c2 ≤ maxLen) : ColW (w.setCell ⟨g, 2, none⟩ (.slice B2 m2 c2)) base g k at_ A n c l B2 m2 c2 ys :=
  ⟨h.blk.set_ 2 _, h.far, own_far h.cells h.blk (by decide) 2 _, own_far ho h.blk (by decide) 2 _, h1, h2⟩
set_option maxRecDepth 100000 in
set_option maxHeartbeats 1000000 in
theorem putInts_any (base g : Nat) (k at_ : Int) (A : Option Addr) (n c : Nat) (l : List Cl) (B : Option Addr) (m cb : Nat) (xs : List UInt8) (w : World) (h : ColW w base g k at_ A n c l B m cb xs) (hok : ClOk l) (hm : m + 10 * n ≤ 1099511627776) (hs : base ≤ w.heap.size) :
    Calls Tryz.prog 50 #[.pointer (some ⟨g, 0, none⟩)] w fun e w' => e = .returned (.tuple #[]) ∧ ∃ B2 m2 c2, ColW w' base g k at_ A n c l B2 m2 c2 (xs ++ intsB l) ∧ Below base w w' := by
  have Hok := Lib.hid hok
  have Hln := Lib.hid (cls_len (Reads.of_own h.cells))
  have c0 := h.blk.cell 0
  have c1 := h.blk.cell 1
  have H := Lib.hid h
  have hgs := h.blk.lt
  clear h hok
  go_enter Tryz.func50, Tryz.ntmps50
  go_wp2
  clear c0 c1
  go_loopw [9] (fun i wr => ∃ (j m1 : Nat) (B1 : Option Addr) (c1 : Nat), j ≤ n ∧ i = .int .i64 (j : Int) ∧ m1 ≤ m + 10 * j ∧ ColW wr base g k at_ A n c l B1 m1 c1 (xs ++ intsB (l.take j)) ∧ Below base w wr) (fun i _ => n - (intOf i).toNat)
  case atStart => exact ⟨0, m, B, cb, Nat.zero_le _, rfl, by omega, by simpa [intsB] using H.out, Below.refl _ _⟩
  case round =>
    obtain ⟨j, m1, B1, c1, hj, rfl, hm1, hC, hB⟩ := hrel
    have HC := Lib.hid hC
    have HB := Lib.hid hB
    clear hC hB
    by_cases hlt : j < n
    · obtain ⟨ad, u, x, s, rfl, hbk, hx, h0, h1, h2⟩ := cls_at (Reads.of_own HC.out.cells) hlt
      have Hx := Lib.hid hx
      clear hx hbk
      go_wp2
      have HC2 := Lib.hid (HC.out.below ((Below.refl _ wr).alloc (Nat.le_refl _) (.cells #[.bool u, .int .i64 x, .string s] 41)))
      obtain ⟨W0, hW0⟩ : ∃ W0, W0 = (wr.alloc (.cells #[.bool u, .int .i64 x, .string s] 41)).drew := ⟨_, rfl⟩
      have hB2 := Lib.hid (show Below base w W0 by rw [hW0]; exact (HB.out.alloc (Nat.le_trans hs HB.out.size) (.cells #[.bool u, .int .i64 x, .string s] 41)).drew)
      have hsz := Lib.hid (show W0.heap.size = wr.heap.size + 1 by rw [hW0]; simp)
      have HC3 := Lib.hid (show ColW W0 base g k at_ (some ad) n c l B1 m1 c1 (xs ++ intsB (l.take j)) by rw [hW0]; exact ⟨HC2.out.blk, HC2.out.far, HC2.out.cells, HC2.out.bytes, HC2.out.le, HC2.out.max⟩)
      have H3 := Lib.hid (show W0.cell? ⟨wr.heap.size, 1, none⟩ = some (.int .i64 x) by rw [hW0]; exact (Blk.new wr 41 #[.bool u, .int .i64 x, .string s]).cell 1)
      have hbs := Lib.hid (Nat.le_trans hs (Nat.le_trans HB.out.size (by omega : wr.heap.size ≤ wr.heap.size + 1)))
      have hS : Below base W0 (wr.alloc (.cells #[.bool u, .int .i64 x, .string s] 41)).drew ∧ (wr.alloc (.cells #[.bool u, .int .i64 x, .string s] 41)).drew.cell? ⟨wr.heap.size, 1, none⟩ = some (.int .i64 x) := by rw [← hW0]; exact ⟨Below.refl _ _, H3.out⟩
      have Hv := Lib.hid (show ∀ w', Below base W0 w' ∧ w'.cell? ⟨wr.heap.size, 1, none⟩ = some (.int .i64 x) → w'.cell? ⟨wr.heap.size, 1, none⟩ = some (.int .i64 x) from fun w' h => h.2)
      refine wp_region_plan (fun w' => Below base W0 w' ∧ w'.cell? ⟨wr.heap.size, 1, none⟩ = some (.int .i64 x)) (.pure 0 (.pure 1 (.pure 2 (.pure 3 (.pure 5 (.pure 6 (.eff 4 (.eff 7 (.pure 8 (.pure 9 (.eff 10 .done))))))))))) (by kernel_rfl) (by kernel_rfl) (by kernel_rfl) (fun d _ _ _ _ h => by cases d <;> exact h) ?_
      rw [← hW0] at hS ⊢
      clear hW0
      refine plan_pure (v := ?_) rfl rfl (by simp [Region.wanted, yielded]) hS ?_ ?_
      rotate_left
      · intro w hw; go_simp; try with_reducible rfl
      try simp only [Act.put, List.setIfInBounds_toArray, List.set_cons_succ, List.set_cons_zero]
      refine plan_pure (v := ?_) rfl rfl (by simp [Region.wanted, yielded]) hS ?_ ?_
      rotate_left
      · intro w hw; go_simp; try with_reducible rfl
      try simp only [Act.put, List.setIfInBounds_toArray, List.set_cons_succ, List.set_cons_zero]
      refine plan_pure (v := ?_) rfl rfl (by simp [Region.wanted, yielded]) hS ?_ ?_
      rotate_left
      · intro w hw; go_simp; try with_reducible rfl
      try simp only [Act.put, List.setIfInBounds_toArray, List.set_cons_succ, List.set_cons_zero]
      refine plan_pure (v := ?_) rfl rfl (by simp [Region.wanted, yielded]) hS ?_ ?_
      rotate_left
      · intro w hw; go_simp; try with_reducible rfl
      try simp only [Act.put, List.setIfInBounds_toArray, List.set_cons_succ, List.set_cons_zero]
      refine plan_pure (v := ?_) rfl rfl (by simp [Region.wanted, yielded]) hS ?_ ?_
      rotate_left
      · intro w hw; go_simp; try with_reducible rfl
      try simp only [Act.put, List.setIfInBounds_toArray, List.set_cons_succ, List.set_cons_zero]
      refine plan_pure (v := ?_) rfl rfl (by simp [Region.wanted, yielded]) hS ?_ ?_
      rotate_left
      · intro w hw; have c0 := Hv.out w hw; clear hw; go_simp; try with_reducible rfl
      try simp only [Act.put, List.setIfInBounds_toArray, List.set_cons_succ, List.set_cons_zero]
      have c2 := HC3.out.blk.cell 2
      refine plan_eff1 rfl (by simp [Region.wanted, yielded]) fun K hK => ?_
      go_simp
      refine held_go hK (by exact hS) fun hS => ?_
      clear hK K
      try simp only [Act.put, List.setIfInBounds_toArray, List.set_cons_succ, List.set_cons_zero]
      clear c2
      refine plan_eff1 rfl (by simp [Region.wanted, yielded]) fun K hK => ?_
      go_simp
      have Hxb := Hok.out (u, x, s) (List.mem_of_getElem? Hx.out)
      with_reducible refine (putInt_any B1 m1 c1 x _ _ (Reads.of_own HC3.out.bytes) HC3.out.le HC3.out.max (by omega) Hxb.1 Hxb.2.1).mono ?_
      rintro e w3 ⟨A9, c9, rfl, q1, q2, q3, q4⟩
      have HC4 := Lib.hid (HC3.out.below q4)
      have hbw := Lib.hid (Nat.le_of_lt (Nat.lt_of_le_of_lt HC3.out.far HC3.out.blk.lt))
      have q5 := Lib.hid (own_mono q3 hbw.out)
      have hw4 : w3.cell? ⟨wr.heap.size, 1, none⟩ = some (.int .i64 x) := (q4.cell (p := ⟨wr.heap.size, 1, none⟩) (by have := hsz.out; simp; omega)).trans hS.2
      have Hw4 := Lib.hid hw4
      have Q4 := Lib.hid (q4.mono hbw.out)
      clear q3 q4 hw4 Hxb
      refine held_go hK (by exact ⟨Q4.out, Hw4.out⟩) fun hS => ?_
      clear hK K
      try simp only [Act.put, List.setIfInBounds_toArray, List.set_cons_succ, List.set_cons_zero]
      refine plan_pure (v := ?_) rfl rfl (by simp [Region.wanted, yielded]) hS ?_ ?_
      rotate_left
      · intro w hw; go_simp; try with_reducible rfl
      try simp only [Act.put, List.setIfInBounds_toArray, List.set_cons_succ, List.set_cons_zero]
      refine plan_pure (v := ?_) rfl rfl (by simp [Region.wanted, yielded]) hS ?_ ?_
      rotate_left
      · intro w hw; go_simp; try with_reducible rfl
      try simp only [Act.put, List.setIfInBounds_toArray, List.set_cons_succ, List.set_cons_zero]
      have c2 := HC4.out.blk.cell 2
      have f2 := HC4.out.blk.frozen 2
      have HC5 := Lib.hid (HC4.out.store q5.out q1 q2)
      have Q6 := Lib.hid (Q4.out.setCell (p := ⟨g, 2, none⟩) HC4.out.far (.slice A9 (m1 + (leb (zig x)).length) c9))
      have Q7 := Lib.hid (show (w3.setCell ⟨g, 2, none⟩ (.slice A9 (m1 + (leb (zig x)).length) c9)).cell? ⟨wr.heap.size, 1, none⟩ = some (.int .i64 x) from (World.cell?_setCell_other w3 _ _ _ (by intro h; injection h with h1 h2 h3; cases h2)).trans Hw4.out)
      refine plan_eff1 rfl (by simp [Region.wanted, yielded]) fun K hK => ?_
      go_simp
      clear c2 f2
      refine held_go hK (by exact ⟨Q6.out, Q7.out⟩) fun hS => ?_
      clear hK K
      try simp only [Act.put, List.setIfInBounds_toArray, List.set_cons_succ, List.set_cons_zero]
      refine plan_end ?_
      have hle := leb_le (zig x)
      rw [show (xs ++ intsB (l.take j)) ++ leb (zig x) = xs ++ intsB (l.take (j + 1)) by rw [List.take_add_one, Hx.out]; simp [intsB]] at HC5
      go_wp2
      go_roundw
      case rel => exact ⟨j + 1, _, A9, c9, by omega, by go_num, by omega, HC5.out, hB2.out.trans Q6.out⟩
      case measure => simp [intOf]; omega
    · obtain rfl : j = n := by omega
      have hmap : l.take j = l := List.take_of_length_le (by rw [Hln.out]; exact Nat.le_refl _)
      have HCe := Lib.hid (show ColW wr base g k at_ A j c l B1 m1 c1 (xs ++ intsB l) by have := HC.out; rwa [hmap] at this)
      clear hmap
      go_wp2
      go_end0
      exact ⟨rfl, B1, m1, c1, HCe.out, HB.out⟩
set_option maxRecDepth 100000 in
set_option maxHeartbeats 1000000 in
theorem putRaws_any (base g : Nat) (k at_ : Int) (A : Option Addr) (n c : Nat) (l : List Cl) (B : Option Addr) (m cb : Nat) (xs : List UInt8) (w : World) (h : ColW w base g k at_ A n c l B m cb xs) (hok : ClOk l) (hsz : ∀ c ∈ l, c.2.2.size ≤ 1024) (hm : m + 2048 * n ≤ 1099511627776) (hs : base ≤ w.heap.size) :
    Calls Tryz.prog 52 #[.pointer (some ⟨g, 0, none⟩)] w fun e w' => e = .returned (.tuple #[]) ∧ ∃ B2 m2 c2, ColW w' base g k at_ A n c l B2 m2 c2 (xs ++ rawsB l) ∧ Below base w w' := by
  have Hok := Lib.hid hok
  have Hsz := Lib.hid hsz
  obtain ⟨i0, hi0, hz0, hz1, hz2⟩ := info_parts u8_info
  have Hln := Lib.hid (cls_len (Reads.of_own h.cells))
  have c0 := h.blk.cell 0
  have c1 := h.blk.cell 1
  have H := Lib.hid h
  have hgs := h.blk.lt
  clear h hok hsz
  go_enter Tryz.func52, Tryz.ntmps52
  go_wp2
  clear c0 c1
  go_loopw [9] (fun i wr => ∃ (j m1 : Nat) (B1 : Option Addr) (c1 : Nat), j ≤ n ∧ i = .int .i64 (j : Int) ∧ m1 ≤ m + 2048 * j ∧ ColW wr base g k at_ A n c l B1 m1 c1 (xs ++ rawsB (l.take j)) ∧ Below base w wr) (fun i _ => n - (intOf i).toNat)
  case atStart => exact ⟨0, m, B, cb, Nat.zero_le _, rfl, by omega, by simpa [rawsB] using H.out, Below.refl _ _⟩
  case round =>
    obtain ⟨j, m1, B1, c1, hj, rfl, hm1, hC, hB⟩ := hrel
    have HC := Lib.hid hC
    have HB := Lib.hid hB
    clear hC hB
    by_cases hlt : j < n
    · obtain ⟨ad, u, x, s, rfl, hbk, hx, h0, h1, h2⟩ := cls_at (Reads.of_own HC.out.cells) hlt
      have Hx := Lib.hid hx
      clear hx hbk
      go_wp2
      have HC2 := Lib.hid (HC.out.below ((Below.refl _ wr).alloc (Nat.le_refl _) (.cells #[.bool u, .int .i64 x, .string s] 41)))
      obtain ⟨W0, hW0⟩ : ∃ W0, W0 = (wr.alloc (.cells #[.bool u, .int .i64 x, .string s] 41)).drew := ⟨_, rfl⟩
      have hB2 := Lib.hid (show Below base w W0 by rw [hW0]; exact (HB.out.alloc (Nat.le_trans hs HB.out.size) (.cells #[.bool u, .int .i64 x, .string s] 41)).drew)
      have hsz := Lib.hid (show W0.heap.size = wr.heap.size + 1 by rw [hW0]; simp)
      have HC3 := Lib.hid (show ColW W0 base g k at_ (some ad) n c l B1 m1 c1 (xs ++ rawsB (l.take j)) by rw [hW0]; exact ⟨HC2.out.blk, HC2.out.far, HC2.out.cells, HC2.out.bytes, HC2.out.le, HC2.out.max⟩)
      have H3 := Lib.hid (show W0.cell? ⟨wr.heap.size, 2, none⟩ = some (.string s) by rw [hW0]; exact (Blk.new wr 41 #[.bool u, .int .i64 x, .string s]).cell 2)
      have hbs := Lib.hid (Nat.le_trans hs (Nat.le_trans HB.out.size (by omega : wr.heap.size ≤ wr.heap.size + 1)))
      have Hs := Lib.hid (Hsz.out (u, x, s) (List.mem_of_getElem? Hx.out))
      have hgw := Lib.hid HC.out.blk.lt
      have Hwr := Lib.hid (show IntKind.u64.wrap (s.size : Int) = (s.size : Int) by have := Hs.out; simp [IntKind.wrap, IntKind.signed, IntKind.bits] at *; omega)
      have hS : Below base W0 (wr.alloc (.cells #[.bool u, .int .i64 x, .string s] 41)).drew ∧ (wr.alloc (.cells #[.bool u, .int .i64 x, .string s] 41)).drew.cell? ⟨wr.heap.size, 2, none⟩ = some (.string s) := by rw [← hW0]; exact ⟨Below.refl _ _, H3.out⟩
      have Hv := Lib.hid (show ∀ w', Below base W0 w' ∧ w'.cell? ⟨wr.heap.size, 2, none⟩ = some (.string s) → w'.cell? ⟨wr.heap.size, 2, none⟩ = some (.string s) from fun w' h => h.2)
      refine wp_region_plan (fun w' => Below base W0 w' ∧ w'.cell? ⟨wr.heap.size, 2, none⟩ = some (.string s)) (.pure 0 (.pure 1 (.pure 2 (.pure 3 (.pure 5 (.pure 6 (.pure 7 (.pure 8 (.pure 10 (.pure 11 (.eff 4 (.eff 9 (.eff 12 (.pure 13 (.pure 14 (.eff 15 .done)))))))))))))))) (by kernel_rfl) (by kernel_rfl) (by kernel_rfl) (fun d _ _ _ _ h => by cases d <;> exact h) ?_
      rw [← hW0] at hS ⊢
      clear hW0
      refine plan_pure (v := ?_) rfl rfl (by simp [Region.wanted, yielded]) hS ?_ ?_
      rotate_left
      · intro w hw; go_simp; try with_reducible rfl
      try simp only [Act.put, List.setIfInBounds_toArray, List.set_cons_succ, List.set_cons_zero]
      refine plan_pure (v := ?_) rfl rfl (by simp [Region.wanted, yielded]) hS ?_ ?_
      rotate_left
      · intro w hw; go_simp; try with_reducible rfl
      try simp only [Act.put, List.setIfInBounds_toArray, List.set_cons_succ, List.set_cons_zero]
      refine plan_pure (v := ?_) rfl rfl (by simp [Region.wanted, yielded]) hS ?_ ?_
      rotate_left
      · intro w hw; go_simp; try with_reducible rfl
      try simp only [Act.put, List.setIfInBounds_toArray, List.set_cons_succ, List.set_cons_zero]
      refine plan_pure (v := ?_) rfl rfl (by simp [Region.wanted, yielded]) hS ?_ ?_
      rotate_left
      · intro w hw; go_simp; try with_reducible rfl
      try simp only [Act.put, List.setIfInBounds_toArray, List.set_cons_succ, List.set_cons_zero]
      refine plan_pure (v := ?_) rfl rfl (by simp [Region.wanted, yielded]) hS ?_ ?_
      rotate_left
      · intro w hw; go_simp; try with_reducible rfl
      try simp only [Act.put, List.setIfInBounds_toArray, List.set_cons_succ, List.set_cons_zero]
      refine plan_pure (v := ?_) rfl rfl (by simp [Region.wanted, yielded]) hS ?_ ?_
      rotate_left
      · intro w hw; have c0 := Hv.out w hw; clear hw; go_simp; try with_reducible rfl
      try simp only [Act.put, List.setIfInBounds_toArray, List.set_cons_succ, List.set_cons_zero]
      refine plan_pure (v := ?_) rfl rfl (by simp [Region.wanted, yielded]) hS ?_ ?_
      rotate_left
      · intro w hw; go_simp; try with_reducible rfl
      try simp only [Act.put, List.setIfInBounds_toArray, List.set_cons_succ, List.set_cons_zero]
      refine plan_pure (v := ?_) rfl rfl (by simp [Region.wanted, yielded]) hS ?_ ?_
      rotate_left
      · intro w hw; go_simp; try with_reducible rfl
      try simp only [Act.put, List.setIfInBounds_toArray, List.set_cons_succ, List.set_cons_zero]
      rw [Hwr.out]
      refine plan_pure (v := ?_) rfl rfl (by simp [Region.wanted, yielded]) hS ?_ ?_
      rotate_left
      · intro w hw; go_simp; try with_reducible rfl
      try simp only [Act.put, List.setIfInBounds_toArray, List.set_cons_succ, List.set_cons_zero]
      refine plan_pure (v := ?_) rfl rfl (by simp [Region.wanted, yielded]) hS ?_ ?_
      rotate_left
      · intro w hw; have c0 := Hv.out w hw; clear hw; go_simp; try with_reducible rfl
      try simp only [Act.put, List.setIfInBounds_toArray, List.set_cons_succ, List.set_cons_zero]
      have c2 := HC3.out.blk.cell 2
      refine plan_eff1 rfl (by simp [Region.wanted, yielded]) fun K hK => ?_
      go_simp
      refine held_go hK (by exact hS) fun hS => ?_
      clear hK K
      try simp only [Act.put, List.setIfInBounds_toArray, List.set_cons_succ, List.set_cons_zero]
      clear c2
      refine plan_eff1 rfl (by simp [Region.wanted, yielded]) fun K hK => ?_
      go_simp
      with_reducible refine (put_any B1 m1 c1 s.size _ _ (Reads.of_own HC3.out.bytes) HC3.out.le HC3.out.max (by omega) (by have := Hs.out; simp only at this; omega)).mono ?_
      rintro e w3 ⟨A8, c8, rfl, p1, p2, p3, p4⟩
      have hbw := Lib.hid (Nat.le_of_lt (Nat.lt_of_le_of_lt HC3.out.far HC3.out.blk.lt))
      have P1 := Lib.hid p1
      have P2 := Lib.hid p2
      have P3 := Lib.hid p3
      have P4 := Lib.hid p4
      have Hw3 := Lib.hid (show w3.cell? ⟨wr.heap.size, 2, none⟩ = some (.string s) from (p4.cell (p := ⟨wr.heap.size, 2, none⟩) (by have := hsz.out; simp; omega)).trans hS.2)
      clear p1 p2 p3 p4
      refine held_go hK (by exact ⟨P4.out.mono hbw.out, Hw3.out⟩) fun hS => ?_
      clear hK K
      try simp only [Act.put, List.setIfInBounds_toArray, List.set_cons_succ, List.set_cons_zero]
      have hln := Array.length_toList (xs := s.data)
      refine plan_eff1 rfl (by simp [Region.wanted, yielded]) fun K hK => ?_
      refine wp_append_str (.tmp 22) (.tmp 24) 22 9 rfl W0.heap.size 5 i0 Tryz.underlying22 Tryz.underlying9 hi0 hz0 hz1 hz2 A8 _ c8 _ rfl P3.out s rfl (by have := leb_le s.size; have h2 := Hs.out; have h3 : s.data.toList.length = s.size := hln; simp only at h2; omega) P4.out.size ?_
      intro A9 c9 w4 q3 q4 qg q1 q2
      have q4 := P4.out.trans q4
      have HC4 := Lib.hid (HC3.out.below q4)
      have q5 := Lib.hid (own_mono q3 hbw.out)
      have hw4 : w4.cell? ⟨wr.heap.size, 2, none⟩ = some (.string s) := (q4.cell (p := ⟨wr.heap.size, 2, none⟩) (by have := hsz.out; simp; omega)).trans H3.out
      have Hw4 := Lib.hid hw4
      have Q4 := Lib.hid (q4.mono hbw.out)
      clear q3 q4 hw4 qg
      refine held_go hK (by exact ⟨Q4.out, Hw4.out⟩) fun hS => ?_
      clear hK K
      try simp only [Act.put, List.setIfInBounds_toArray, List.set_cons_succ, List.set_cons_zero]
      refine plan_pure (v := ?_) rfl rfl (by simp [Region.wanted, yielded]) hS ?_ ?_
      rotate_left
      · intro w hw; go_simp; try with_reducible rfl
      try simp only [Act.put, List.setIfInBounds_toArray, List.set_cons_succ, List.set_cons_zero]
      refine plan_pure (v := ?_) rfl rfl (by simp [Region.wanted, yielded]) hS ?_ ?_
      rotate_left
      · intro w hw; go_simp; try with_reducible rfl
      try simp only [Act.put, List.setIfInBounds_toArray, List.set_cons_succ, List.set_cons_zero]
      have c2 := HC4.out.blk.cell 2
      have f2 := HC4.out.blk.frozen 2
      have HC5 := Lib.hid (HC4.out.store q5.out q1 q2)
      have Q6 := Lib.hid (Q4.out.setCell (p := ⟨g, 2, none⟩) HC4.out.far (.slice A9 (m1 + (leb s.size).length + s.data.toList.length) c9))
      have Q7 := Lib.hid (show (w4.setCell ⟨g, 2, none⟩ (.slice A9 (m1 + (leb s.size).length + s.data.toList.length) c9)).cell? ⟨wr.heap.size, 2, none⟩ = some (.string s) from (World.cell?_setCell_other w4 _ _ _ (by intro h; injection h with h1 h2 h3; have := hgw.out; omega)).trans Hw4.out)
      refine plan_eff1 rfl (by simp [Region.wanted, yielded]) fun K hK => ?_
      go_simp
      clear c2 f2
      refine held_go hK (by exact ⟨Q6.out, Q7.out⟩) fun hS => ?_
      clear hK K
      try simp only [Act.put, List.setIfInBounds_toArray, List.set_cons_succ, List.set_cons_zero]
      refine plan_end ?_
      have hle := leb_le s.size
      have h2 := Hs.out
      have h3 : s.data.toList.length = s.size := hln
      simp only at h2
      rw [show ((xs ++ rawsB (l.take j)) ++ leb s.size) ++ s.data.toList = xs ++ rawsB (l.take (j + 1)) by rw [List.take_add_one, Hx.out]; simp [rawsB]] at HC5
      go_wp2
      go_roundw
      case rel => exact ⟨j + 1, _, A9, c9, by omega, by go_num, by omega, HC5.out, hB2.out.trans Q6.out⟩
      case measure => simp [intOf]; omega
    · obtain rfl : j = n := by omega
      have hmap : l.take j = l := List.take_of_length_le (by rw [Hln.out]; exact Nat.le_refl _)
      have HCe := Lib.hid (show ColW wr base g k at_ A j c l B1 m1 c1 (xs ++ rawsB l) by have := HC.out; rwa [hmap] at this)
      clear hmap
      go_wp2
      go_end0
      exact ⟨rfl, B1, m1, c1, HCe.out, HB.out⟩
theorem ColW.grow {w w' : World} {base g : Nat} {k at_ : Int} {A : Option Addr} {n c : Nat} {l : List Cl} {B : Option Addr} {m cb : Nat} {xs : List UInt8} (h : ColW w base g k at_ A n c l B m cb xs) (hg : w.grownBy w' (Value.slice B m cb).ownBlock) :
    Blk w' g 54 #[.int .i64 k, .slice A n c, .slice B m cb, .int .i64 at_] ∧ w'.ownsRow base 41 3 (.slice A n c) n (cls l) :=
  ⟨h.blk.apart h.bytes (by decide) hg, own_apart h.cells h.bytes (by decide) hg⟩
set_option maxRecDepth 100000 in
set_option maxHeartbeats 2000000 in
theorem putBools_any (base g : Nat) (k at_ : Int) (A : Option Addr) (n c : Nat) (l : List Cl) (B : Option Addr) (m cb : Nat) (xs : List UInt8) (w : World) (h : ColW w base g k at_ A n c l B m cb xs) (hm : m + n ≤ 1099511627776) :
    Calls Tryz.prog 49 #[.pointer (some ⟨g, 0, none⟩)] w fun e w' => e = .returned (.tuple #[]) ∧ ∃ B2 m2 c2, ColW w' base g k at_ A n c l B2 m2 c2 (xs ++ packL (l.map fun c => c.2.1 == 1)) ∧ Below base w w' := by
  obtain ⟨i0, hi0, hz0, hz1, hz2⟩ := info_parts u8_info
  have Hln := Lib.hid (cls_len (Reads.of_own h.cells))
  have hpl : (packL (l.map fun c => c.2.1 == 1)).length ≤ n := by rw [packL_length, List.length_map, Hln.out]; simp only [need]; omega
  have Hn := Lib.hid (show n ≤ 1099511627776 by omega)
  have H := Lib.hid h
  have HC := Lib.hid (show ColW w.drew base g k at_ A n c l B m cb xs from ⟨h.blk, h.far, h.cells, h.bytes, h.le, h.max⟩)
  have hS : Below base w w.drew ∧ w.drew.cell? ⟨g, 1, none⟩ = some (.slice A n c) := ⟨(Below.refl _ _).drew, h.blk.cell 1⟩
  have Hv := Lib.hid (show ∀ w', Below base w w' ∧ w'.cell? ⟨g, 1, none⟩ = some (.slice A n c) → w'.cell? ⟨g, 1, none⟩ = some (.slice A n c) from fun w' h => h.2)
  clear h
  go_enter Tryz.func49, Tryz.ntmps49
  go_wp2
  refine wp_region_plan (fun w' => Below base w w' ∧ w'.cell? ⟨g, 1, none⟩ = some (.slice A n c)) (.pure 0 (.pure 1 (.pure 2 (.pure 3 (.pure 5 (.pure 6 (.pure 7 (.pure 8 (.fork 4 9 (.eff 9 (.eff 10 (.eff 11 (.pure 12 (.pure 13 (.eff 14 .done)))))) (.fork 4 10 (.eff 10 (.eff 11 (.pure 12 (.pure 13 (.eff 14 .done))))) (.eff 4 (.eff 11 (.pure 12 (.pure 13 (.eff 14 .done))))))))))))))) (by kernel_rfl) (by kernel_rfl) (by kernel_rfl) (fun d _ _ _ _ h => by cases d <;> exact h) ?_
  refine plan_pure (v := ?_) rfl rfl (by simp [Region.wanted, yielded]) hS ?_ ?_
  rotate_left
  · intro w hw; go_simp; try with_reducible rfl
  try simp only [Act.put, List.setIfInBounds_toArray, List.set_cons_succ, List.set_cons_zero]
  refine plan_pure (v := ?_) rfl rfl (by simp [Region.wanted, yielded]) hS ?_ ?_
  rotate_left
  · intro w hw; go_simp; try with_reducible rfl
  try simp only [Act.put, List.setIfInBounds_toArray, List.set_cons_succ, List.set_cons_zero]
  refine plan_pure (v := ?_) rfl rfl (by simp [Region.wanted, yielded]) hS ?_ ?_
  rotate_left
  · intro w hw; go_simp; try with_reducible rfl
  try simp only [Act.put, List.setIfInBounds_toArray, List.set_cons_succ, List.set_cons_zero]
  refine plan_pure (v := ?_) rfl rfl (by simp [Region.wanted, yielded]) hS ?_ ?_
  rotate_left
  · intro w hw; go_simp; try with_reducible rfl
  try simp only [Act.put, List.setIfInBounds_toArray, List.set_cons_succ, List.set_cons_zero]
  refine plan_pure (v := ?_) rfl rfl (by simp [Region.wanted, yielded]) hS ?_ ?_
  rotate_left
  · intro w hw; go_simp; try with_reducible rfl
  try simp only [Act.put, List.setIfInBounds_toArray, List.set_cons_succ, List.set_cons_zero]
  refine plan_pure (v := ?_) rfl rfl (by simp [Region.wanted, yielded]) hS ?_ ?_
  rotate_left
  · intro w hw; go_simp; try with_reducible rfl
  try simp only [Act.put, List.setIfInBounds_toArray, List.set_cons_succ, List.set_cons_zero]
  refine plan_pure (v := ?_) rfl rfl (by simp [Region.wanted, yielded]) hS ?_ ?_
  rotate_left
  · intro w hw; go_simp; try with_reducible rfl
  try simp only [Act.put, List.setIfInBounds_toArray, List.set_cons_succ, List.set_cons_zero]
  refine plan_pure (v := ?_) rfl rfl (by simp [Region.wanted, yielded]) hS ?_ ?_
  rotate_left
  · intro w hw; have c0 := Hv.out w hw; clear hw; go_simp; try with_reducible rfl
  try simp only [Act.put, List.setIfInBounds_toArray, List.set_cons_succ, List.set_cons_zero]
  refine plan_fork ?_ ?_
  · have c2 := HC.out.blk.cell 2
    refine plan_eff1 rfl (by simp [Region.wanted, yielded]) fun K hK => ?_
    go_simp
    refine held_go hK (by exact hS) fun hS => ?_
    clear hK K
    try simp only [Act.put, List.setIfInBounds_toArray, List.set_cons_succ, List.set_cons_zero]
    clear c2
    refine plan_eff1 rfl (by simp [Region.wanted, yielded]) fun K hK => ?_
    go_simp
    with_reducible refine (mapOnes A n c l _ (Reads.of_own HC.out.cells) Hn.out).mono ?_
    rintro e w1 ⟨A1, c1, rfl, q1, q2, q3, q4⟩
    have M1 := Lib.hid q1
    have M2 := Lib.hid q2
    have M3 := Lib.hid q3
    have HC := Lib.hid (HC.out.below q4)
    have hT := Lib.hid (hS.1.trans (q4.mono (Nat.le_trans (Nat.le_of_lt (Nat.lt_of_le_of_lt H.out.far H.out.blk.lt)) hS.1.size)))
    clear q1 q2 q3 q4
    refine held_go hK (by exact ⟨hT.out, HC.out.blk.cell 1⟩) fun hS => ?_
    clear hK K
    try simp only [Act.put, List.setIfInBounds_toArray, List.set_cons_succ, List.set_cons_zero]
    clear hT
    refine plan_eff1 rfl (by simp [Region.wanted, yielded]) fun K hK => ?_
    go_simp
    with_reducible refine (mpack_any A1 n c1 _ _ (Reads.of_own M3.out) M1.out M2.out Hn.out).mono ?_
    rintro e w2 ⟨A2, c2, rfl, q1, q2, q3, q4⟩
    have N1 := Lib.hid q1
    have N3 := Lib.hid q3
    have HC := Lib.hid (HC.out.below q4)
    have hT := Lib.hid (hS.1.trans (q4.mono (Nat.le_trans (Nat.le_of_lt (Nat.lt_of_le_of_lt H.out.far H.out.blk.lt)) hS.1.size)))
    clear q1 q3 q4 q2
    refine held_go hK (by exact ⟨hT.out, HC.out.blk.cell 1⟩) fun hS => ?_
    clear hK K
    try simp only [Act.put, List.setIfInBounds_toArray, List.set_cons_succ, List.set_cons_zero]
    clear hT
    refine plan_eff1 rfl (by simp [Region.wanted, yielded]) fun K hK => ?_
    refine wp_append_any _ (.tmp 6) (.tmp 12) 22 rfl base 5 i0 (.int .u8 0) 1 1 Tryz.underlying22 hi0 hz0 hz1 hz2 rfl (by decide) B m cb _ rfl HC.out.bytes A2 _ c2 _ rfl (Reads.of_own N3.out) (u8s_one _) (by simp only [maxLen]; omega) (by omega) (Nat.le_trans (Nat.le_of_lt (Nat.lt_of_le_of_lt H.out.far H.out.blk.lt)) hS.1.size) ?_
    intro A9 c9 w9 r1 r2 r3 r4 r5
    obtain ⟨b1, b2⟩ := HC.out.grow r3
    have B1 := Lib.hid b1
    have B2 := Lib.hid b2
    have R1 := Lib.hid r1
    have hT := Lib.hid (hS.1.trans r2)
    clear b1 b2 r1 r2 r3
    refine held_go hK (by exact ⟨hT.out, B1.out.cell 1⟩) fun hS => ?_
    clear hK K
    try simp only [Act.put, List.setIfInBounds_toArray, List.set_cons_succ, List.set_cons_zero]
    refine plan_pure (v := ?_) rfl rfl (by simp [Region.wanted, yielded]) hS ?_ ?_
    rotate_left
    · intro w hw; go_simp; try with_reducible rfl
    try simp only [Act.put, List.setIfInBounds_toArray, List.set_cons_succ, List.set_cons_zero]
    refine plan_pure (v := ?_) rfl rfl (by simp [Region.wanted, yielded]) hS ?_ ?_
    rotate_left
    · intro w hw; go_simp; try with_reducible rfl
    try simp only [Act.put, List.setIfInBounds_toArray, List.set_cons_succ, List.set_cons_zero]
    have c2 := B1.out.cell 2
    have f2 := B1.out.frozen 2
    refine plan_eff1 rfl (by simp [Region.wanted, yielded]) fun K hK => ?_
    go_simp
    clear c2 f2
    refine held_go hK (by exact ⟨hT.out.setCell (p := ⟨g, 2, none⟩) H.out.far _, (B1.out.set_ 2 _).cell 1⟩) fun hS => ?_
    clear hK K
    try simp only [Act.put, List.setIfInBounds_toArray, List.set_cons_succ, List.set_cons_zero]
    refine plan_end ?_
    rw [← u8s_append] at R1
    go_wp2
    go_end0
    exact ⟨rfl, A9, _, c9, ⟨B1.out.set_ 2 _, H.out.far, own_far B2.out B1.out (by decide) 2 _, own_far R1.out B1.out (by decide) 2 _, r4, r5⟩, hS.1⟩
  · refine plan_eff1 rfl (by simp [Region.wanted, yielded]) fun K hK => ?_
    go_simp
    with_reducible refine (mapOnes A n c l _ (Reads.of_own HC.out.cells) Hn.out).mono ?_
    rintro e w1 ⟨A1, c1, rfl, q1, q2, q3, q4⟩
    have M1 := Lib.hid q1
    have M2 := Lib.hid q2
    have M3 := Lib.hid q3
    have HC := Lib.hid (HC.out.below q4)
    have hT := Lib.hid (hS.1.trans (q4.mono (Nat.le_trans (Nat.le_of_lt (Nat.lt_of_le_of_lt H.out.far H.out.blk.lt)) hS.1.size)))
    clear q1 q2 q3 q4
    refine held_go hK (by exact ⟨hT.out, HC.out.blk.cell 1⟩) fun hS => ?_
    clear hK K
    try simp only [Act.put, List.setIfInBounds_toArray, List.set_cons_succ, List.set_cons_zero]
    clear hT
    refine plan_fork ?_ ?_
    · have c2 := HC.out.blk.cell 2
      refine plan_eff1 rfl (by simp [Region.wanted, yielded]) fun K hK => ?_
      go_simp
      refine held_go hK (by exact hS) fun hS => ?_
      clear hK K
      try simp only [Act.put, List.setIfInBounds_toArray, List.set_cons_succ, List.set_cons_zero]
      clear c2
      refine plan_eff1 rfl (by simp [Region.wanted, yielded]) fun K hK => ?_
      go_simp
      with_reducible refine (mpack_any A1 n c1 _ _ (Reads.of_own M3.out) M1.out M2.out Hn.out).mono ?_
      rintro e w2 ⟨A2, c2, rfl, q1, q2, q3, q4⟩
      have N1 := Lib.hid q1
      have N3 := Lib.hid q3
      have HC := Lib.hid (HC.out.below q4)
      have hT := Lib.hid (hS.1.trans (q4.mono (Nat.le_trans (Nat.le_of_lt (Nat.lt_of_le_of_lt H.out.far H.out.blk.lt)) hS.1.size)))
      clear q1 q3 q4 q2
      refine held_go hK (by exact ⟨hT.out, HC.out.blk.cell 1⟩) fun hS => ?_
      clear hK K
      try simp only [Act.put, List.setIfInBounds_toArray, List.set_cons_succ, List.set_cons_zero]
      clear hT
      refine plan_eff1 rfl (by simp [Region.wanted, yielded]) fun K hK => ?_
      refine wp_append_any _ (.tmp 6) (.tmp 12) 22 rfl base 5 i0 (.int .u8 0) 1 1 Tryz.underlying22 hi0 hz0 hz1 hz2 rfl (by decide) B m cb _ rfl HC.out.bytes A2 _ c2 _ rfl (Reads.of_own N3.out) (u8s_one _) (by simp only [maxLen]; omega) (by omega) (Nat.le_trans (Nat.le_of_lt (Nat.lt_of_le_of_lt H.out.far H.out.blk.lt)) hS.1.size) ?_
      intro A9 c9 w9 r1 r2 r3 r4 r5
      obtain ⟨b1, b2⟩ := HC.out.grow r3
      have B1 := Lib.hid b1
      have B2 := Lib.hid b2
      have R1 := Lib.hid r1
      have hT := Lib.hid (hS.1.trans r2)
      clear b1 b2 r1 r2 r3
      refine held_go hK (by exact ⟨hT.out, B1.out.cell 1⟩) fun hS => ?_
      clear hK K
      try simp only [Act.put, List.setIfInBounds_toArray, List.set_cons_succ, List.set_cons_zero]
      refine plan_pure (v := ?_) rfl rfl (by simp [Region.wanted, yielded]) hS ?_ ?_
      rotate_left
      · intro w hw; go_simp; try with_reducible rfl
      try simp only [Act.put, List.setIfInBounds_toArray, List.set_cons_succ, List.set_cons_zero]
      refine plan_pure (v := ?_) rfl rfl (by simp [Region.wanted, yielded]) hS ?_ ?_
      rotate_left
      · intro w hw; go_simp; try with_reducible rfl
      try simp only [Act.put, List.setIfInBounds_toArray, List.set_cons_succ, List.set_cons_zero]
      have c2 := B1.out.cell 2
      have f2 := B1.out.frozen 2
      refine plan_eff1 rfl (by simp [Region.wanted, yielded]) fun K hK => ?_
      go_simp
      clear c2 f2
      refine held_go hK (by exact ⟨hT.out.setCell (p := ⟨g, 2, none⟩) H.out.far _, (B1.out.set_ 2 _).cell 1⟩) fun hS => ?_
      clear hK K
      try simp only [Act.put, List.setIfInBounds_toArray, List.set_cons_succ, List.set_cons_zero]
      refine plan_end ?_
      rw [← u8s_append] at R1
      go_wp2
      go_end0
      exact ⟨rfl, A9, _, c9, ⟨B1.out.set_ 2 _, H.out.far, own_far B2.out B1.out (by decide) 2 _, own_far R1.out B1.out (by decide) 2 _, r4, r5⟩, hS.1⟩
    · refine plan_eff1 rfl (by simp [Region.wanted, yielded]) fun K hK => ?_
      go_simp
      with_reducible refine (mpack_any A1 n c1 _ _ (Reads.of_own M3.out) M1.out M2.out Hn.out).mono ?_
      rintro e w2 ⟨A2, c2, rfl, q1, q2, q3, q4⟩
      have N1 := Lib.hid q1
      have N3 := Lib.hid q3
      have HC := Lib.hid (HC.out.below q4)
      have hT := Lib.hid (hS.1.trans (q4.mono (Nat.le_trans (Nat.le_of_lt (Nat.lt_of_le_of_lt H.out.far H.out.blk.lt)) hS.1.size)))
      clear q1 q3 q4 q2
      refine held_go hK (by exact ⟨hT.out, HC.out.blk.cell 1⟩) fun hS => ?_
      clear hK K
      try simp only [Act.put, List.setIfInBounds_toArray, List.set_cons_succ, List.set_cons_zero]
      clear hT
      have c2 := HC.out.blk.cell 2
      refine plan_eff1 rfl (by simp [Region.wanted, yielded]) fun K hK => ?_
      go_simp
      refine held_go hK (by exact hS) fun hS => ?_
      clear hK K
      try simp only [Act.put, List.setIfInBounds_toArray, List.set_cons_succ, List.set_cons_zero]
      clear c2
      refine plan_eff1 rfl (by simp [Region.wanted, yielded]) fun K hK => ?_
      refine wp_append_any _ (.tmp 6) (.tmp 12) 22 rfl base 5 i0 (.int .u8 0) 1 1 Tryz.underlying22 hi0 hz0 hz1 hz2 rfl (by decide) B m cb _ rfl HC.out.bytes A2 _ c2 _ rfl (Reads.of_own N3.out) (u8s_one _) (by simp only [maxLen]; omega) (by omega) (Nat.le_trans (Nat.le_of_lt (Nat.lt_of_le_of_lt H.out.far H.out.blk.lt)) hS.1.size) ?_
      intro A9 c9 w9 r1 r2 r3 r4 r5
      obtain ⟨b1, b2⟩ := HC.out.grow r3
      have B1 := Lib.hid b1
      have B2 := Lib.hid b2
      have R1 := Lib.hid r1
      have hT := Lib.hid (hS.1.trans r2)
      clear b1 b2 r1 r2 r3
      refine held_go hK (by exact ⟨hT.out, B1.out.cell 1⟩) fun hS => ?_
      clear hK K
      try simp only [Act.put, List.setIfInBounds_toArray, List.set_cons_succ, List.set_cons_zero]
      refine plan_pure (v := ?_) rfl rfl (by simp [Region.wanted, yielded]) hS ?_ ?_
      rotate_left
      · intro w hw; go_simp; try with_reducible rfl
      try simp only [Act.put, List.setIfInBounds_toArray, List.set_cons_succ, List.set_cons_zero]
      refine plan_pure (v := ?_) rfl rfl (by simp [Region.wanted, yielded]) hS ?_ ?_
      rotate_left
      · intro w hw; go_simp; try with_reducible rfl
      try simp only [Act.put, List.setIfInBounds_toArray, List.set_cons_succ, List.set_cons_zero]
      have c2 := B1.out.cell 2
      have f2 := B1.out.frozen 2
      refine plan_eff1 rfl (by simp [Region.wanted, yielded]) fun K hK => ?_
      go_simp
      clear c2 f2
      refine held_go hK (by exact ⟨hT.out.setCell (p := ⟨g, 2, none⟩) H.out.far _, (B1.out.set_ 2 _).cell 1⟩) fun hS => ?_
      clear hK K
      try simp only [Act.put, List.setIfInBounds_toArray, List.set_cons_succ, List.set_cons_zero]
      refine plan_end ?_
      rw [← u8s_append] at R1
      go_wp2
      go_end0
      exact ⟨rfl, A9, _, c9, ⟨B1.out.set_ 2 _, H.out.far, own_far B2.out B1.out (by decide) 2 _, own_far R1.out B1.out (by decide) 2 _, r4, r5⟩, hS.1⟩
set_option maxRecDepth 100000 in
set_option maxHeartbeats 2000000 in
theorem putTexts_any (base g : Nat) (k at_ : Int) (A : Option Addr) (n c : Nat) (l : List Cl) (B : Option Addr) (m cb : Nat) (xs : List UInt8) (w : World) (h : ColW w base g k at_ A n c l B m cb xs) (hn : n ≤ 1099511627776) (hok : ClOk l)
    (htot : (xs ++ putD (l.map fun c => c.2.2)).length ≤ 1099511627776) :
    Calls Tryz.prog 51 #[.pointer (some ⟨g, 0, none⟩)] w fun e w' => e = .returned (.tuple #[]) ∧ ∃ B2 m2 c2, ColW w' base g k at_ A n c l B2 m2 c2 (xs ++ putD (l.map fun c => c.2.2)) ∧ Below base w w' := by
  have Hn := Lib.hid hn
  have Hsz2 := Lib.hid (show ∀ s ∈ l.map (fun c => c.2.2), s.size ≤ maxLen by
    intro s hs
    obtain ⟨c, hc, rfl⟩ := List.mem_map.1 hs
    exact (hok c hc).2.2)
  have H := Lib.hid h
  have HC := Lib.hid (show ColW w.drew base g k at_ A n c l B m cb xs from ⟨h.blk, h.far, h.cells, h.bytes, h.le, h.max⟩)
  have hS : Below base w w.drew ∧ w.drew.cell? ⟨g, 1, none⟩ = some (.slice A n c) := ⟨(Below.refl _ _).drew, h.blk.cell 1⟩
  have Hv := Lib.hid (show ∀ w', Below base w w' ∧ w'.cell? ⟨g, 1, none⟩ = some (.slice A n c) → w'.cell? ⟨g, 1, none⟩ = some (.slice A n c) from fun w' h => h.2)
  clear h hn hok
  go_enter Tryz.func51, Tryz.ntmps51
  go_wp2
  refine wp_region_plan (fun w' => Below base w w' ∧ w'.cell? ⟨g, 1, none⟩ = some (.slice A n c)) (.pure 0 (.pure 1 (.pure 2 (.pure 3 (.pure 5 (.pure 6 (.pure 7 (.pure 8 (.fork 4 9 (.eff 9 (.eff 10 (.pure 11 (.pure 12 (.eff 13 .done))))) (.eff 4 (.eff 10 (.pure 11 (.pure 12 (.eff 13 .done)))))))))))))) (by kernel_rfl) (by kernel_rfl) (by kernel_rfl) (fun d _ _ _ _ h => by cases d <;> exact h) ?_
  refine plan_pure (v := ?_) rfl rfl (by simp [Region.wanted, yielded]) hS ?_ ?_
  rotate_left
  · intro w hw; go_simp; try with_reducible rfl
  try simp only [Act.put, List.setIfInBounds_toArray, List.set_cons_succ, List.set_cons_zero]
  refine plan_pure (v := ?_) rfl rfl (by simp [Region.wanted, yielded]) hS ?_ ?_
  rotate_left
  · intro w hw; go_simp; try with_reducible rfl
  try simp only [Act.put, List.setIfInBounds_toArray, List.set_cons_succ, List.set_cons_zero]
  refine plan_pure (v := ?_) rfl rfl (by simp [Region.wanted, yielded]) hS ?_ ?_
  rotate_left
  · intro w hw; go_simp; try with_reducible rfl
  try simp only [Act.put, List.setIfInBounds_toArray, List.set_cons_succ, List.set_cons_zero]
  refine plan_pure (v := ?_) rfl rfl (by simp [Region.wanted, yielded]) hS ?_ ?_
  rotate_left
  · intro w hw; go_simp; try with_reducible rfl
  try simp only [Act.put, List.setIfInBounds_toArray, List.set_cons_succ, List.set_cons_zero]
  refine plan_pure (v := ?_) rfl rfl (by simp [Region.wanted, yielded]) hS ?_ ?_
  rotate_left
  · intro w hw; go_simp; try with_reducible rfl
  try simp only [Act.put, List.setIfInBounds_toArray, List.set_cons_succ, List.set_cons_zero]
  refine plan_pure (v := ?_) rfl rfl (by simp [Region.wanted, yielded]) hS ?_ ?_
  rotate_left
  · intro w hw; go_simp; try with_reducible rfl
  try simp only [Act.put, List.setIfInBounds_toArray, List.set_cons_succ, List.set_cons_zero]
  refine plan_pure (v := ?_) rfl rfl (by simp [Region.wanted, yielded]) hS ?_ ?_
  rotate_left
  · intro w hw; go_simp; try with_reducible rfl
  try simp only [Act.put, List.setIfInBounds_toArray, List.set_cons_succ, List.set_cons_zero]
  refine plan_pure (v := ?_) rfl rfl (by simp [Region.wanted, yielded]) hS ?_ ?_
  rotate_left
  · intro w hw; have c0 := Hv.out w hw; clear hw; go_simp; try with_reducible rfl
  try simp only [Act.put, List.setIfInBounds_toArray, List.set_cons_succ, List.set_cons_zero]
  refine plan_fork ?_ ?_
  · have c2 := HC.out.blk.cell 2
    refine plan_eff1 rfl (by simp [Region.wanted, yielded]) fun K hK => ?_
    go_simp
    refine held_go hK (by exact hS) fun hS => ?_
    clear hK K
    try simp only [Act.put, List.setIfInBounds_toArray, List.set_cons_succ, List.set_cons_zero]
    clear c2
    refine plan_eff1 rfl (by simp [Region.wanted, yielded]) fun K hK => ?_
    go_simp
    with_reducible refine (mapTexts A n c l _ (Reads.of_own HC.out.cells) Hn.out).mono ?_
    rintro e w1 ⟨A1, c1, rfl, q1, q2, q3, q4⟩
    have M1 := Lib.hid q1
    have M2 := Lib.hid q2
    have M3 := Lib.hid q3
    have HC := Lib.hid (HC.out.below q4)
    have hT := Lib.hid (hS.1.trans (q4.mono (Nat.le_trans (Nat.le_of_lt (Nat.lt_of_le_of_lt H.out.far H.out.blk.lt)) hS.1.size)))
    clear q1 q2 q3 q4
    refine held_go hK (by exact ⟨hT.out, HC.out.blk.cell 1⟩) fun hS => ?_
    clear hK K
    try simp only [Act.put, List.setIfInBounds_toArray, List.set_cons_succ, List.set_cons_zero]
    clear hT
    refine plan_eff1 rfl (by simp [Region.wanted, yielded]) fun K hK => ?_
    go_simp
    with_reducible refine (dput_any B m cb xs A1 n c1 _ _ (Reads.of_own HC.out.bytes) HC.out.le HC.out.max (Reads.of_own M3.out) Hn.out Hsz2.out htot).mono ?_
    rintro e w9 ⟨A9, c9, rfl, r1, r2, r3, r4⟩
    generalize (xs ++ putD (l.map fun c => c.2.2)).length = N at r1 r3 ⊢
    have HC := Lib.hid (HC.out.below r4)
    have hlow := Nat.le_trans (Nat.le_of_lt (Nat.lt_of_le_of_lt H.out.far H.out.blk.lt)) hS.1.size
    have R1 := Lib.hid (own_mono r3 hlow)
    have hT := Lib.hid (hS.1.trans (r4.mono hlow))
    clear r3 r4 hlow
    refine held_go hK (by exact ⟨hT.out, HC.out.blk.cell 1⟩) fun hS => ?_
    clear hK K
    try simp only [Act.put, List.setIfInBounds_toArray, List.set_cons_succ, List.set_cons_zero]
    refine plan_pure (v := ?_) rfl rfl (by simp [Region.wanted, yielded]) hS ?_ ?_
    rotate_left
    · intro w hw; go_simp; try with_reducible rfl
    try simp only [Act.put, List.setIfInBounds_toArray, List.set_cons_succ, List.set_cons_zero]
    refine plan_pure (v := ?_) rfl rfl (by simp [Region.wanted, yielded]) hS ?_ ?_
    rotate_left
    · intro w hw; go_simp; try with_reducible rfl
    try simp only [Act.put, List.setIfInBounds_toArray, List.set_cons_succ, List.set_cons_zero]
    have c2 := HC.out.blk.cell 2
    have f2 := HC.out.blk.frozen 2
    refine plan_eff1 rfl (by simp [Region.wanted, yielded]) fun K hK => ?_
    go_simp
    clear c2 f2
    refine held_go hK (by exact ⟨hT.out.setCell (p := ⟨g, 2, none⟩) H.out.far _, (HC.out.blk.set_ 2 _).cell 1⟩) fun hS => ?_
    clear hK K
    try simp only [Act.put, List.setIfInBounds_toArray, List.set_cons_succ, List.set_cons_zero]
    refine plan_end ?_
    go_wp2
    go_end0
    exact ⟨rfl, A9, _, c9, HC.out.store R1.out r1 r2, hS.1⟩
  · refine plan_eff1 rfl (by simp [Region.wanted, yielded]) fun K hK => ?_
    go_simp
    with_reducible refine (mapTexts A n c l _ (Reads.of_own HC.out.cells) Hn.out).mono ?_
    rintro e w1 ⟨A1, c1, rfl, q1, q2, q3, q4⟩
    have M1 := Lib.hid q1
    have M2 := Lib.hid q2
    have M3 := Lib.hid q3
    have HC := Lib.hid (HC.out.below q4)
    have hT := Lib.hid (hS.1.trans (q4.mono (Nat.le_trans (Nat.le_of_lt (Nat.lt_of_le_of_lt H.out.far H.out.blk.lt)) hS.1.size)))
    clear q1 q2 q3 q4
    refine held_go hK (by exact ⟨hT.out, HC.out.blk.cell 1⟩) fun hS => ?_
    clear hK K
    try simp only [Act.put, List.setIfInBounds_toArray, List.set_cons_succ, List.set_cons_zero]
    clear hT
    have c2 := HC.out.blk.cell 2
    refine plan_eff1 rfl (by simp [Region.wanted, yielded]) fun K hK => ?_
    go_simp
    refine held_go hK (by exact hS) fun hS => ?_
    clear hK K
    try simp only [Act.put, List.setIfInBounds_toArray, List.set_cons_succ, List.set_cons_zero]
    clear c2
    refine plan_eff1 rfl (by simp [Region.wanted, yielded]) fun K hK => ?_
    go_simp
    with_reducible refine (dput_any B m cb xs A1 n c1 _ _ (Reads.of_own HC.out.bytes) HC.out.le HC.out.max (Reads.of_own M3.out) Hn.out Hsz2.out htot).mono ?_
    rintro e w9 ⟨A9, c9, rfl, r1, r2, r3, r4⟩
    generalize (xs ++ putD (l.map fun c => c.2.2)).length = N at r1 r3 ⊢
    have HC := Lib.hid (HC.out.below r4)
    have hlow := Nat.le_trans (Nat.le_of_lt (Nat.lt_of_le_of_lt H.out.far H.out.blk.lt)) hS.1.size
    have R1 := Lib.hid (own_mono r3 hlow)
    have hT := Lib.hid (hS.1.trans (r4.mono hlow))
    clear r3 r4 hlow
    refine held_go hK (by exact ⟨hT.out, HC.out.blk.cell 1⟩) fun hS => ?_
    clear hK K
    try simp only [Act.put, List.setIfInBounds_toArray, List.set_cons_succ, List.set_cons_zero]
    refine plan_pure (v := ?_) rfl rfl (by simp [Region.wanted, yielded]) hS ?_ ?_
    rotate_left
    · intro w hw; go_simp; try with_reducible rfl
    try simp only [Act.put, List.setIfInBounds_toArray, List.set_cons_succ, List.set_cons_zero]
    refine plan_pure (v := ?_) rfl rfl (by simp [Region.wanted, yielded]) hS ?_ ?_
    rotate_left
    · intro w hw; go_simp; try with_reducible rfl
    try simp only [Act.put, List.setIfInBounds_toArray, List.set_cons_succ, List.set_cons_zero]
    have c2 := HC.out.blk.cell 2
    have f2 := HC.out.blk.frozen 2
    refine plan_eff1 rfl (by simp [Region.wanted, yielded]) fun K hK => ?_
    go_simp
    clear c2 f2
    refine held_go hK (by exact ⟨hT.out.setCell (p := ⟨g, 2, none⟩) H.out.far _, (HC.out.blk.set_ 2 _).cell 1⟩) fun hS => ?_
    clear hK K
    try simp only [Act.put, List.setIfInBounds_toArray, List.set_cons_succ, List.set_cons_zero]
    refine plan_end ?_
    go_wp2
    go_end0
    exact ⟨rfl, A9, _, c9, HC.out.store R1.out r1 r2, hS.1⟩
end Go.Proofs.YtfgpbnfobpfacaaGreatDoor
/- Layer 15, walked: a book's text and end. -/
set_option linter.unusedVariables false
set_option linter.unusedSimpArgs false
namespace Go.Proofs.YtfgpbnfobpfacaaGreatDoor
open Go.RowKit
abbrev Book (w : World) (g : Nat) (A : Option Addr) (m c : Nat) (u : Nat) : Prop := Blk w g 172 #[.slice A m c, .int .i64 (u : Int)]
theorem u64_small (x : Int) (h0 : 0 ≤ x) (h1 : x < 18446744073709551616) : x % 18446744073709551616 = x := Int.emod_eq_of_lt h0 h1

set_option maxRecDepth 100000 in
set_option maxHeartbeats 400000 in
theorem btext_no (g : Nat) (A : Option Addr) (m c u : Nat) (y : Int) (w : World) (hb : Book w g A m c u) (hm : m ≤ maxLen) (hu : u ≤ m) (h : (u : Int) < y ∨ (m : Int) ≤ y) :
    Calls Tryz.prog 126 #[.pointer (some ⟨g, 0, none⟩), .int .u64 y] w fun e w' => e = .returned (.tuple #[.string ⟨#[]⟩, .int .i64 150]) ∧ w = w' := by
  have c0 := hb.cell 0
  have c1 := hb.cell 1
  unfold maxLen at hm
  by_cases h1 : (u : Int) < y
  · go_enter Tryz.func126, Tryz.ntmps126
    go_wp2
    go_ret2
    exact ⟨rfl, rfl⟩
  · have h2 : (m : Int) ≤ y := by omega
    go_enter Tryz.func126, Tryz.ntmps126
    go_wp2
    go_ret2
    exact ⟨rfl, rfl⟩
set_option maxRecDepth 100000 in
set_option maxHeartbeats 400000 in
theorem btext_yes (g : Nat) (A : Option Addr) (m c u n : Nat) (d : List ByteArray) (s : ByteArray) (w : World) (hb : Book w g A m c u) (hr : Reads w w.heap.size 1 A m (txs d)) (hm : m ≤ maxLen) (hu : u ≤ m) (h1 : n ≤ u) (h2 : n < m) (hs : d[n]? = some s) (hg : ∀ ad, A = some ad → ad.block ≠ g) :
    Calls Tryz.prog 126 #[.pointer (some ⟨g, 0, none⟩), .int .u64 (n : Int)] w fun e w' => e = .returned (.tuple #[.string s, .int .i64 0]) ∧ w' = if n = u then w.setCell ⟨g, 1, none⟩ (.int .i64 ((u + 1 : Nat) : Int)) else w := by
  have c0 := hb.cell 0
  have c1 := hb.cell 1
  have f1 := hb.frozen 1
  have hbs := hb.set_ 1 (.int .i64 ((u : Int) + 1))
  have c0' := hbs.cell 0
  obtain ⟨ad, v, rfl, hbk, hx, hcell⟩ := hr.at_ h2
  obtain ⟨s', hs', rfl⟩ := txs_get _ _ _ hx
  obtain rfl : s' = s := by rw [hs] at hs'; exact (Option.some.inj hs').symm
  clear hx hs' hs
  unfold maxLen at hm
  have h3 : ¬ (u : Int) < (n : Int) := by omega
  by_cases he : n = u
  · subst he
    have hne : ad.block ≠ g := hg ad rfl
    have hcell' : (w.setCell ⟨g, 1, none⟩ (.int .i64 ((n : Int) + 1))).cell? (ad.add n) = some (.string s') := by
      rw [World.cell?_setCell_far _ _ _ _ (by rw [block_of_add]; exact hne.symm)]; exact hcell
    clear hg
    go_enter Tryz.func126, Tryz.ntmps126
    go_wp2
    go_ret2
    exact ⟨rfl, by simp⟩
  · have H : ((n : Int) == (u : Int)) = false := by simp; omega
    clear hg
    go_enter Tryz.func126, Tryz.ntmps126
    go_wp2
    go_ret2
    exact ⟨rfl, rfl⟩
set_option maxRecDepth 100000 in
set_option maxHeartbeats 400000 in
theorem bend_any (g : Nat) (A : Option Addr) (m c u : Nat) (w : World) (hb : Book w g A m c u) (hm : m ≤ maxLen) (hu : u ≤ m) :
    Calls Tryz.prog 127 #[.pointer (some ⟨g, 0, none⟩)] w fun e w' => e = .returned (.int .i64 (if u < m then 150 else 0)) ∧ Below w.heap.size w w' := by
  have c0 := hb.cell 0
  have c1 := hb.cell 1
  by_cases h : u < m
  · have db : decide (u < m) = true := by simp; omega
    have hB := Below.refl w.heap.size w
    go_enter Tryz.func127, Tryz.ntmps127
    go_wp2
    go_region
    all_goals
      go_wp2
      go_ret
      exact ⟨rfl, hB.drew⟩
  · have db : decide (u < m) = false := by simp; omega
    have hB := Below.refl w.heap.size w
    go_enter Tryz.func127, Tryz.ntmps127
    go_wp2
    go_region
    all_goals
      go_wp2
      go_ret
      exact ⟨rfl, hB.drew⟩
end Go.Proofs.YtfgpbnfobpfacaaGreatDoor
/- Layer 15, walked: a cutter's number and text. -/
set_option linter.unusedVariables false
set_option linter.unusedSimpArgs false
namespace Go.Proofs.YtfgpbnfobpfacaaGreatDoor
open Go.RowKit
theorem grown_set (w : World) (g i : Nat) (u : Value) : w.grownBy (w.setCell ⟨g, i, none⟩ u) (some g) :=
  ⟨rfl, rfl, rfl, by simp [World.setCell], fun k hk hne => Below.heap_setCell w ⟨g, i, none⟩ u k (by intro e; exact hne (by rw [e]))⟩
theorem grown_refl (w : World) (r : Option Nat) : w.grownBy w r := ⟨rfl, rfl, rfl, Nat.le_refl _, fun _ _ _ => rfl⟩
theorem grown_drew (w : World) (r : Option Nat) : w.grownBy w.drew r := ⟨rfl, rfl, rfl, Nat.le_refl _, fun _ _ _ => rfl⟩
/-- A cutter: bytes, a place, an error. -/
abbrev Cut (w : World) (g : Nat) (A : Option Addr) (l c : Nat) (at' : Nat) (e : Nat) : Prop := Blk w g 145 #[.slice A l c, .int .i64 (at' : Int), .int .i64 (e : Int)]
theorem get_size (xs : List UInt8) : (get xs).2.1 ≤ xs.length ∧ (get xs).2.2 < 11 ∧ ((get xs).2.2 ≠ 0 → (get xs).1 = 0 ∧ (get xs).2.1 = 0) := by
  rcases get_only xs with ⟨n, h, h1, h2, h3⟩ | ⟨e, h, h1, h2⟩
  · rw [h]
    exact ⟨h2, show 0 < 11 from by decide, fun h => absurd rfl h⟩
  · rw [h]
    exact ⟨Nat.zero_le _, h2, fun _ => ⟨rfl, rfl⟩⟩
theorem own_grown {w w' : World} {base size n g : Nat} {e t : TypeId} {v : Value} {xs : List Value} {cs : Array Value} (h : w.ownsRow base e size v n xs) (hb : Blk w g t cs) (hne : e ≠ t) (hg : w.grownBy w' (some g)) : w'.ownsRow base e size v n xs := by
  refine h.kept hg ?_
  rcases h.2 with ⟨rfl, h0⟩ | ⟨g2, cap, cur, rfl, h1, h2, h3⟩
  · exact .inl rfl
  · right
    simp only [Value.ownBlock, ne_eq, Option.some.injEq]
    rintro rfl
    unfold Blk at hb
    rw [h2] at hb
    injection hb with hb
    injection hb with _ h4
    exact hne h4
theorem Blk.other {w w' : World} {g g2 : Nat} {t : TypeId} {cs : Array Value} (h : Blk w g t cs) (hg : w.grownBy w' (some g2)) (hne : g ≠ g2) : Blk w' g t cs :=
  (hg.block g h.lt (by simpa using hne)).trans h
theorem Blk.ne {w : World} {g g2 : Nat} {t t2 : TypeId} {cs cs2 : Array Value} (h : Blk w g t cs) (h2 : Blk w g2 t2 cs2) (hne : t ≠ t2) : g ≠ g2 := by
  rintro rfl
  unfold Blk at h h2
  rw [h] at h2
  injection h2 with h2
  injection h2 with _ h4
  exact hne h4
theorem Below.by_ {w w' : World} {B g : Nat} (hg : w.grownBy w' (some g)) (hB : B ≤ w.heap.size) (h : B ≤ g) : Below B w w' :=
  (Below.refl _ _).grown hg hB (fun k hk => by cases hk; exact h)

set_option maxRecDepth 100000 in
set_option maxHeartbeats 400000 in
theorem cnum_err (g : Nat) (A : Option Addr) (l c at' e : Nat) (w : World) (hb : Cut w g A l c at' e) (he : e ≠ 0) :
    Calls Tryz.prog 125 #[.pointer (some ⟨g, 0, none⟩)] w fun e' w' => e' = .returned (.int .u64 0) ∧ w = w' := by
  have c2 := hb.cell 2
  have hn : ((e : Int) == 0) = false := by simp; omega
  have hn2 : ((e : Int) != 0) = true := by simp; omega
  clear hb he
  go_enter Tryz.func125, Tryz.ntmps125
  go_wp2
  go_ret
  exact ⟨rfl, rfl⟩
/-- A number was taken. -/
def Taken (g : Nat) (A : Option Addr) (l c at' : Nat) (r : Nat × Nat × Nat) (w : World) (e : Ending) (w' : World) : Prop :=
  e = .returned (.int .u64 (r.1 : Int)) ∧ Cut w' g A l c (at' + r.2.1) r.2.2 ∧ w.grownBy w' (some g)
set_option maxRecDepth 100000 in
set_option maxHeartbeats 1000000 in
theorem cnum_any (g : Nat) (A : Option Addr) (l c at' : Nat) (xs : List UInt8) (w : World) (hb : Cut w g A l c at' 0) (hr : Reads w w.heap.size 1 A l (u8s xs)) (hl : l ≤ c) (hc : c ≤ maxLen) (hat : at' ≤ l) :
    Calls Tryz.prog 125 #[.pointer (some ⟨g, 0, none⟩)] w (Taken g A l c at' (get (xs.drop at')) w) := by
  have c0 := hb.cell 0
  have c1 := hb.cell 1
  have c2 := hb.cell 2
  have f1 := hb.frozen 1
  have f2 := hb.frozen 2
  have hcut := hr.cut (k := at') (cap := c) hat hl
  rw [Nat.mul_one, u8s_drop] at hcut
  have hrl := reads_len hr
  have hgs := get_size (xs.drop at')
  rw [List.length_drop, hrl] at hgs
  unfold maxLen at hc
  have hL0 : ∀ w', w' = w.drew → w'.cell? ⟨g, 0, none⟩ = some (.slice A l c) := fun w' h => by rw [h]; exact c0
  have hL1 : ∀ w', w' = w.drew → w'.cell? ⟨g, 1, none⟩ = some (.int .i64 (at' : Int)) := fun w' h => by rw [h]; exact c1
  have HL0 := Lib.hid hL0
  have HL1 := Lib.hid hL1
  obtain ⟨hg1, hg2, -⟩ := hgs
  have Hb := Lib.hid hb
  clear hL0 hL1 hrl hb
  have hac : at' ≤ c := by omega
  go_enter Tryz.func125, Tryz.ntmps125
  go_wp2
  have hS : w.drew = w.drew := rfl
  refine wp_region_keep (fun w' => w' = w.drew) [(0, false), (1, false), (2, false), (3, false), (4, false), (5, false), (6, false), (7, false), (8, false), (9, true), (10, false), (11, false), (12, false), (13, false), (14, false), (15, false), (16, false)] (by kernel_rfl) (by kernel_rfl) (by kernel_rfl) (fun d _ _ _ _ h => by cases d <;> exact h) ?_
  refine held_pure (v := ?_) rfl rfl (by simp [Region.wanted, yielded]) hS ?_ ?_
  rotate_left
  · intro w hw; go_simp; try with_reducible rfl
  try simp only [Act.put, List.setIfInBounds_toArray, List.set_cons_succ, List.set_cons_zero]
  refine held_pure (v := ?_) rfl rfl (by simp [Region.wanted, yielded]) hS ?_ ?_
  rotate_left
  · intro w hw; go_simp; try with_reducible rfl
  try simp only [Act.put, List.setIfInBounds_toArray, List.set_cons_succ, List.set_cons_zero]
  refine held_pure (v := ?_) rfl rfl (by simp [Region.wanted, yielded]) hS ?_ ?_
  rotate_left
  · intro w hw; go_simp; try with_reducible rfl
  try simp only [Act.put, List.setIfInBounds_toArray, List.set_cons_succ, List.set_cons_zero]
  refine held_pure (v := ?_) rfl rfl (by simp [Region.wanted, yielded]) hS ?_ ?_
  rotate_left
  · intro w hw; have c0 := HL0.out w hw; clear hw; go_simp; try with_reducible rfl
  try simp only [Act.put, List.setIfInBounds_toArray, List.set_cons_succ, List.set_cons_zero]
  refine held_pure (v := ?_) rfl rfl (by simp [Region.wanted, yielded]) hS ?_ ?_
  rotate_left
  · intro w hw; go_simp; try with_reducible rfl
  try simp only [Act.put, List.setIfInBounds_toArray, List.set_cons_succ, List.set_cons_zero]
  refine held_pure (v := ?_) rfl rfl (by simp [Region.wanted, yielded]) hS ?_ ?_
  rotate_left
  · intro w hw; go_simp; try with_reducible rfl
  try simp only [Act.put, List.setIfInBounds_toArray, List.set_cons_succ, List.set_cons_zero]
  refine held_pure (v := ?_) rfl rfl (by simp [Region.wanted, yielded]) hS ?_ ?_
  rotate_left
  · intro w hw; go_simp; try with_reducible rfl
  try simp only [Act.put, List.setIfInBounds_toArray, List.set_cons_succ, List.set_cons_zero]
  refine held_pure (v := ?_) rfl rfl (by simp [Region.wanted, yielded]) hS ?_ ?_
  rotate_left
  · intro w hw; have c0 := HL1.out w hw; clear hw; go_simp; try with_reducible rfl
  try simp only [Act.put, List.setIfInBounds_toArray, List.set_cons_succ, List.set_cons_zero]
  refine held_pure (v := ?_) rfl rfl (by simp [Region.wanted, yielded]) hS ?_ ?_
  rotate_left
  · intro w hw; go_simp; try with_reducible rfl
  try simp only [Act.put, List.setIfInBounds_toArray, List.set_cons_succ, List.set_cons_zero]
  refine held_eff1 rfl (by simp [Region.wanted, yielded]) fun K hK => ?_
  go_simp
  generalize (if c = at' then A else Option.map (fun x => x.add at') A) = A' at hcut ⊢
  with_reducible refine (get_any _ _ _ (xs.drop at') _ hcut.drew (by omega) (by simp only [maxLen]; omega)).mono ?_
  rintro e w3 ⟨rfl, rfl⟩
  generalize hget : get (xs.drop at') = r at hg1 hg2 ⊢
  obtain ⟨rn, rk, re⟩ := r
  have Hget := Lib.hid hget
  clear hget
  simp only [gotten] at hg1 hg2 ⊢
  refine held_go hK (by exact rfl) fun hS => ?_
  clear hK K
  try simp only [Act.put, List.setIfInBounds_toArray, List.set_cons_succ, List.set_cons_zero]
  refine held_pure (v := ?_) rfl rfl (by simp [Region.wanted, yielded]) hS ?_ ?_
  rotate_left
  · intro w hw; go_simp; try with_reducible rfl
  try simp only [Act.put, List.setIfInBounds_toArray, List.set_cons_succ, List.set_cons_zero]
  refine held_pure (v := ?_) rfl rfl (by simp [Region.wanted, yielded]) hS ?_ ?_
  rotate_left
  · intro w hw; go_simp; try with_reducible rfl
  try simp only [Act.put, List.setIfInBounds_toArray, List.set_cons_succ, List.set_cons_zero]
  refine held_pure (v := ?_) rfl rfl (by simp [Region.wanted, yielded]) hS ?_ ?_
  rotate_left
  · intro w hw; go_simp; try with_reducible rfl
  try simp only [Act.put, List.setIfInBounds_toArray, List.set_cons_succ, List.set_cons_zero]
  refine held_pure (v := ?_) rfl rfl (by simp [Region.wanted, yielded]) hS ?_ ?_
  rotate_left
  · intro w hw; go_simp; try with_reducible rfl
  try simp only [Act.put, List.setIfInBounds_toArray, List.set_cons_succ, List.set_cons_zero]
  refine held_pure (v := ?_) rfl rfl (by simp [Region.wanted, yielded]) hS ?_ ?_
  rotate_left
  · intro w hw; go_simp; try with_reducible rfl
  try simp only [Act.put, List.setIfInBounds_toArray, List.set_cons_succ, List.set_cons_zero]
  refine held_pure (v := ?_) rfl rfl (by simp [Region.wanted, yielded]) hS ?_ ?_
  rotate_left
  · intro w hw; go_simp; try with_reducible rfl
  try simp only [Act.put, List.setIfInBounds_toArray, List.set_cons_succ, List.set_cons_zero]
  refine held_pure (v := ?_) rfl rfl (by simp [Region.wanted, yielded]) hS ?_ ?_
  rotate_left
  · intro w hw; go_simp; try with_reducible rfl
  try simp only [Act.put, List.setIfInBounds_toArray, List.set_cons_succ, List.set_cons_zero]
  refine held_end ?_
  clear hS
  go_wp2
  go_ret
  rw [Hget.out]
  have hb2 := (Hb.out.set_ 1 (.int .i64 ((at' : Int) + (rk : Int)))).set_ 2 (.int .i64 (re : Int))
  refine ⟨rfl, ?_, ?_⟩
  · have e : ((at' + rk : Nat) : Int) = (at' : Int) + (rk : Int) := by omega
    simp only [e]
    exact hb2.drew
  · exact (grown_drew w _).trans ((grown_set w.drew g 1 _).trans (grown_set _ g 2 _))
end Go.Proofs.YtfgpbnfobpfacaaGreatDoor
