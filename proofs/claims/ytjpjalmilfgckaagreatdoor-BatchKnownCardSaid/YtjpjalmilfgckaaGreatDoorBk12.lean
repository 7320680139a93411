/- Part 12 of the walks, merged: each text under its own heading. Conditions: none of its own; each lemma states what it asks. -/
import Derived.Test.YtjpjalmilfgckaaGreatDoorBk8
import Derived.Test.YtjpjalmilfgckaaGreatDoorBk10
import Derived.Test.YtjpjalmilfgckaaGreatDoorBk11
set_option linter.unusedVariables false
set_option linter.unusedSimpArgs false
namespace Go.Proofs.YtjpjalmilfgckaaGreatDoor
open Go.RowKit
theorem putF_any (base g : Nat) (k at_ : Int) (A : Option Addr) (n c : Nat) (l : List Cl) (B : Option Addr) (m cb : Nat) (xs : List UInt8) (w : World) (h1 : 1 ≤ k) (h5 : k ≤ 5) (h : ColW w base g k at_ A n c l B m cb xs) (hok : ClOk l) (hsz : ∀ c ∈ l, c.2.2.size ≤ 1024) (hm : m + 2048 * n ≤ 1099511627776) (hs : base ≤ w.heap.size)
  (htot : (xs ++ putD (l.map fun c => c.2.2)).length ≤ 1099511627776) :
  Calls Tryz.prog (putF k) #[.pointer (some ⟨g, 0, none⟩)] w fun e w' => e = .returned (.tuple #[]) ∧ ∃ B2 m2 c2, ColW w' base g k at_ A n c l B2 m2 c2 (xs ++ bareB k l) ∧ Below base w w' := by
 rcases (show k = 1 ∨ k = 2 ∨ k = 3 ∨ k = 4 ∨ k = 5 by omega) with rfl | rfl | rfl | rfl | rfl
 ·exact putBools_any base g 1 at_ A n c l B m cb xs w h (by omega)
 ·exact putInts_any base g 2 at_ A n c l B m cb xs w h hok (by omega) hs
 ·exact putInts_any base g 3 at_ A n c l B m cb xs w h hok (by omega) hs
 ·exact putTexts_any base g 4 at_ A n c l B m cb xs w h (by omega) hok htot
 ·exact putRaws_any base g 5 at_ A n c l B m cb xs w h hok hsz hm hs
theorem putF_in (k : Int) (h1 : 1 ≤ k) (h5 : k ≤ 5) (args : Array Value) (w : World) : (callFunc (putF k) args).run Tryz.prog w = .ok (.enter (putF k) args) w := by
 rcases (show k = 1 ∨ k = 2 ∨ k = 3 ∨ k = 4 ∨ k = 5 by omega) with rfl | rfl | rfl | rfl | rfl
 ·exact callFunc_in Tryz.func163 (by kernel_rfl) (by kernel_rfl) args w
 ·exact callFunc_in Tryz.func164 (by kernel_rfl) (by kernel_rfl) args w
 ·exact callFunc_in Tryz.func164 (by kernel_rfl) (by kernel_rfl) args w
 ·exact callFunc_in Tryz.func165 (by kernel_rfl) (by kernel_rfl) args w
 ·exact callFunc_in Tryz.func166 (by kernel_rfl) (by kernel_rfl) args w
theorem check_any3 (k : Int) (nl u : Bool) (x : Int) (s : ByteArray) (w : World) (hT : Tabs w) : Calls Tryz.prog 105 #[.agg #[.int .i64 k, .bool nl], .agg #[.bool u, .int .i64 x, .string s]] w fun e w' => e = .returned (.int .i64 (checkE k nl (u, x, s))) ∧ Below w.heap.size w w' := check_any k nl (u, x, s) w hT
theorem checkE_two (k : Int) (nl : Bool) (c : Cl) (hk : mayK k = true) : checkE k nl c = 0 ∨ checkE k nl c = 90 := by
 unfold checkE
 rw [if_pos hk]
 generalize (if c.1 = true then nl && decide (c.2.1 = 0 ∧ c.2.2 = ⟨#[]⟩) else isC k c) = I
 cases I
 ·exact .inr rfl
 ·exact .inl rfl
theorem allC_step {k : Int} {nl : Bool} {l : List Cl} {j : Nat} {c : Cl} (h : allC k nl (l.take j) = true) (hc : l[j]? = some c) (h0 : checkE k nl c = 0) : allC k nl (l.take (j + 1)) = true := by
 unfold allC at *
 rw [List.take_add_one, hc]
 simp [h0] at *
 exact h
theorem allC_bad {k : Int} {nl : Bool} {l : List Cl} {j : Nat} {c : Cl} (hc : l[j]? = some c) (h0 : checkE k nl c = 90) : allC k nl l = false := by
 unfold allC
 rw [List.all_eq_false]
 exact ⟨c, List.mem_of_getElem? hc, by simp [h0]⟩
theorem someC_step {l : List Cl} {j : Nat} {c : Cl} (hc : l[j]? = some c) : someC (l.take (j + 1)) = if c.1 = true then someC (l.take j) else someC (l.take j) ++ [c] := by
 unfold someC
 rw [List.take_add_one, hc]
 cases h : c.1 <;> simp [h]
theorem size_of_ok {k : Int} {c : Cl} (h1 : 1 ≤ k) (h5 : k ≤ 5) (h : isC k c = true) : c.2.2.size ≤ 1024 := by
 rcases (show k = 1 ∨ k = 2 ∨ k = 3 ∨ k = 4 ∨ k = 5 by omega) with rfl | rfl | rfl | rfl | rfl
 ·simp [isC] at h; rw [h.1]; decide
 ·simp [isC] at h; rw [h.1]; decide
 ·simp [isC] at h; rw [h.1]; decide
 ·simp [isC, sizeC] at h; exact h.1.2
 ·simp [isC, sizeC] at h; exact h.2
theorem some_sizes {k : Int} {nl : Bool} {l : List Cl} (hk : mayK k = true) (h : allC k nl l = true) : ∀ c ∈ someC l, c.2.2.size ≤ 1024 := by
 obtain ⟨h1, h5⟩ : 1 ≤ k ∧ k ≤ 5 := by simpa [mayK] using hk
 intro c hc
 obtain ⟨hm, hu⟩ := List.mem_filter.1 hc
 have hu : c.1 = false := by simpa using hu
 unfold allC at h
 have := List.all_eq_true.1 h c hm
 simp only [checkE, hk, if_true, hu, Bool.false_eq_true, if_false, beq_iff_eq] at this
 by_cases hi : isC k c = true
 ·exact size_of_ok h1 h5 hi
 ·simp [hi] at this
theorem packL_le (l : List Bool) : (packL l).length ≤ l.length := by rw [packL_length]; unfold need; omega
set_option maxRecDepth 100000 in
set_option maxHeartbeats 4000000 in
theorem cput_any (A : Option Addr) (n c : Nat) (xs : List UInt8) (k : Int) (nl : Bool) (B : Option Addr) (m cB : Nat) (l : List Cl) (w : World) (hr : Reads w w.heap.size 1 A n (u8s xs)) (hn : n ≤ 274877906944)
  (hr2 : Reads w w.heap.size 3 B m (cls l)) (hm : m ≤ 1048576) (hok : ClOk l) (hT : Tabs w) :
  Calls Tryz.prog 42 #[.slice A n c, .agg #[.int .i64 k, .bool nl], .slice B m cB] w fun e w' => ∃ A' n' c', e = .returned (.tuple #[.slice A' n' c', .int .i64 (putE k nl l)]) ∧ n' ≤ c' ∧ c' ≤ maxLen ∧
   w'.ownsRow w.heap.size 5 1 (.slice A' n' c') n' (u8s (putO k nl l xs)) ∧ Below w.heap.size w w' := by
 have HT := Lib.hid hT
 have Hr := Lib.hid hr
 have Hr2 := Lib.hid hr2
 have Hok := Lib.hid hok
 have Hln := Lib.hid (cls_len hr2)
 have B4 := Lib.hid (Blk.new w 43 #[.int .i64 k, .bool nl])
 clear hr hr2 hok hT
 go_enter Tryz.func42, Tryz.ntmps42
 go_wp2_with fail
 with_reducible refine (may_any k nl _).mono ?_
 rintro e w1 ⟨rfl, hb1⟩
 have hb2 := Lib.hid (bon ((Below.refl _ w).alloc (Nat.le_refl _) (.cells #[.int .i64 k, .bool nl] 43)) hb1)
 replace B4 := Lib.hid (B4.out.on hb1)
 clear hb1
 have c40 := B4.out.cell 0
 have c41 := B4.out.cell 1
 cases hmk : mayK k with
 | false =>
  go_wp2
  go_ret2
  exact ⟨none, 0, 0, by simp [putE, hmk], Nat.le_refl _, by decide, by rw [show putO k nl l xs = [] by simp [putO, putE, hmk]]; exact World.ownsRow_nil _ _ _ _, hb2.out⟩
 | true =>
  have Hm := Lib.hid hm
  have Hn := Lib.hid hn
  obtain ⟨hk1, hk5⟩ : 1 ≤ k ∧ k ≤ 5 := by simpa [mayK] using hmk
  have H40 := Lib.hid (show ∀ w', Below w1.heap.size w1 w' → w'.cell? ⟨w.heap.size, 0, none⟩ = some (.int .i64 k) from fun w' h => (h.cell (p := ⟨w.heap.size, 0, none⟩) B4.out.lt).trans c40)
  go_wp2
  have hS : Below w1.heap.size w1 w1.drew := (Below.refl _ _).drew
  refine wp_region_plan (fun w' => Below w1.heap.size w1 w') (.pure 0 (.pure 1 (.pure 2 (.eff 3 (.pure 4 (.eff 5 (.pure 6 .done))))))) (by kernel_rfl) (by kernel_rfl) (by kernel_rfl) (fun d _ _ _ _ h => by cases d <;> exact h) ?_
  refine plan_pure (v := ?_) rfl rfl (by simp [Region.wanted, yielded]) hS ?_ ?_
  rotate_left
  ·intro w hw; go_simp; try with_reducible rfl
  try simp only [Act.put, zpA, zpB, zpC]
  refine plan_pure (v := ?_) rfl rfl (by simp [Region.wanted, yielded]) hS ?_ ?_
  rotate_left
  ·intro w hw; have c0 := H40.out w hw; clear hw; go_simp; try with_reducible rfl
  try simp only [Act.put, zpA, zpB, zpC]
  refine plan_pure (v := ?_) rfl rfl (by simp [Region.wanted, yielded]) hS ?_ ?_
  rotate_left
  ·intro w hw; go_simp; try with_reducible rfl
  try simp only [Act.put, zpA, zpB, zpC]
  refine plan_eff1 rfl (by simp [Region.wanted, yielded]) fun K hK => ?_
  go_simp
  with_reducible refine (clone_any A n c xs _ ((Hr.out.on hb2.out).on hS) (by omega)).mono ?_
  rintro e w2 ⟨A3, c3, rfl, q1, q2, q3, q4⟩
  have hb3 := Lib.hid (hb2.out.trans ((bon hS q4).mono hb2.out.size))
  have Q3 := Lib.hid (own_mono q3 (show w.heap.size ≤ w1.drew.heap.size from hb2.out.size))
  have Q1 := Lib.hid (And.intro q1 q2)
  have B5 := Lib.hid ((B4.out.on hS).on q4)
  refine held_go hK (by exact bon hS q4) fun hS => ?_
  clear hK K
  try simp only [Act.put, zpA, zpB, zpC]
  clear q1 q2 q3 q4
  refine plan_pure (v := ?_) rfl rfl (by simp [Region.wanted, yielded]) hS ?_ ?_
  rotate_left
  ·intro w hw; go_simp; try with_reducible rfl
  try simp only [Act.put, zpA, zpB, zpC]
  refine plan_eff1 rfl (by simp [Region.wanted, yielded]) fun K hK => ?_
  go_simp
  refine held_go hK (by exact bal hS _) fun hS => ?_
  clear hK K
  try simp only [Act.put, zpA, zpB, zpC]
  refine plan_pure (v := ?_) rfl rfl (by simp [Region.wanted, yielded]) hS ?_ ?_
  rotate_left
  ·intro w hw; go_simp; try with_reducible rfl
  try simp only [Act.put, zpA, zpB, zpC]
  refine plan_end ?_
  clear hS
  have HC := Lib.hid (show ColW (w2.alloc (.cells #[.int .i64 k, .slice none 0 0, .slice A3 n c3, .int .i64 0] 142)) w.heap.size w2.heap.size k 0 none 0 0 [] A3 n c3 xs from
   ⟨Blk.new w2 _ _, hb3.out.size, World.ownsRow_nil _ _ _ _, Q3.out.alloc _, Q1.out.1, Q1.out.2⟩)
  have B6 := Lib.hid (B5.out.alloc (.cells #[.int .i64 k, .slice none 0 0, .slice A3 n c3, .int .i64 0] 142))
  have hb4 := Lib.hid (hb3.out.alloc hb3.out.size (.cells #[.int .i64 k, .slice none 0 0, .slice A3 n c3, .int .i64 0] 142))
  have hgw := Lib.hid hb3.out.size
  clear c40 c41 H40
  have Hg0 := Lib.hid B5.out.lt
  generalize w2.heap.size = g at *
  obtain ⟨i0, hi0, hz0, hz1, hz2⟩ := info_parts u8_info
  obtain ⟨j0, hj0, hk0, hj1, hk2⟩ := info_parts cell_info
  go_wp2
  go_loopw [22] (fun i wr => ∃ (j nA : Nat) (A1 : Option Addr) (cA : Nat), j ≤ m ∧ i = .int .i64 (j : Int) ∧ nA ≤ j ∧ Hid (allC k nl (l.take j) = true) ∧ Hid (ColW wr w.heap.size g k 0 A1 nA cA (someC (l.take j)) A3 n c3 xs) ∧ Hid (Blk wr w.heap.size 43 #[.int .i64 k, .bool nl]) ∧ Hid (Below w.heap.size w wr)) (fun i _ => m - (intOf i).toNat)
  case atStart => exact ⟨0, 0, none, 0, Nat.zero_le _, rfl, Nat.le_refl _, Lib.hid rfl, HC, B6, hb4⟩
  case round =>
   obtain ⟨j, nA, A1, cA, hj, rfl, hnA, hall, HC, B6, HB⟩ := hrel
   by_cases hlt : j < m
   ·obtain ⟨ad, u, x, s, rfl, hbk, hx, h0, h1, h2⟩ := cls_at (Hr2.out.below HB.out) hlt
    have Hx := Lib.hid hx
    have hbs := Lib.hid HB.out.size
    have c40 := (B6.out.alloc (.cells #[.bool u, .int .i64 x, .string s] 23)).cell 0
    have c41 := (B6.out.alloc (.cells #[.bool u, .int .i64 x, .string s] 23)).cell 1
    have hbA := Lib.hid ((Below.refl wr.heap.size wr).alloc (Nat.le_refl _) (.cells #[.bool u, .int .i64 x, .string s] 23))
    have BX := Lib.hid (Blk.new wr 23 #[.bool u, .int .i64 x, .string s])
    have HT2 := Lib.hid (HT.out.on (HB.out.alloc HB.out.size (.cells #[.bool u, .int .i64 x, .string s] 23)))
    clear hx hbk
    go_wp2_with fail
    with_reducible refine (check_any3 k nl u x s _ HT2.out).mono ?_
    rintro e w5 ⟨rfl, hb5⟩
    have HCr := HC
    have HC := Lib.hid ((HC.out.below hbA.out).below hb5)
    have HX := Lib.hid (BX.out.on hb5)
    have B6 := Lib.hid ((B6.out.alloc (.cells #[.bool u, .int .i64 x, .string s] 23)).on hb5)
    have HB := Lib.hid (bon (HB.out.alloc HB.out.size (.cells #[.bool u, .int .i64 x, .string s] 23)) hb5)
    rcases checkE_two k nl (u, x, s) hmk with h0 | h0
    ·have hall2 := Lib.hid (allC_step hall.out Hx.out h0)
     have Hstep := Lib.hid (someC_step Hx.out)
     have hlow := (ColW.low (HCr.out) (Nat.le_refl _) : (∀ q, (Value.slice A1 nA cA).ownBlock = some q → q < wr.heap.size) ∧ g ≠ wr.heap.size)
     have Hrow := Lib.hid hlow.1
     have Hgp := Lib.hid hlow.2
     have Hbs := Lib.hid HB.out.size
     have Hnx := Lib.hid (show nA ≤ 2097152 by have := Hm.out; omega)
     clear hlow c40 c41 h1 h2 hb5
     generalize checkE k nl (u, x, s) = E0 at h0
     subst h0
     have hx0 := HX.out.cell 0
     cases u with
     | true =>
      have Hstep := Lib.hid (show someC (l.take (j + 1)) = someC (l.take j) by rw [Hstep.out]; rfl)
      have HC := Lib.hid (show ColW w5 w.heap.size g k 0 A1 nA cA (someC (l.take (j + 1))) A3 n c3 xs by rw [Hstep.out]; exact HC.out)
      go_wp2
      go_roundw
      case rel => exact ⟨j + 1, nA, A1, cA, by omega, by go_num, by omega, hall2, HC, B6, HB⟩
      case measure => simp [intOf]; omega
     | false =>
      have Hstep := Lib.hid (show someC (l.take (j + 1)) = someC (l.take j) ++ [(false, x, s)] by rw [Hstep.out]; rfl)
      go_wp2
      clear hx0
      have hS : Below w.heap.size w5 w5.drew ∧ Blk w5.drew wr.heap.size 23 #[.bool false, .int .i64 x, .string s] := ⟨(Below.refl _ _).drew, HX.out⟩
      have HV0 := Lib.hid (show ∀ w', Below w.heap.size w5 w' ∧ Blk w' wr.heap.size 23 #[.bool false, .int .i64 x, .string s] → w'.cell? ⟨wr.heap.size, 0, none⟩ = some (.bool false) from fun w' h => h.2.cell 0)
      have HV1 := Lib.hid (show ∀ w', Below w.heap.size w5 w' ∧ Blk w' wr.heap.size 23 #[.bool false, .int .i64 x, .string s] → w'.cell? ⟨wr.heap.size, 1, none⟩ = some (.int .i64 x) from fun w' h => h.2.cell 1)
      have HV2 := Lib.hid (show ∀ w', Below w.heap.size w5 w' ∧ Blk w' wr.heap.size 23 #[.bool false, .int .i64 x, .string s] → w'.cell? ⟨wr.heap.size, 2, none⟩ = some (.string s) from fun w' h => h.2.cell 2)
      have HCW := HC
      have HC := Lib.hid (HC.out.onDrew)
      refine wp_region_plan (fun w' => Below w.heap.size w5 w' ∧ Blk w' wr.heap.size 23 #[.bool false, .int .i64 x, .string s]) (.pure 0 (.pure 1 (.pure 2 (.pure 3 (.pure 5 (.fork 4 6 (.eff 6 (.eff 7 (.pure 8 (.pure 9 (.eff 10 .done))))) (.eff 4 (.eff 7 (.pure 8 (.pure 9 (.eff 10 .done))))))))))) (by kernel_rfl) (by kernel_rfl) (by kernel_rfl) (fun d _ _ _ _ h => by cases d <;> exact h) ?_
      iterate 4
       refine plan_pure (v := ?_) rfl rfl (by simp [Region.wanted, yielded]) hS ?_ ?_
       rotate_left
       ·intro w hw; go_simp; try with_reducible rfl
       try simp only [Act.put, zpA, zpB, zpC]
      refine plan_pure (v := ?_) rfl rfl (by simp [Region.wanted, yielded]) hS ?_ ?_
      rotate_left
      ·intro w hw; have c0 := HV0.out w hw; have c1 := HV1.out w hw; have c2 := HV2.out w hw; clear hw; go_simp; try with_reducible rfl
      try simp only [Act.put, zpA, zpB, zpC]
      refine plan_fork ?_ ?_
      ·have c1 := HC.out.blk.cell 1
       refine plan_eff1 rfl (by simp [Region.wanted, yielded]) fun K hK => ?_
       go_simp
       refine held_go hK (by exact hS) fun hS => ?_
       clear hK K
       try simp only [Act.put, zpA, zpB, zpC]
       clear c1
       refine plan_eff1 rfl (by simp [Region.wanted, yielded]) fun K hK => ?_
       go_simp
       have HR := Lib.hid ((reads_cell w5 false x s).drew)
       have HC := Lib.hid ((HCW.out.below ((Below.refl _ w5).alloc (Nat.le_refl _) (.cells #[.bool false, .int .i64 x, .string s] 23))).onDrew)
       refine held_go hK (by exact ⟨hS.1.alloc (Nat.le_trans (Nat.le_trans HC.out.low0 Hbs.out) hS.1.size) _, hS.2.alloc _⟩) fun hS => ?_
       clear hK K
       try simp only [Act.put, zpA, zpB, zpC]
       refine plan_eff1 rfl (by simp [Region.wanted, yielded]) fun K hK => ?_
       refine wp_append_any _ (.tmp 37) (.tmp 39) 24 rfl w.heap.size 23 j0 (.agg #[.bool false, .int .i64 0, .string ⟨#[]⟩]) 3 32 Tryz.underlying24 hj0 hk0 hj1 hk2 rfl (by decide) A1 nA cA _ rfl HC.out.cells (some ⟨_, 0, none⟩) 1 1 (cls [(false, x, s)]) rfl HR.out (cls_one _) (by have := Hnx.out; simp only [maxLen]; omega) (by have := Hnx.out; omega) (Nat.le_trans Hbs.out hS.1.size) ?_
       intro A9 c9 w9 r1 r2 r3 r4 r5
       rw [← cls_append] at r1
       have HA := Lib.hid (HC.out.app r3 r2 r1)
       have R2 := Lib.hid r2
       have r2 := r2.mono HC.out.low0
       have HX9 := Lib.hid (blk_row hS.2 r3 Hrow.out)
       have hT := Lib.hid (hS.1.trans r2)
       have G9 := Lib.hid r3
       clear r1 r2 r3 r4 r5
       refine held_go hK (by exact ⟨hT.out, HX9.out⟩) fun hS => ?_
       clear hK K
       try simp only [Act.put, zpA, zpB, zpC]
       iterate 2
        refine plan_pure (v := ?_) rfl rfl (by simp [Region.wanted, yielded]) hS ?_ ?_
        rotate_left
        ·intro w hw; go_simp; try with_reducible rfl
        try simp only [Act.put, zpA, zpB, zpC]
       have c2 := HA.out.2.cell 1
       have f2 := HA.out.2.frozen 1
       refine plan_eff1 rfl (by simp [Region.wanted, yielded]) fun K hK => ?_
       go_simp
       clear c2 f2
       refine held_go hK (by exact ⟨hT.out.setCell (p := ⟨g, 1, none⟩) HC.out.far _, HX9.out.far (p := ⟨g, 1, none⟩) Hgp.out.symm _⟩) fun hS => ?_
       clear hK K
       try simp only [Act.put, zpA, zpB, zpC]
       refine plan_end ?_
       have hT := Lib.hid (hT.out.setCell (p := ⟨g, 1, none⟩) HC.out.far (.slice A9 (nA + 1) c9))
       clear HX9 HR
       clear HV0 HV1 HV2
       have HC0 := HC
       have HC := Lib.hid (show ColW _ w.heap.size g k 0 A9 (nA + 1) c9 (someC (l.take (j + 1))) A3 n c3 xs by rw [Hstep.out]; exact HA.out.1)
       have B6 := Lib.hid (((B6.out.alloc (.cells #[.bool false, .int .i64 x, .string s] 23)).drew.apart HC0.out.cells (by decide) G9.out).far (p := ⟨g, 1, none⟩) (Nat.ne_of_lt Hg0.out) (.slice A9 (nA + 1) c9))
       have HB := Lib.hid (HB.out.trans hT.out)
       go_wp2
       go_roundw
       case rel => exact ⟨j + 1, _, A9, c9, by omega, by go_num, by omega, hall2, HC, B6, HB⟩
       case measure => simp [intOf]; omega
      ·refine plan_eff1 rfl (by simp [Region.wanted, yielded]) fun K hK => ?_
       go_simp
       have HR := Lib.hid ((reads_cell w5 false x s).drew)
       have HC := Lib.hid ((HCW.out.below ((Below.refl _ w5).alloc (Nat.le_refl _) (.cells #[.bool false, .int .i64 x, .string s] 23))).onDrew)
       refine held_go hK (by exact ⟨hS.1.alloc (Nat.le_trans (Nat.le_trans HC.out.low0 Hbs.out) hS.1.size) _, hS.2.alloc _⟩) fun hS => ?_
       clear hK K
       try simp only [Act.put, zpA, zpB, zpC]
       have c1 := HC.out.blk.cell 1
       refine plan_eff1 rfl (by simp [Region.wanted, yielded]) fun K hK => ?_
       go_simp
       refine held_go hK (by exact hS) fun hS => ?_
       clear hK K
       try simp only [Act.put, zpA, zpB, zpC]
       clear c1
       refine plan_eff1 rfl (by simp [Region.wanted, yielded]) fun K hK => ?_
       refine wp_append_any _ (.tmp 37) (.tmp 39) 24 rfl w.heap.size 23 j0 (.agg #[.bool false, .int .i64 0, .string ⟨#[]⟩]) 3 32 Tryz.underlying24 hj0 hk0 hj1 hk2 rfl (by decide) A1 nA cA _ rfl HC.out.cells (some ⟨_, 0, none⟩) 1 1 (cls [(false, x, s)]) rfl HR.out (cls_one _) (by have := Hnx.out; simp only [maxLen]; omega) (by have := Hnx.out; omega) (Nat.le_trans Hbs.out hS.1.size) ?_
       intro A9 c9 w9 r1 r2 r3 r4 r5
       rw [← cls_append] at r1
       have HA := Lib.hid (HC.out.app r3 r2 r1)
       have R2 := Lib.hid r2
       have r2 := r2.mono HC.out.low0
       have HX9 := Lib.hid (blk_row hS.2 r3 Hrow.out)
       have hT := Lib.hid (hS.1.trans r2)
       have G9 := Lib.hid r3
       clear r1 r2 r3 r4 r5
       refine held_go hK (by exact ⟨hT.out, HX9.out⟩) fun hS => ?_
       clear hK K
       try simp only [Act.put, zpA, zpB, zpC]
       iterate 2
        refine plan_pure (v := ?_) rfl rfl (by simp [Region.wanted, yielded]) hS ?_ ?_
        rotate_left
        ·intro w hw; go_simp; try with_reducible rfl
        try simp only [Act.put, zpA, zpB, zpC]
       have c2 := HA.out.2.cell 1
       have f2 := HA.out.2.frozen 1
       refine plan_eff1 rfl (by simp [Region.wanted, yielded]) fun K hK => ?_
       go_simp
       clear c2 f2
       refine held_go hK (by exact ⟨hT.out.setCell (p := ⟨g, 1, none⟩) HC.out.far _, HX9.out.far (p := ⟨g, 1, none⟩) Hgp.out.symm _⟩) fun hS => ?_
       clear hK K
       try simp only [Act.put, zpA, zpB, zpC]
       refine plan_end ?_
       have hT := Lib.hid (hT.out.setCell (p := ⟨g, 1, none⟩) HC.out.far (.slice A9 (nA + 1) c9))
       clear HX9 HR
       clear HV0 HV1 HV2
       have HC0 := HC
       have HC := Lib.hid (show ColW _ w.heap.size g k 0 A9 (nA + 1) c9 (someC (l.take (j + 1))) A3 n c3 xs by rw [Hstep.out]; exact HA.out.1)
       have B6 := Lib.hid (((B6.out.alloc (.cells #[.bool false, .int .i64 x, .string s] 23)).drew.apart HC0.out.cells (by decide) G9.out).far (p := ⟨g, 1, none⟩) (Nat.ne_of_lt Hg0.out) (.slice A9 (nA + 1) c9))
       have HB := Lib.hid (HB.out.trans hT.out)
       go_wp2
       go_roundw
       case rel => exact ⟨j + 1, _, A9, c9, by omega, by go_num, by omega, hall2, HC, B6, HB⟩
       case measure => simp [intOf]; omega
    ·have hall2 := Lib.hid (allC_bad Hx.out h0)
     generalize checkE k nl (u, x, s) = E0 at h0
     subst h0
     go_wp2
     go_ret2
     exact ⟨none, 0, 0, by simp [putE, hmk, hall2.out], Nat.le_refl _, by decide, by rw [show putO k nl l xs = [] by simp [putO, putE, hmk, hall2.out]]; exact World.ownsRow_nil _ _ _ _, HB.out⟩
   ·obtain rfl : j = m := by omega
    have hmap : l.take j = l := List.take_of_length_le (by rw [Hln.out]; exact Nat.le_refl _)
    rw [hmap] at hall HC
    have HE := Lib.hid (show putE k nl l = 0 by simp [putE, hmk, hall.out])
    have hsl := someC_le l
    rw [Hln.out] at hsl
    have HsZ := Lib.hid (some_sizes hmk hall.out)
    have HsO := Lib.hid (show ClOk (someC l) from fun c hc => Hok.out c (List.mem_filter.1 hc).1)
    have hpd := putD_le ((someC l).map fun c => c.2.2) (by intro s hs; obtain ⟨c, hc, rfl⟩ := List.mem_map.1 hs; exact HsZ.out c hc)
    rw [List.length_map] at hpd
    have Hxl := Lib.hid (show xs.length = n from reads_len Hr.out)
    have Hnl := Lib.hid (show nA = (someC l).length from (cls_len (Reads.of_own HC.out.cells)).symm)
    have Hpl := Lib.hid (show (packL (l.map fun c => !c.1)).length + n ≤ 274877906944 + 1048576 by have := packL_le (l.map fun c => !c.1); rw [List.length_map, Hln.out] at this; have := Hn.out; have := Hm.out; omega)
    have H5 := Lib.hid (Nat.le_of_lt Hg0.out)
    have c41 := B6.out.cell 1
    clear hmap hlt
    cases nl with
    | false =>
     have HO := Lib.hid (show putO k false l xs = xs ++ bareB k (someC l) by simp [putO, HE.out, putB])
     have Htot := Lib.hid (show n + 2048 * nA ≤ 1099511627776 ∧ (xs ++ putD ((someC l).map fun c => c.2.2)).length ≤ 1099511627776 by
      have := Hn.out; have := Hm.out; have := Hxl.out; have := Hnl.out
      rw [List.length_append]
      constructor <;> omega)
     clear hpd hsl
     have c40 := B6.out.cell 0
     have hin := fun args w' => putF_in k hk1 hk5 args w'
     go_wp2_with fail
     with_reducible refine (writes_any k _ hk1 hk5).mono ?_
     rintro e w6 ⟨rfl, rfl⟩
     go_wp2_with fail
     with_reducible refine (putF_any w.heap.size g k 0 A1 nA cA (someC l) A3 n c3 (xs) _ hk1 hk5 HC.out HsO.out HsZ.out Htot.out.1 HB.out.size Htot.out.2).mono ?_
     rintro e w7 ⟨rfl, B2, m2, c9, hC9, hB9⟩
     have HC9 := Lib.hid hC9
     have HB9 := Lib.hid (HB.out.trans hB9)
     have c2 := hC9.blk.cell 2
     clear hC9 hB9
     go_wp2
     go_ret2
     exact ⟨B2, m2, c9, by rw [HE.out]; rfl, HC9.out.le, HC9.out.max, by rw [HO.out]; exact HC9.out.bytes, HB9.out⟩
    | true =>
     have HO := Lib.hid (show putO k true l xs = (xs ++ packL (l.map fun c => !c.1)) ++ bareB k (someC l) by simp [putO, HE.out, putB])
     have Htot := Lib.hid (show n + (packL (l.map fun c => !c.1)).length + 2048 * nA ≤ 1099511627776 ∧ ((xs ++ packL (l.map fun c => !c.1)) ++ putD ((someC l).map fun c => c.2.2)).length ≤ 1099511627776 by
      have := Hn.out; have := Hm.out; have := Hxl.out; have := Hnl.out; have := Hpl.out
      simp only [List.length_append]
      constructor <;> omega)
     clear hpd hsl
     go_wp2
     clear c41
     have hS : Below w.heap.size wr wr.drew := (Below.refl _ _).drew
     have HC := Lib.hid HC.out.onDrew
     have B6 := Lib.hid B6.out.drew
     refine wp_region_plan (fun w' => Below w.heap.size wr w') (.pure 0 (.pure 1 (.pure 2 (.pure 3 (.pure 5 (.fork 4 6 (.eff 6 (.eff 7 (.eff 8 (.pure 9 (.pure 10 (.eff 11 .done)))))) (.fork 4 7 (.eff 7 (.eff 8 (.pure 9 (.pure 10 (.eff 11 .done))))) (.eff 4 (.eff 8 (.pure 9 (.pure 10 (.eff 11 .done)))))))))))) (by kernel_rfl) (by kernel_rfl) (by kernel_rfl) (fun d _ _ _ _ h => by cases d <;> exact h) ?_
     iterate 5
      refine plan_pure (v := ?_) rfl rfl (by simp [Region.wanted, yielded]) hS ?_ ?_
      rotate_left
      ·intro w hw; go_simp; try with_reducible rfl
      try simp only [Act.put, zpA, zpB, zpC]
     refine plan_fork ?_ ?_
     ·have c2 := HC.out.blk.cell 2
      refine plan_eff1 rfl (by simp [Region.wanted, yielded]) fun K hK => ?_
      go_simp
      refine held_go hK (by exact hS) fun hS => ?_
      clear hK K
      try simp only [Act.put, zpA, zpB, zpC]
      clear c2
      refine plan_eff1 rfl (by simp [Region.wanted, yielded]) fun K hK => ?_
      go_simp
      with_reducible refine (mapThere B j cB l _ (((Hr2.out.below HB.out).below hS).more (Nat.le_trans HB.out.size hS.size)) (Nat.le_trans Hm.out (by decide))).mono ?_
      rintro e w5 ⟨AM, cM, rfl, q1, q2, q3, q4⟩
      have M1 := Lib.hid q1
      have M2 := Lib.hid q2
      have M3 := Lib.hid q3
      have HC := Lib.hid (HC.out.below q4)
      have B6 := Lib.hid (B6.out.on q4)
      have hT := Lib.hid (hS.trans (q4.mono (Nat.le_trans HB.out.size hS.size)))
      clear q1 q2 q3 q4
      refine held_go hK (by exact hT.out) fun hS => ?_
      clear hK K
      try simp only [Act.put, zpA, zpB, zpC]
      clear hT
      refine plan_eff1 rfl (by simp [Region.wanted, yielded]) fun K hK => ?_
      go_simp
      with_reducible refine (mpack_any AM j cM _ _ (Reads.of_own M3.out) M1.out M2.out (Nat.le_trans Hm.out (by decide))).mono ?_
      rintro e w5 ⟨AP, cP, rfl, q1, q2, q3, q4⟩
      have N1 := Lib.hid q1
      have N3 := Lib.hid q3
      have HC := Lib.hid (HC.out.below q4)
      have B6 := Lib.hid (B6.out.on q4)
      have hT := Lib.hid (hS.trans (q4.mono (Nat.le_trans HB.out.size hS.size)))
      clear q1 q3 q4 q2
      refine held_go hK (by exact hT.out) fun hS => ?_
      clear hK K
      try simp only [Act.put, zpA, zpB, zpC]
      clear hT
      refine plan_eff1 rfl (by simp [Region.wanted, yielded]) fun K hK => ?_
      refine wp_append_any _ (.tmp 50) (.tmp 53) 35 rfl w.heap.size 5 i0 (.int .u8 0) 1 1 Tryz.underlying35 hi0 hz0 hz1 hz2 rfl (by decide) A3 n c3 _ rfl HC.out.bytes AP _ cP _ rfl (Reads.of_own N3.out) (u8s_one _) (by have := Hpl.out; simp only [maxLen]; omega) (by have := Hpl.out; omega) (Nat.le_trans HB.out.size hS.size) ?_
      intro A8 c8 w8 r1 r2 r3 r4 r5
      obtain ⟨b1, b2⟩ := HC.out.grow r3
      have B1 := Lib.hid b1
      have B2 := Lib.hid b2
      have R1 := Lib.hid r1
      have R4 := Lib.hid (And.intro r4 r5)
      have B6 := Lib.hid (B6.out.apart HC.out.bytes (by decide) r3)
      have hT := Lib.hid (hS.trans r2)
      clear b1 b2 r1 r2 r3 r4 r5
      refine held_go hK (by exact hT.out) fun hS => ?_
      clear hK K
      try simp only [Act.put, zpA, zpB, zpC]
      iterate 2
       refine plan_pure (v := ?_) rfl rfl (by simp [Region.wanted, yielded]) hS ?_ ?_
       rotate_left
       ·intro w hw; go_simp; try with_reducible rfl
       try simp only [Act.put, zpA, zpB, zpC]
      have c2 := B1.out.cell 2
      have f2 := B1.out.frozen 2
      refine plan_eff1 rfl (by simp [Region.wanted, yielded]) fun K hK => ?_
      go_simp
      clear c2 f2
      refine held_go hK (by exact hT.out.setCell (p := ⟨g, 2, none⟩) H5.out _) fun hS => ?_
      clear hK K
      try simp only [Act.put, zpA, zpB, zpC]
      refine plan_end ?_
      have HC := Lib.hid (show ColW _ w.heap.size g k 0 A1 nA cA (someC l) A8 (n + (packL (l.map fun c => !c.1)).length) c8 (xs ++ packL (l.map fun c => !c.1)) from ⟨B1.out.set_ 2 _, H5.out, own_far B2.out B1.out (by decide) 2 _, own_far (by rw [u8s_append]; exact R1.out) B1.out (by decide) 2 _, R4.out.1, R4.out.2⟩)
      have B6 := Lib.hid (B6.out.far (Nat.ne_of_lt Hg0.out) (Value.slice A8 (n + (packL (l.map fun c => !c.1)).length) c8) : Blk (w8.setCell ⟨g, 2, none⟩ _) w.heap.size 43 #[.int .i64 k, .bool true])
      have HB := Lib.hid (HB.out.trans hS)
      clear hS hT M1 M2 M3 N1 N3 B1 B2 R1 R4
      have c40 := B6.out.cell 0
      have hin := fun args w' => putF_in k hk1 hk5 args w'
      go_wp2_with fail
      with_reducible refine (writes_any k _ hk1 hk5).mono ?_
      rintro e w6 ⟨rfl, rfl⟩
      go_wp2_with fail
      with_reducible refine (putF_any w.heap.size g k 0 A1 nA cA (someC l) A8 (n + (packL (l.map fun c => !c.1)).length) c8 (xs ++ packL (l.map fun c => !c.1)) _ hk1 hk5 HC.out HsO.out HsZ.out Htot.out.1 HB.out.size Htot.out.2).mono ?_
      rintro e w7 ⟨rfl, B2, m2, c9, hC9, hB9⟩
      have HC9 := Lib.hid hC9
      have HB9 := Lib.hid (HB.out.trans hB9)
      have c2 := hC9.blk.cell 2
      clear hC9 hB9
      go_wp2
      go_ret2
      exact ⟨B2, m2, c9, by rw [HE.out]; rfl, HC9.out.le, HC9.out.max, by rw [HO.out]; exact HC9.out.bytes, HB9.out⟩
     ·refine plan_eff1 rfl (by simp [Region.wanted, yielded]) fun K hK => ?_
      go_simp
      with_reducible refine (mapThere B j cB l _ (((Hr2.out.below HB.out).below hS).more (Nat.le_trans HB.out.size hS.size)) (Nat.le_trans Hm.out (by decide))).mono ?_
      rintro e w5 ⟨AM, cM, rfl, q1, q2, q3, q4⟩
      have M1 := Lib.hid q1
      have M2 := Lib.hid q2
      have M3 := Lib.hid q3
      have HC := Lib.hid (HC.out.below q4)
      have B6 := Lib.hid (B6.out.on q4)
      have hT := Lib.hid (hS.trans (q4.mono (Nat.le_trans HB.out.size hS.size)))
      clear q1 q2 q3 q4
      refine held_go hK (by exact hT.out) fun hS => ?_
      clear hK K
      try simp only [Act.put, zpA, zpB, zpC]
      clear hT
      refine plan_fork ?_ ?_
      ·have c2 := HC.out.blk.cell 2
       refine plan_eff1 rfl (by simp [Region.wanted, yielded]) fun K hK => ?_
       go_simp
       refine held_go hK (by exact hS) fun hS => ?_
       clear hK K
       try simp only [Act.put, zpA, zpB, zpC]
       clear c2
       refine plan_eff1 rfl (by simp [Region.wanted, yielded]) fun K hK => ?_
       go_simp
       with_reducible refine (mpack_any AM j cM _ _ (Reads.of_own M3.out) M1.out M2.out (Nat.le_trans Hm.out (by decide))).mono ?_
       rintro e w5 ⟨AP, cP, rfl, q1, q2, q3, q4⟩
       have N1 := Lib.hid q1
       have N3 := Lib.hid q3
       have HC := Lib.hid (HC.out.below q4)
       have B6 := Lib.hid (B6.out.on q4)
       have hT := Lib.hid (hS.trans (q4.mono (Nat.le_trans HB.out.size hS.size)))
       clear q1 q3 q4 q2
       refine held_go hK (by exact hT.out) fun hS => ?_
       clear hK K
       try simp only [Act.put, zpA, zpB, zpC]
       clear hT
       refine plan_eff1 rfl (by simp [Region.wanted, yielded]) fun K hK => ?_
       refine wp_append_any _ (.tmp 50) (.tmp 53) 35 rfl w.heap.size 5 i0 (.int .u8 0) 1 1 Tryz.underlying35 hi0 hz0 hz1 hz2 rfl (by decide) A3 n c3 _ rfl HC.out.bytes AP _ cP _ rfl (Reads.of_own N3.out) (u8s_one _) (by have := Hpl.out; simp only [maxLen]; omega) (by have := Hpl.out; omega) (Nat.le_trans HB.out.size hS.size) ?_
       intro A8 c8 w8 r1 r2 r3 r4 r5
       obtain ⟨b1, b2⟩ := HC.out.grow r3
       have B1 := Lib.hid b1
       have B2 := Lib.hid b2
       have R1 := Lib.hid r1
       have R4 := Lib.hid (And.intro r4 r5)
       have B6 := Lib.hid (B6.out.apart HC.out.bytes (by decide) r3)
       have hT := Lib.hid (hS.trans r2)
       clear b1 b2 r1 r2 r3 r4 r5
       refine held_go hK (by exact hT.out) fun hS => ?_
       clear hK K
       try simp only [Act.put, zpA, zpB, zpC]
       iterate 2
        refine plan_pure (v := ?_) rfl rfl (by simp [Region.wanted, yielded]) hS ?_ ?_
        rotate_left
        ·intro w hw; go_simp; try with_reducible rfl
        try simp only [Act.put, zpA, zpB, zpC]
       have c2 := B1.out.cell 2
       have f2 := B1.out.frozen 2
       refine plan_eff1 rfl (by simp [Region.wanted, yielded]) fun K hK => ?_
       go_simp
       clear c2 f2
       refine held_go hK (by exact hT.out.setCell (p := ⟨g, 2, none⟩) H5.out _) fun hS => ?_
       clear hK K
       try simp only [Act.put, zpA, zpB, zpC]
       refine plan_end ?_
       have HC := Lib.hid (show ColW _ w.heap.size g k 0 A1 nA cA (someC l) A8 (n + (packL (l.map fun c => !c.1)).length) c8 (xs ++ packL (l.map fun c => !c.1)) from ⟨B1.out.set_ 2 _, H5.out, own_far B2.out B1.out (by decide) 2 _, own_far (by rw [u8s_append]; exact R1.out) B1.out (by decide) 2 _, R4.out.1, R4.out.2⟩)
       have B6 := Lib.hid (B6.out.far (Nat.ne_of_lt Hg0.out) (Value.slice A8 (n + (packL (l.map fun c => !c.1)).length) c8) : Blk (w8.setCell ⟨g, 2, none⟩ _) w.heap.size 43 #[.int .i64 k, .bool true])
       have HB := Lib.hid (HB.out.trans hS)
       clear hS hT M1 M2 M3 N1 N3 B1 B2 R1 R4
       have c40 := B6.out.cell 0
       have hin := fun args w' => putF_in k hk1 hk5 args w'
       go_wp2_with fail
       with_reducible refine (writes_any k _ hk1 hk5).mono ?_
       rintro e w6 ⟨rfl, rfl⟩
       go_wp2_with fail
       with_reducible refine (putF_any w.heap.size g k 0 A1 nA cA (someC l) A8 (n + (packL (l.map fun c => !c.1)).length) c8 (xs ++ packL (l.map fun c => !c.1)) _ hk1 hk5 HC.out HsO.out HsZ.out Htot.out.1 HB.out.size Htot.out.2).mono ?_
       rintro e w7 ⟨rfl, B2, m2, c9, hC9, hB9⟩
       have HC9 := Lib.hid hC9
       have HB9 := Lib.hid (HB.out.trans hB9)
       have c2 := hC9.blk.cell 2
       clear hC9 hB9
       go_wp2
       go_ret2
       exact ⟨B2, m2, c9, by rw [HE.out]; rfl, HC9.out.le, HC9.out.max, by rw [HO.out]; exact HC9.out.bytes, HB9.out⟩
      ·refine plan_eff1 rfl (by simp [Region.wanted, yielded]) fun K hK => ?_
       go_simp
       with_reducible refine (mpack_any AM j cM _ _ (Reads.of_own M3.out) M1.out M2.out (Nat.le_trans Hm.out (by decide))).mono ?_
       rintro e w5 ⟨AP, cP, rfl, q1, q2, q3, q4⟩
       have N1 := Lib.hid q1
       have N3 := Lib.hid q3
       have HC := Lib.hid (HC.out.below q4)
       have B6 := Lib.hid (B6.out.on q4)
       have hT := Lib.hid (hS.trans (q4.mono (Nat.le_trans HB.out.size hS.size)))
       clear q1 q3 q4 q2
       refine held_go hK (by exact hT.out) fun hS => ?_
       clear hK K
       try simp only [Act.put, zpA, zpB, zpC]
       clear hT
       have c2 := HC.out.blk.cell 2
       refine plan_eff1 rfl (by simp [Region.wanted, yielded]) fun K hK => ?_
       go_simp
       refine held_go hK (by exact hS) fun hS => ?_
       clear hK K
       try simp only [Act.put, zpA, zpB, zpC]
       clear c2
       refine plan_eff1 rfl (by simp [Region.wanted, yielded]) fun K hK => ?_
       refine wp_append_any _ (.tmp 50) (.tmp 53) 35 rfl w.heap.size 5 i0 (.int .u8 0) 1 1 Tryz.underlying35 hi0 hz0 hz1 hz2 rfl (by decide) A3 n c3 _ rfl HC.out.bytes AP _ cP _ rfl (Reads.of_own N3.out) (u8s_one _) (by have := Hpl.out; simp only [maxLen]; omega) (by have := Hpl.out; omega) (Nat.le_trans HB.out.size hS.size) ?_
       intro A8 c8 w8 r1 r2 r3 r4 r5
       obtain ⟨b1, b2⟩ := HC.out.grow r3
       have B1 := Lib.hid b1
       have B2 := Lib.hid b2
       have R1 := Lib.hid r1
       have R4 := Lib.hid (And.intro r4 r5)
       have B6 := Lib.hid (B6.out.apart HC.out.bytes (by decide) r3)
       have hT := Lib.hid (hS.trans r2)
       clear b1 b2 r1 r2 r3 r4 r5
       refine held_go hK (by exact hT.out) fun hS => ?_
       clear hK K
       try simp only [Act.put, zpA, zpB, zpC]
       iterate 2
        refine plan_pure (v := ?_) rfl rfl (by simp [Region.wanted, yielded]) hS ?_ ?_
        rotate_left
        ·intro w hw; go_simp; try with_reducible rfl
        try simp only [Act.put, zpA, zpB, zpC]
       have c2 := B1.out.cell 2
       have f2 := B1.out.frozen 2
       refine plan_eff1 rfl (by simp [Region.wanted, yielded]) fun K hK => ?_
       go_simp
       clear c2 f2
       refine held_go hK (by exact hT.out.setCell (p := ⟨g, 2, none⟩) H5.out _) fun hS => ?_
       clear hK K
       try simp only [Act.put, zpA, zpB, zpC]
       refine plan_end ?_
       have HC := Lib.hid (show ColW _ w.heap.size g k 0 A1 nA cA (someC l) A8 (n + (packL (l.map fun c => !c.1)).length) c8 (xs ++ packL (l.map fun c => !c.1)) from ⟨B1.out.set_ 2 _, H5.out, own_far B2.out B1.out (by decide) 2 _, own_far (by rw [u8s_append]; exact R1.out) B1.out (by decide) 2 _, R4.out.1, R4.out.2⟩)
       have B6 := Lib.hid (B6.out.far (Nat.ne_of_lt Hg0.out) (Value.slice A8 (n + (packL (l.map fun c => !c.1)).length) c8) : Blk (w8.setCell ⟨g, 2, none⟩ _) w.heap.size 43 #[.int .i64 k, .bool true])
       have HB := Lib.hid (HB.out.trans hS)
       clear hS hT M1 M2 M3 N1 N3 B1 B2 R1 R4
       have c40 := B6.out.cell 0
       have hin := fun args w' => putF_in k hk1 hk5 args w'
       go_wp2_with fail
       with_reducible refine (writes_any k _ hk1 hk5).mono ?_
       rintro e w6 ⟨rfl, rfl⟩
       go_wp2_with fail
       with_reducible refine (putF_any w.heap.size g k 0 A1 nA cA (someC l) A8 (n + (packL (l.map fun c => !c.1)).length) c8 (xs ++ packL (l.map fun c => !c.1)) _ hk1 hk5 HC.out HsO.out HsZ.out Htot.out.1 HB.out.size Htot.out.2).mono ?_
       rintro e w7 ⟨rfl, B2, m2, c9, hC9, hB9⟩
       have HC9 := Lib.hid hC9
       have HB9 := Lib.hid (HB.out.trans hB9)
       have c2 := hC9.blk.cell 2
       clear hC9 hB9
       go_wp2
       go_ret2
       exact ⟨B2, m2, c9, by rw [HE.out]; rfl, HC9.out.le, HC9.out.max, by rw [HO.out]; exact HC9.out.bytes, HB9.out⟩
end Go.Proofs.YtjpjalmilfgckaaGreatDoor
