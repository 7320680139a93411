/- Part 13 of the walks, merged: each text under its own heading. Conditions: none of its own; each lemma states what it asks. -/
import Derived.Test.YtjpjalmilfgckaaGreatDoorBk7
import Derived.Test.YtjpjalmilfgckaaGreatDoorBk9
import Derived.Test.YtjpjalmilfgckaaGreatDoorBk10
import Derived.Test.YtjpjalmilfgckaaGreatDoorBk12
set_option linter.unusedVariables false
set_option linter.unusedSimpArgs false
namespace Go.Proofs.YtjpjalmilfgckaaGreatDoor
open Go.RowKit
theorem unpackL_size (xs : List UInt8) (n : Int) : (unpackL xs n).2.1 ≤ xs.length ∧ (unpackL xs n).1.length ≤ 1048576 ∧ (unpackL xs n).2.2 < 200 := by
 rcases unpackL_only xs n with ⟨l, k, e, h1, h2, h3⟩ | ⟨e, h, h1, h2⟩
 ·rw [e]
  refine ⟨h2, ?_, by simp⟩
  by_cases hn : n < 0 ∨ 1048576 < n
  ·have : unpackL xs n = ([], 0, 6) := by unfold unpackL; rw [if_pos hn]
   rw [e] at this
   injection this with h4 h5
   subst h4
   simp
  ·simp only; omega
 ·rw [h]
  exact ⟨Nat.zero_le _, by simp, h2⟩
theorem not_bls (bl : List Bool) {k a : Int} {A B : Option Addr} {n c m d : Nat} : ∀ u ∈ bls bl, u ∉ (#[.int .i64 k, .slice A n c, .slice B m d, .int .i64 a] : Array Value) := by
 intro u hu
 obtain ⟨c, -, rfl⟩ := List.mem_map.1 hu
 simp
set_option maxRecDepth 100000 in
set_option maxHeartbeats 1000000 in
theorem bools_any (base g : Nat) (k : Int) (a : Nat) (B : Option Addr) (m cb : Nat) (xs : List UInt8) (n : Int) (w : World) (h : ColG w base base g k a none 0 0 [] B m cb xs) (ha : a ≤ m) (hn1 : -9223372036854775808 ≤ n) (hn2 : n ≤ 9223372036854775807) :
  Calls Tryz.prog 155 #[.pointer (some ⟨g, 0, none⟩), .int .i64 n] w fun e w' => ∃ A' c', e = .returned (.tuple #[.slice A' (unpackL (xs.drop a) n).1.length c', .int .i64 ((unpackL (xs.drop a) n).2.2 : Int)]) ∧ (unpackL (xs.drop a) n).1.length ≤ c' ∧ c' ≤ maxLen ∧
   Reads w' w'.heap.size 1 A' (unpackL (xs.drop a) n).1.length (bls (unpackL (xs.drop a) n).1) ∧ ColG w' base base g k (a + (unpackL (xs.drop a) n).2.1 : Nat) none 0 0 [] B m cb xs ∧ a + (unpackL (xs.drop a) n).2.1 ≤ m ∧ Below base w w' ∧ Apart w.heap.size g w w' := by
 have HC := Lib.hid h
 have Hxl := Lib.hid (show xs.length = m from reads_len h.bytes)
 have Hle := Lib.hid h.le
 have Hmx := Lib.hid h.max
 have hsz := unpackL_size (xs.drop a) n
 rw [List.length_drop, Hxl.out] at hsz
 have Hsz := Lib.hid hsz
 have HS2 := Lib.hid (show ∀ w', Below w.heap.size w w' → w'.cell? ⟨g, 2, none⟩ = some (.slice B m cb) from fun w' h' => (HC.out.blk.on h').cell 2)
 have HS3 := Lib.hid (show ∀ w', Below w.heap.size w w' → w'.cell? ⟨g, 3, none⟩ = some (.int .i64 (a : Int)) from fun w' h' => (HC.out.blk.on h').cell 3)
 have d1 : ((a : Nat) : Int).toNat = a := by simp
 have hcut := Lib.hid ((HC.out.reads.cut (k := a) ha HC.out.le).drew)
 rw [Nat.mul_one, u8s_drop] at hcut
 clear h hsz
 go_enter Tryz.func155, Tryz.ntmps155
 go_wp2
 have hS : Below w.heap.size w w.drew := (Below.refl _ _).drew
 have hcm : cb ≤ 9223372036854775807 := by have := Hmx.out; simp only [maxLen] at this; omega
 have hmc := Hle.out
 obtain ⟨A2, hA2⟩ : ∃ A2, (if cb = a then B else Option.map (fun x => x.add a) B) = A2 := ⟨_, rfl⟩
 rw [hA2] at hcut
 refine wp_region_keep (fun w' => Below w.heap.size w w') [(0, false), (1, false), (2, false), (3, false), (4, false), (5, false), (6, false), (7, false), (8, false), (9, false), (10, true), (11, false), (12, false), (13, false), (14, false), (15, false), (16, false), (17, false)] (by kernel_rfl) (by kernel_rfl) (by kernel_rfl) (fun d _ _ _ _ h => by cases d <;> exact h) ?_
 iterate 3
  refine held_pure (v := ?_) rfl rfl (by simp [Region.wanted, yielded]) hS ?_ ?_
  rotate_left
  ·intro w hw; go_simp; try with_reducible rfl
  try simp only [Act.put, zpA, zpB, zpC]
 refine held_pure (v := ?_) rfl rfl (by simp [Region.wanted, yielded]) hS ?_ ?_
 rotate_left
 ·intro w hw; have c0 := HS2.out w hw; clear hw; go_simp; try with_reducible rfl
 try simp only [Act.put, zpA, zpB, zpC]
 iterate 3
  refine held_pure (v := ?_) rfl rfl (by simp [Region.wanted, yielded]) hS ?_ ?_
  rotate_left
  ·intro w hw; go_simp; try with_reducible rfl
  try simp only [Act.put, zpA, zpB, zpC]
 refine held_pure (v := ?_) rfl rfl (by simp [Region.wanted, yielded]) hS ?_ ?_
 rotate_left
 ·intro w hw; have c0 := HS3.out w hw; clear hw; go_simp; try with_reducible rfl
 try simp only [Act.put, zpA, zpB, zpC]
 iterate 2
  refine held_pure (v := ?_) rfl rfl (by simp [Region.wanted, yielded]) hS ?_ ?_
  rotate_left
  ·intro w hw; go_simp; try with_reducible rfl
  try simp only [Act.put, zpA, zpB, zpC]
 clear hA2
 refine held_eff1 rfl (by simp [Region.wanted, yielded]) fun K hK => ?_
 go_simp
 with_reducible refine (munpack_any A2 (m - a) (cb - a) (xs.drop a) n _ hcut.out (by omega) (by have := Hmx.out; omega) hn1 hn2).mono ?_
 rintro e w3 ⟨A3, c3, rfl, q1, q2, q3, q4⟩
 generalize hr0 : unpackL (xs.drop a) n = r at *
 obtain ⟨bl, sz, er⟩ := r
 have Hr0 := Lib.hid hr0
 clear hr0
 simp only at q1 q2 q3 q4 Hsz ⊢
 have Q := Lib.hid (And.intro q1 (And.intro q2 q3))
 have HC3 := Lib.hid (HC.out.onDrew.below q4)
 have HB3 := Lib.hid (((Below.refl base w).drew).trans (q4.mono HC.out.onDrew.base_le))
 have HP3 := Lib.hid ((Apart.refl w.heap.size g w).drew.below q4 (Nat.le_refl _))
 clear q1 q2 q3
 refine held_go hK (by exact hS.trans q4) fun hS => ?_
 clear hK K
 try simp only [Act.put, zpA, zpB, zpC]
 clear q4
 iterate 7
  refine held_pure (v := ?_) rfl rfl (by simp [Region.wanted, yielded]) hS ?_ ?_
  rotate_left
  ·intro w hw; go_simp; try with_reducible rfl
  try simp only [Act.put, zpA, zpB, zpC]
 refine held_end ?_
 have c3' := HC3.out.blk.cell 3
 have f3' := HC3.out.blk.frozen 3
 have hseek := Lib.hid (HC3.out.seek ((a + sz : Nat) : Int))
 obtain ⟨q, hq⟩ : ∃ q, q = a + sz := ⟨_, rfl⟩
 rw [← hq] at hseek
 have Hq := Lib.hid hq
 have hsum : (a : Int) + (sz : Int) = (q : Int) := by omega
 have hsz2 : q ≤ m := by have := Hsz.out.1; omega
 have hmm : m ≤ 9223372036854775807 := by omega
 clear hq
 go_wp2
 go_ret2
 have hq2 := Hq.out
 subst hq2
 rw [Hr0.out]
 exact ⟨A3, c3, rfl, Q.out.1, Q.out.2.1, (Q.out.2.2.notin (i := 3) (v := .int .i64 ((a + sz : Nat) : Int)) HC3.out.blk (not_bls _)).more (by simp), hseek.out, hsz2, HB3.out.setCell (p := ⟨g, 3, none⟩) HC.out.far _, HP3.out.set 3 _⟩
theorem own_caps {w : World} {base : Nat} {e : TypeId} {size n c : Nat} {A : Option Addr} {xs : List Value} (h : w.ownsRow base e size (.slice A n c) n xs) : n ≤ c ∧ c ≤ maxLen := by
 obtain ⟨A2, c2, h1, h2, h3⟩ := own_shape h
 injection h1 with _ _ h4
 subst h4
 exact ⟨h2, h3⟩
def getF (k : Int) : Nat := if k = 1 then 195 else if k = 4 then 197 else if k = 5 then 198 else 196
def GotF (r : GotC) (base g : Nat) (k : Int) (a : Nat) (B : Option Addr) (m cb : Nat) (xs : List UInt8) (w : World) (e : Ending) (w' : World) : Prop :=
 Below base w w' ∧ Apart w.heap.size g w w' ∧ match r with
  | .error n => e = .returned (.int .i64 (n : Int)) ∧ n ≠ 0
  | .ok (l, s) => e = .returned (.int .i64 0) ∧ a + s ≤ m ∧ l.length ≤ 1048576 ∧ ∃ A c, l.length ≤ c ∧ c ≤ maxLen ∧ ColG w' base base g k (a + s : Nat) A l.length c l B m cb xs
set_option maxRecDepth 100000 in
set_option maxHeartbeats 2000000 in
theorem getBools_any (base g : Nat) (a : Nat) (B : Option Addr) (m cb : Nat) (xs : List UInt8) (n : Int) (w : World) (h : ColG w base base g 1 a none 0 0 [] B m cb xs) (ha : a ≤ m) (hn1 : -9223372036854775808 ≤ n) (hn2 : n ≤ 9223372036854775807) :
  Calls Tryz.prog 195 #[.pointer (some ⟨g, 0, none⟩), .int .i64 n] w (GotF (getB 1 (xs.drop a) n) base g 1 a B m cb xs w) := by
 obtain ⟨j0, hj0, hk0, hj1, hk2⟩ := info_parts cell_info
 have H := Lib.hid h
 clear h
 go_enter Tryz.func195, Tryz.ntmps195
 go_wp2_with fail
 with_reducible refine (bools_any base g 1 a B m cb xs n _ H.out ha hn1 hn2).mono ?_
 rintro e w1 ⟨AL, cL, rfl, q1, q2, q3, q4, q5, q6, q7⟩
 have hus := (unpackL_size (xs.drop a) n).2.1
 have hgb : getB 1 (xs.drop a) n = (if (unpackL (xs.drop a) n).2.2 = 0 then .ok ((unpackL (xs.drop a) n).1.map boolC, (unpackL (xs.drop a) n).2.1) else .error (unpackL (xs.drop a) n).2.2) := by simp only [getB, if_true]
 have hemp : (unpackL (xs.drop a) n).2.2 ≠ 0 → (unpackL (xs.drop a) n).1 = [] := by
  rcases unpackL_only (xs.drop a) n with ⟨l, t, e, -⟩ | ⟨e, h, -⟩
  ·rw [e]; intro h; exact absurd rfl h
  ·rw [h]; intro _; rfl
 have Hgb := Lib.hid hgb
 clear hgb
 generalize unpackL (xs.drop a) n = r at *
 obtain ⟨bl, sz, er⟩ := r
 simp only at q1 q2 q3 q4 q5 q6 hus hemp Hgb
 have HSZ := Lib.hid (fun _ : er = 0 => q5)
 have Q1 := Lib.hid q1
 have Q2 := Lib.hid q2
 have Hemp := Lib.hid hemp
 have Hus := Lib.hid hus
 obtain ⟨bc, hbc⟩ : ∃ bc, bc = w1.heap.size := ⟨_, rfl⟩
 rw [← hbc] at q3
 have HC := Lib.hid (q4.fresh (b2 := bc) (by rw [hbc]; exact q4.base_le))
 have HL := Lib.hid q3
 have HB := Lib.hid q6
 have HP := Lib.hid q7
 have Hbw := Lib.hid (show w.heap.size ≤ bc by rw [hbc]; exact q6.size)
 have HB1 := Lib.hid (show bc ≤ w1.heap.size by omega)
 clear q1 q2 q3 q4 q5 q6 q7 hemp hus hbc
 go_wp2
 go_loopw [18] (fun i wr => ∃ (j : Nat) (A1 : Option Addr) (c1 : Nat), j ≤ bl.length ∧ i = .int .i64 (j : Int) ∧ Hid (ColG wr base bc g 1 (a + sz : Nat) A1 j c1 ((bl.take j).map boolC) B m cb xs) ∧ Hid (Reads wr bc 1 AL bl.length (bls bl)) ∧ Hid (bc ≤ wr.heap.size) ∧ Hid (Apart w.heap.size g w wr) ∧ Hid (Below base w wr)) (fun i _ => bl.length - (intOf i).toNat)
 case atStart => exact ⟨0, none, 0, Nat.zero_le _, rfl, by simpa using HC, HL, HB1, HP, HB⟩
 case round =>
  obtain ⟨j, A1, c1, hj, rfl, HC, HL, HB1, HP, HB⟩ := hrel
  by_cases hlt : j < bl.length
  ·obtain ⟨ad, u, rfl, hbk, hu, hcell⟩ := HL.out.at_ hlt
   obtain ⟨is, hx, rfl⟩ := bls_get _ _ _ hu
   have Hx := Lib.hid hx
   clear hu hx hbk
   have hlow := HC.out.low (Nat.le_refl _)
   have Hrow := Lib.hid hlow.1
   have Hgp := Lib.hid hlow.2
   have Hnx := Lib.hid (show j ≤ 2097152 by have := Hus.out; omega)
   have HC := Lib.hid (HC.out.below ((Below.refl _ wr).alloc (Nat.le_refl _) (.cells #[.bool false, .int .i64 (if is = true then 1 else 0), .string ⟨#[]⟩] 23)))
   have HX := Lib.hid (Blk.new wr 23 #[.bool false, .int .i64 (if is = true then 1 else 0), .string ⟨#[]⟩])
   have HL := Lib.hid (HL.out.alloc HB1.out (.cells #[.bool false, .int .i64 (if is = true then 1 else 0), .string ⟨#[]⟩] 23))
   have HP := Lib.hid (HP.out.alloc HB.out.size (.cells #[.bool false, .int .i64 (if is = true then 1 else 0), .string ⟨#[]⟩] 23))
   have HB := Lib.hid (HB.out.alloc (Nat.le_trans HC.out.low0 HB1.out) (.cells #[.bool false, .int .i64 (if is = true then 1 else 0), .string ⟨#[]⟩] 23))
   have Hbs := Lib.hid (Nat.le_trans HB1.out (by simp) : bc ≤ (wr.alloc (.cells #[.bool false, .int .i64 (if is = true then 1 else 0), .string ⟨#[]⟩] 23)).heap.size)
   have HB1 := Hbs
   obtain ⟨W0, hW0⟩ : ∃ W0, W0 = wr.alloc (.cells #[.bool false, .int .i64 (if is = true then 1 else 0), .string ⟨#[]⟩] 23) := ⟨_, rfl⟩
   rw [← hW0] at HC HX HL HB HP Hbs HB1
   cases is with
   | false =>
    go_wp2
    simp only [Bool.false_eq_true, if_false] at hW0 HX
    rw [← hW0]
    clear hW0 hcell
    have hS : Below base W0 W0.drew ∧ Blk W0.drew wr.heap.size 23 #[.bool false, .int .i64 0, .string ⟨#[]⟩] := ⟨(Below.refl _ _).drew, HX.out⟩
    have HV0 := Lib.hid (show ∀ w', Below base W0 w' ∧ Blk w' wr.heap.size 23 #[.bool false, .int .i64 0, .string ⟨#[]⟩] → w'.cell? ⟨wr.heap.size, 0, none⟩ = some (.bool false) from fun w' h => h.2.cell 0)
    have HV1 := Lib.hid (show ∀ w', Below base W0 w' ∧ Blk w' wr.heap.size 23 #[.bool false, .int .i64 0, .string ⟨#[]⟩] → w'.cell? ⟨wr.heap.size, 1, none⟩ = some (.int .i64 0) from fun w' h => h.2.cell 1)
    have HV2 := Lib.hid (show ∀ w', Below base W0 w' ∧ Blk w' wr.heap.size 23 #[.bool false, .int .i64 0, .string ⟨#[]⟩] → w'.cell? ⟨wr.heap.size, 2, none⟩ = some (.string ⟨#[]⟩) from fun w' h => h.2.cell 2)
    have HCW := HC
    have HC := Lib.hid (HC.out.onDrew)
    refine wp_region_plan (fun w' => Below base W0 w' ∧ Blk w' wr.heap.size 23 #[.bool false, .int .i64 0, .string ⟨#[]⟩]) (.pure 0 (.pure 1 (.pure 2 (.pure 3 (.pure 5 (.fork 4 6 (.eff 6 (.eff 7 (.pure 8 (.pure 9 (.eff 10 .done))))) (.eff 4 (.eff 7 (.pure 8 (.pure 9 (.eff 10 .done))))))))))) (by kernel_rfl) (by kernel_rfl) (by kernel_rfl) (fun d _ _ _ _ h => by cases d <;> exact h) ?_
    iterate 4
     refine plan_pure (v := ?_) rfl rfl (by simp [Region.wanted, yielded]) hS ?_ ?_
     rotate_left
     ·intro w hw; go_simp; try with_reducible rfl
     try simp only [Act.put, zpA, zpB, zpC]
    refine plan_pure (v := ?_) rfl rfl (by simp [Region.wanted, yielded]) hS ?_ ?_
    rotate_left
    ·intro w hw; have c0 := HV0.out w hw; have c1 := HV1.out w hw; have c2 := HV2.out w hw; clear hw; go_simp; try with_reducible rfl
    try simp only [Act.put, zpA, zpB, zpC]
    refine plan_fork ?_ ?_
    ·have c1 := HC.out.blk.cell 1
     refine plan_eff1 rfl (by simp [Region.wanted, yielded]) fun K hK => ?_
     go_simp
     refine held_go hK (by exact hS) fun hS => ?_
     clear hK K
     try simp only [Act.put, zpA, zpB, zpC]
     clear c1
     refine plan_eff1 rfl (by simp [Region.wanted, yielded]) fun K hK => ?_
     go_simp
     have HR := Lib.hid ((reads_cell W0 false 0 ⟨#[]⟩).drew)
     have HC := Lib.hid ((HCW.out.below ((Below.refl _ W0).alloc (Nat.le_refl _) (.cells #[.bool false, .int .i64 0, .string ⟨#[]⟩] 23))).onDrew)
     refine held_go hK (by exact ⟨hS.1.alloc (Nat.le_trans (Nat.le_trans HC.out.low0 Hbs.out) hS.1.size) _, hS.2.alloc _⟩) fun hS => ?_
     clear hK K
     try simp only [Act.put, zpA, zpB, zpC]
     refine plan_eff1 rfl (by simp [Region.wanted, yielded]) fun K hK => ?_
     refine wp_append_any _ (.tmp 29) (.tmp 31) 24 rfl bc 23 j0 (.agg #[.bool false, .int .i64 0, .string ⟨#[]⟩]) 3 32 Tryz.underlying24 hj0 hk0 hj1 hk2 rfl (by decide) A1 j c1 _ rfl HC.out.cells (some ⟨_, 0, none⟩) 1 1 (cls [(false, 0, ⟨#[]⟩)]) rfl HR.out (cls_one _) (by have := Hnx.out; simp only [maxLen]; omega) (by have := Hnx.out; omega) (Nat.le_trans Hbs.out hS.1.size) ?_
     intro A9 c9 w9 r1 r2 r3 r4 r5
     rw [← cls_append] at r1
     have HA := Lib.hid (HC.out.app r3 r2 r1)
     have R2 := Lib.hid r2
     have r2 := r2.mono HC.out.low0
     have HX9 := Lib.hid (blk_row hS.2 r3 Hrow.out)
     have hT := Lib.hid (hS.1.trans r2)
     have G9 := Lib.hid r3
     clear r1 r2 r3 r4 r5
     refine held_go hK (by exact ⟨hT.out, HX9.out⟩) fun hS => ?_
     clear hK K
     try simp only [Act.put, zpA, zpB, zpC]
     iterate 2
      refine plan_pure (v := ?_) rfl rfl (by simp [Region.wanted, yielded]) hS ?_ ?_
      rotate_left
      ·intro w hw; go_simp; try with_reducible rfl
      try simp only [Act.put, zpA, zpB, zpC]
     have c2 := HA.out.2.cell 1
     have f2 := HA.out.2.frozen 1
     refine plan_eff1 rfl (by simp [Region.wanted, yielded]) fun K hK => ?_
     go_simp
     clear c2 f2
     refine held_go hK (by exact ⟨hT.out.setCell (p := ⟨g, 1, none⟩) HC.out.far _, HX9.out.far (p := ⟨g, 1, none⟩) Hgp.out.symm _⟩) fun hS => ?_
     clear hK K
     try simp only [Act.put, zpA, zpB, zpC]
     refine plan_end ?_
     have hT := Lib.hid (hT.out.setCell (p := ⟨g, 1, none⟩) HC.out.far (.slice A9 (j + 1) c9))
     clear HX9 HR
     clear HV0 HV1 HV2
     have HC := Lib.hid (show ColG _ base bc g 1 (a + sz : Nat) A9 (j + 1) c9 ((bl.take (j + 1)).map boolC) B m cb xs by
      have := HA.out.1
      rw [List.take_add_one, Hx.out, List.map_append]
      exact this)
     have HL := Lib.hid (((((HL.out.alloc HB1.out _).drew).below R2.out).notin (i := 1) (v := .slice A9 (j + 1) c9) HA.out.2 (not_bls _)))
     have HP := Lib.hid (((HP.out.alloc HB.out.size (.cells #[.bool false, .int .i64 _, .string ⟨#[]⟩] 23)).drew.below R2.out Hbw.out).set 1 (.slice A9 (j + 1) c9))
     have HB := Lib.hid (HB.out.trans hT.out)
     have HB1 := Lib.hid (show bc ≤ (w9.setCell ⟨g, 1, none⟩ (.slice A9 (j + 1) c9)).heap.size by have h1 := R2.out.size; have h2 := HB1.out; simp at h1 ⊢; omega)
     have hus1 := Hus.out
     go_wp2
     go_roundw
     case rel => exact ⟨j + 1, A9, c9, by omega, by go_num, HC, HL, HB1, HP, HB⟩
     case measure => simp [intOf]; omega
    ·refine plan_eff1 rfl (by simp [Region.wanted, yielded]) fun K hK => ?_
     go_simp
     have HR := Lib.hid ((reads_cell W0 false 0 ⟨#[]⟩).drew)
     have HC := Lib.hid ((HCW.out.below ((Below.refl _ W0).alloc (Nat.le_refl _) (.cells #[.bool false, .int .i64 0, .string ⟨#[]⟩] 23))).onDrew)
     refine held_go hK (by exact ⟨hS.1.alloc (Nat.le_trans (Nat.le_trans HC.out.low0 Hbs.out) hS.1.size) _, hS.2.alloc _⟩) fun hS => ?_
     clear hK K
     try simp only [Act.put, zpA, zpB, zpC]
     have c1 := HC.out.blk.cell 1
     refine plan_eff1 rfl (by simp [Region.wanted, yielded]) fun K hK => ?_
     go_simp
     refine held_go hK (by exact hS) fun hS => ?_
     clear hK K
     try simp only [Act.put, zpA, zpB, zpC]
     clear c1
     refine plan_eff1 rfl (by simp [Region.wanted, yielded]) fun K hK => ?_
     refine wp_append_any _ (.tmp 29) (.tmp 31) 24 rfl bc 23 j0 (.agg #[.bool false, .int .i64 0, .string ⟨#[]⟩]) 3 32 Tryz.underlying24 hj0 hk0 hj1 hk2 rfl (by decide) A1 j c1 _ rfl HC.out.cells (some ⟨_, 0, none⟩) 1 1 (cls [(false, 0, ⟨#[]⟩)]) rfl HR.out (cls_one _) (by have := Hnx.out; simp only [maxLen]; omega) (by have := Hnx.out; omega) (Nat.le_trans Hbs.out hS.1.size) ?_
     intro A9 c9 w9 r1 r2 r3 r4 r5
     rw [← cls_append] at r1
     have HA := Lib.hid (HC.out.app r3 r2 r1)
     have R2 := Lib.hid r2
     have r2 := r2.mono HC.out.low0
     have HX9 := Lib.hid (blk_row hS.2 r3 Hrow.out)
     have hT := Lib.hid (hS.1.trans r2)
     have G9 := Lib.hid r3
     clear r1 r2 r3 r4 r5
     refine held_go hK (by exact ⟨hT.out, HX9.out⟩) fun hS => ?_
     clear hK K
     try simp only [Act.put, zpA, zpB, zpC]
     iterate 2
      refine plan_pure (v := ?_) rfl rfl (by simp [Region.wanted, yielded]) hS ?_ ?_
      rotate_left
      ·intro w hw; go_simp; try with_reducible rfl
      try simp only [Act.put, zpA, zpB, zpC]
     have c2 := HA.out.2.cell 1
     have f2 := HA.out.2.frozen 1
     refine plan_eff1 rfl (by simp [Region.wanted, yielded]) fun K hK => ?_
     go_simp
     clear c2 f2
     refine held_go hK (by exact ⟨hT.out.setCell (p := ⟨g, 1, none⟩) HC.out.far _, HX9.out.far (p := ⟨g, 1, none⟩) Hgp.out.symm _⟩) fun hS => ?_
     clear hK K
     try simp only [Act.put, zpA, zpB, zpC]
     refine plan_end ?_
     have hT := Lib.hid (hT.out.setCell (p := ⟨g, 1, none⟩) HC.out.far (.slice A9 (j + 1) c9))
     clear HX9 HR
     clear HV0 HV1 HV2
     have HC := Lib.hid (show ColG _ base bc g 1 (a + sz : Nat) A9 (j + 1) c9 ((bl.take (j + 1)).map boolC) B m cb xs by
      have := HA.out.1
      rw [List.take_add_one, Hx.out, List.map_append]
      exact this)
     have HL := Lib.hid (((((HL.out.alloc HB1.out _).drew).below R2.out).notin (i := 1) (v := .slice A9 (j + 1) c9) HA.out.2 (not_bls _)))
     have HP := Lib.hid (((HP.out.alloc HB.out.size (.cells #[.bool false, .int .i64 _, .string ⟨#[]⟩] 23)).drew.below R2.out Hbw.out).set 1 (.slice A9 (j + 1) c9))
     have HB := Lib.hid (HB.out.trans hT.out)
     have HB1 := Lib.hid (show bc ≤ (w9.setCell ⟨g, 1, none⟩ (.slice A9 (j + 1) c9)).heap.size by have h1 := R2.out.size; have h2 := HB1.out; simp at h1 ⊢; omega)
     have hus1 := Hus.out
     go_wp2
     go_roundw
     case rel => exact ⟨j + 1, A9, c9, by omega, by go_num, HC, HL, HB1, HP, HB⟩
     case measure => simp [intOf]; omega
   | true =>
    go_wp2
    simp only [if_true] at hW0 HX
    rw [← hW0]
    clear hW0 hcell
    have hS : Below base W0 W0.drew ∧ Blk W0.drew wr.heap.size 23 #[.bool false, .int .i64 1, .string ⟨#[]⟩] := ⟨(Below.refl _ _).drew, HX.out⟩
    have HV0 := Lib.hid (show ∀ w', Below base W0 w' ∧ Blk w' wr.heap.size 23 #[.bool false, .int .i64 1, .string ⟨#[]⟩] → w'.cell? ⟨wr.heap.size, 0, none⟩ = some (.bool false) from fun w' h => h.2.cell 0)
    have HV1 := Lib.hid (show ∀ w', Below base W0 w' ∧ Blk w' wr.heap.size 23 #[.bool false, .int .i64 1, .string ⟨#[]⟩] → w'.cell? ⟨wr.heap.size, 1, none⟩ = some (.int .i64 1) from fun w' h => h.2.cell 1)
    have HV2 := Lib.hid (show ∀ w', Below base W0 w' ∧ Blk w' wr.heap.size 23 #[.bool false, .int .i64 1, .string ⟨#[]⟩] → w'.cell? ⟨wr.heap.size, 2, none⟩ = some (.string ⟨#[]⟩) from fun w' h => h.2.cell 2)
    have HCW := HC
    have HC := Lib.hid (HC.out.onDrew)
    refine wp_region_plan (fun w' => Below base W0 w' ∧ Blk w' wr.heap.size 23 #[.bool false, .int .i64 1, .string ⟨#[]⟩]) (.pure 0 (.pure 1 (.pure 2 (.pure 3 (.pure 5 (.fork 4 6 (.eff 6 (.eff 7 (.pure 8 (.pure 9 (.eff 10 .done))))) (.eff 4 (.eff 7 (.pure 8 (.pure 9 (.eff 10 .done))))))))))) (by kernel_rfl) (by kernel_rfl) (by kernel_rfl) (fun d _ _ _ _ h => by cases d <;> exact h) ?_
    iterate 4
     refine plan_pure (v := ?_) rfl rfl (by simp [Region.wanted, yielded]) hS ?_ ?_
     rotate_left
     ·intro w hw; go_simp; try with_reducible rfl
     try simp only [Act.put, zpA, zpB, zpC]
    refine plan_pure (v := ?_) rfl rfl (by simp [Region.wanted, yielded]) hS ?_ ?_
    rotate_left
    ·intro w hw; have c0 := HV0.out w hw; have c1 := HV1.out w hw; have c2 := HV2.out w hw; clear hw; go_simp; try with_reducible rfl
    try simp only [Act.put, zpA, zpB, zpC]
    refine plan_fork ?_ ?_
    ·have c1 := HC.out.blk.cell 1
     refine plan_eff1 rfl (by simp [Region.wanted, yielded]) fun K hK => ?_
     go_simp
     refine held_go hK (by exact hS) fun hS => ?_
     clear hK K
     try simp only [Act.put, zpA, zpB, zpC]
     clear c1
     refine plan_eff1 rfl (by simp [Region.wanted, yielded]) fun K hK => ?_
     go_simp
     have HR := Lib.hid ((reads_cell W0 false 1 ⟨#[]⟩).drew)
     have HC := Lib.hid ((HCW.out.below ((Below.refl _ W0).alloc (Nat.le_refl _) (.cells #[.bool false, .int .i64 1, .string ⟨#[]⟩] 23))).onDrew)
     refine held_go hK (by exact ⟨hS.1.alloc (Nat.le_trans (Nat.le_trans HC.out.low0 Hbs.out) hS.1.size) _, hS.2.alloc _⟩) fun hS => ?_
     clear hK K
     try simp only [Act.put, zpA, zpB, zpC]
     refine plan_eff1 rfl (by simp [Region.wanted, yielded]) fun K hK => ?_
     refine wp_append_any _ (.tmp 29) (.tmp 31) 24 rfl bc 23 j0 (.agg #[.bool false, .int .i64 0, .string ⟨#[]⟩]) 3 32 Tryz.underlying24 hj0 hk0 hj1 hk2 rfl (by decide) A1 j c1 _ rfl HC.out.cells (some ⟨_, 0, none⟩) 1 1 (cls [(false, 1, ⟨#[]⟩)]) rfl HR.out (cls_one _) (by have := Hnx.out; simp only [maxLen]; omega) (by have := Hnx.out; omega) (Nat.le_trans Hbs.out hS.1.size) ?_
     intro A9 c9 w9 r1 r2 r3 r4 r5
     rw [← cls_append] at r1
     have HA := Lib.hid (HC.out.app r3 r2 r1)
     have R2 := Lib.hid r2
     have r2 := r2.mono HC.out.low0
     have HX9 := Lib.hid (blk_row hS.2 r3 Hrow.out)
     have hT := Lib.hid (hS.1.trans r2)
     have G9 := Lib.hid r3
     clear r1 r2 r3 r4 r5
     refine held_go hK (by exact ⟨hT.out, HX9.out⟩) fun hS => ?_
     clear hK K
     try simp only [Act.put, zpA, zpB, zpC]
     iterate 2
      refine plan_pure (v := ?_) rfl rfl (by simp [Region.wanted, yielded]) hS ?_ ?_
      rotate_left
      ·intro w hw; go_simp; try with_reducible rfl
      try simp only [Act.put, zpA, zpB, zpC]
     have c2 := HA.out.2.cell 1
     have f2 := HA.out.2.frozen 1
     refine plan_eff1 rfl (by simp [Region.wanted, yielded]) fun K hK => ?_
     go_simp
     clear c2 f2
     refine held_go hK (by exact ⟨hT.out.setCell (p := ⟨g, 1, none⟩) HC.out.far _, HX9.out.far (p := ⟨g, 1, none⟩) Hgp.out.symm _⟩) fun hS => ?_
     clear hK K
     try simp only [Act.put, zpA, zpB, zpC]
     refine plan_end ?_
     have hT := Lib.hid (hT.out.setCell (p := ⟨g, 1, none⟩) HC.out.far (.slice A9 (j + 1) c9))
     clear HX9 HR
     clear HV0 HV1 HV2
     have HC := Lib.hid (show ColG _ base bc g 1 (a + sz : Nat) A9 (j + 1) c9 ((bl.take (j + 1)).map boolC) B m cb xs by
      have := HA.out.1
      rw [List.take_add_one, Hx.out, List.map_append]
      exact this)
     have HL := Lib.hid (((((HL.out.alloc HB1.out _).drew).below R2.out).notin (i := 1) (v := .slice A9 (j + 1) c9) HA.out.2 (not_bls _)))
     have HP := Lib.hid (((HP.out.alloc HB.out.size (.cells #[.bool false, .int .i64 _, .string ⟨#[]⟩] 23)).drew.below R2.out Hbw.out).set 1 (.slice A9 (j + 1) c9))
     have HB := Lib.hid (HB.out.trans hT.out)
     have HB1 := Lib.hid (show bc ≤ (w9.setCell ⟨g, 1, none⟩ (.slice A9 (j + 1) c9)).heap.size by have h1 := R2.out.size; have h2 := HB1.out; simp at h1 ⊢; omega)
     have hus1 := Hus.out
     go_wp2
     go_roundw
     case rel => exact ⟨j + 1, A9, c9, by omega, by go_num, HC, HL, HB1, HP, HB⟩
     case measure => simp [intOf]; omega
    ·refine plan_eff1 rfl (by simp [Region.wanted, yielded]) fun K hK => ?_
     go_simp
     have HR := Lib.hid ((reads_cell W0 false 1 ⟨#[]⟩).drew)
     have HC := Lib.hid ((HCW.out.below ((Below.refl _ W0).alloc (Nat.le_refl _) (.cells #[.bool false, .int .i64 1, .string ⟨#[]⟩] 23))).onDrew)
     refine held_go hK (by exact ⟨hS.1.alloc (Nat.le_trans (Nat.le_trans HC.out.low0 Hbs.out) hS.1.size) _, hS.2.alloc _⟩) fun hS => ?_
     clear hK K
     try simp only [Act.put, zpA, zpB, zpC]
     have c1 := HC.out.blk.cell 1
     refine plan_eff1 rfl (by simp [Region.wanted, yielded]) fun K hK => ?_
     go_simp
     refine held_go hK (by exact hS) fun hS => ?_
     clear hK K
     try simp only [Act.put, zpA, zpB, zpC]
     clear c1
     refine plan_eff1 rfl (by simp [Region.wanted, yielded]) fun K hK => ?_
     refine wp_append_any _ (.tmp 29) (.tmp 31) 24 rfl bc 23 j0 (.agg #[.bool false, .int .i64 0, .string ⟨#[]⟩]) 3 32 Tryz.underlying24 hj0 hk0 hj1 hk2 rfl (by decide) A1 j c1 _ rfl HC.out.cells (some ⟨_, 0, none⟩) 1 1 (cls [(false, 1, ⟨#[]⟩)]) rfl HR.out (cls_one _) (by have := Hnx.out; simp only [maxLen]; omega) (by have := Hnx.out; omega) (Nat.le_trans Hbs.out hS.1.size) ?_
     intro A9 c9 w9 r1 r2 r3 r4 r5
     rw [← cls_append] at r1
     have HA := Lib.hid (HC.out.app r3 r2 r1)
     have R2 := Lib.hid r2
     have r2 := r2.mono HC.out.low0
     have HX9 := Lib.hid (blk_row hS.2 r3 Hrow.out)
     have hT := Lib.hid (hS.1.trans r2)
     have G9 := Lib.hid r3
     clear r1 r2 r3 r4 r5
     refine held_go hK (by exact ⟨hT.out, HX9.out⟩) fun hS => ?_
     clear hK K
     try simp only [Act.put, zpA, zpB, zpC]
     iterate 2
      refine plan_pure (v := ?_) rfl rfl (by simp [Region.wanted, yielded]) hS ?_ ?_
      rotate_left
      ·intro w hw; go_simp; try with_reducible rfl
      try simp only [Act.put, zpA, zpB, zpC]
     have c2 := HA.out.2.cell 1
     have f2 := HA.out.2.frozen 1
     refine plan_eff1 rfl (by simp [Region.wanted, yielded]) fun K hK => ?_
     go_simp
     clear c2 f2
     refine held_go hK (by exact ⟨hT.out.setCell (p := ⟨g, 1, none⟩) HC.out.far _, HX9.out.far (p := ⟨g, 1, none⟩) Hgp.out.symm _⟩) fun hS => ?_
     clear hK K
     try simp only [Act.put, zpA, zpB, zpC]
     refine plan_end ?_
     have hT := Lib.hid (hT.out.setCell (p := ⟨g, 1, none⟩) HC.out.far (.slice A9 (j + 1) c9))
     clear HX9 HR
     clear HV0 HV1 HV2
     have HC := Lib.hid (show ColG _ base bc g 1 (a + sz : Nat) A9 (j + 1) c9 ((bl.take (j + 1)).map boolC) B m cb xs by
      have := HA.out.1
      rw [List.take_add_one, Hx.out, List.map_append]
      exact this)
     have HL := Lib.hid (((((HL.out.alloc HB1.out _).drew).below R2.out).notin (i := 1) (v := .slice A9 (j + 1) c9) HA.out.2 (not_bls _)))
     have HP := Lib.hid (((HP.out.alloc HB.out.size (.cells #[.bool false, .int .i64 _, .string ⟨#[]⟩] 23)).drew.below R2.out Hbw.out).set 1 (.slice A9 (j + 1) c9))
     have HB := Lib.hid (HB.out.trans hT.out)
     have HB1 := Lib.hid (show bc ≤ (w9.setCell ⟨g, 1, none⟩ (.slice A9 (j + 1) c9)).heap.size by have h1 := R2.out.size; have h2 := HB1.out; simp at h1 ⊢; omega)
     have hus1 := Hus.out
     go_wp2
     go_roundw
     case rel => exact ⟨j + 1, A9, c9, by omega, by go_num, HC, HL, HB1, HP, HB⟩
     case measure => simp [intOf]; omega
  ·obtain rfl : j = bl.length := by omega
   go_wp2
   go_ret
   rw [Hgb.out]
   refine ⟨HB.out, HP.out, ?_⟩
   by_cases he : er = 0
   ·subst he
    have hl := HC.out
    rw [List.take_of_length_le (Nat.le_refl _)] at hl
    have hm := HSZ.out rfl
    simp only [if_true, List.length_map]
    obtain ⟨q1, q2⟩ := own_caps hl.cells
    exact ⟨rfl, hm, Hus.out, A1, c1, q1, q2, hl.floor⟩
   ·simp only [if_neg he]
    exact ⟨rfl, he⟩
end Go.Proofs.YtjpjalmilfgckaaGreatDoor
namespace Go.Proofs.YtjpjalmilfgckaaGreatDoor
open Go.RowKit
def TabB (B : Nat) (w : World) : Prop := 2 < B ∧ 3 < B ∧ Tabs w
theorem Tabs.low {w : World} (h : Tabs w) : TabB w.heap.size w := by
 have lt : ∀ {a : Addr} {v : Value}, w.cell? a = some v → a.block < w.heap.size := fun {a v} hc => by
  rcases Nat.lt_or_ge a.block w.heap.size with h' | h'
  ·exact h'
  ·simp [World.cell?, Array.getElem?_eq_none h'] at hc
 exact ⟨lt (h.1 0 (by decide)), lt (h.2 0 (by decide)).1, h⟩
theorem TabB.keep {B : Nat} {w w' : World} (h : TabB B w) (hb : Below B w w') : TabB B w' :=
 ⟨h.1, h.2.1, fun c hc => (hb.cell (p := ⟨_, c, none⟩) h.1).trans (h.2.2.1 c hc), fun i hi => ⟨(hb.cell (p := ⟨_, 2 * i, none⟩) h.2.1).trans (h.2.2.2 i hi).1, (hb.cell (p := ⟨_, 2 * i + 1, none⟩) h.2.1).trans (h.2.2.2 i hi).2⟩⟩
theorem TabB.tabs {B : Nat} {w : World} (h : TabB B w) : Tabs w := h.2.2
theorem checkE_is {k : Int} (hk : mayK k = true) (nl : Bool) (n : Int) (s : ByteArray) : checkE k nl (false, n, s) = if isC k (false, n, s) = true then 0 else 90 := by
 unfold checkE
 rw [if_pos hk]
 simp
theorem iterC_next {f : List Cl × Nat → GotC} {n : Nat} {l : List Cl} {s : Nat} {r : GotC} (h : iterC f n = .ok (l, s)) (hr : f (l, s) = r) : iterC f (n + 1) = r := by rw [iterC_succ h, hr]
set_option maxRecDepth 100000 in
set_option maxHeartbeats 2000000 in
theorem getInts_any (base g : Nat) (k : Int) (a : Nat) (B : Option Addr) (m cb : Nat) (xs : List UInt8) (N : Nat) (w : World) (h : ColG w base base g k a none 0 0 [] B m cb xs) (ha : a ≤ m) (hN : N ≤ 1048576) (hk : k = 2 ∨ k = 3) (hT : TabB base w) :
  Calls Tryz.prog 196 #[.pointer (some ⟨g, 0, none⟩), .int .i64 (N : Int)] w (GotF (iterC (stepI k (xs.drop a)) N) base g k a B m cb xs w) := by
 obtain ⟨j0, hj0, hk0, hj1, hk2⟩ := info_parts cell_info
 have hmk : mayK k = true := by rcases hk with rfl | rfl <;> rfl
 have Hmx := Lib.hid h.max
 have Hle := Lib.hid h.le
 have Hxl := Lib.hid (show xs.length = m from reads_len h.bytes)
 have H := Lib.hid h
 have HT := Lib.hid hT
 clear h hT
 go_enter Tryz.func196, Tryz.ntmps196
 go_wp2
 go_loopw [10] (fun i wr => ∃ (j : Nat) (lj : List Cl) (sj : Nat) (A1 : Option Addr) (c1 : Nat), j ≤ N ∧ i = .int .i64 (j : Int) ∧ Hid (iterC (stepI k (xs.drop a)) j = .ok (lj, sj)) ∧ lj.length = j ∧ Hid (a + sj ≤ m) ∧ Hid (ColG wr base w.heap.size g k (a + sj : Nat) A1 j c1 lj B m cb xs) ∧ Hid (Apart w.heap.size g w wr) ∧ Hid (Below base w wr)) (fun i _ => N - (intOf i).toNat)
 case atStart => exact ⟨0, [], 0, none, 0, Nat.zero_le _, rfl, Lib.hid rfl, rfl, Lib.hid ha, by simpa using Lib.hid (H.out.fresh H.out.base_le), Lib.hid (Apart.refl _ _ _), Lib.hid (Below.refl _ _)⟩
 case round =>
  obtain ⟨j, lj, sj, A1, c1, hj, rfl, Hit, hlj, Hsj, HC, HP, HB⟩ := hrel
  have Hlj := Lib.hid hlj
  clear hlj
  by_cases hlt : j < N
  ·obtain ⟨q, hq⟩ : ∃ q, q = a + sj := ⟨_, rfl⟩
   rw [← hq] at Hsj HC
   have Hq := Lib.hid hq
   clear hq
   have hqm := Hsj.out
   have hgs := get_size (xs.drop q)
   rw [List.length_drop, Hxl.out] at hgs
   have Hgs := Lib.hid hgs
   have HS2 := Lib.hid (show ∀ w', w' = wr.drew → w'.cell? ⟨g, 2, none⟩ = some (.slice B m cb) from fun w' h' => by rw [h']; exact HC.out.blk.cell 2)
   have HS3 := Lib.hid (show ∀ w', w' = wr.drew → w'.cell? ⟨g, 3, none⟩ = some (.int .i64 (q : Int)) from fun w' h' => by rw [h']; exact HC.out.blk.cell 3)
   have d1 : ((q : Nat) : Int).toNat = q := by simp
   have hcut := Lib.hid ((HC.out.reads.cut (k := q) hqm Hle.out).drew)
   rw [Nat.mul_one, u8s_drop] at hcut
   clear hgs
   go_wp2
   have hS : wr.drew = wr.drew := rfl
   have hcm : cb ≤ 9223372036854775807 := by have := Hmx.out; simp only [maxLen] at this; omega
   have hmc := Hle.out
   obtain ⟨A2, hA2⟩ : ∃ A2, (if cb = q then B else Option.map (fun x => x.add q) B) = A2 := ⟨_, rfl⟩
   rw [hA2] at hcut
   refine wp_region_keep (fun w' => w' = wr.drew) [(0, false), (1, false), (2, false), (3, false), (4, false), (5, false), (6, false), (7, false), (8, false), (9, true), (10, false), (11, false), (12, false), (13, false), (14, false), (15, false), (16, false)] (by kernel_rfl) (by kernel_rfl) (by kernel_rfl) (fun d _ _ _ _ h => by cases d <;> exact h) ?_
   iterate 3
    refine held_pure (v := ?_) rfl rfl (by simp [Region.wanted, yielded]) hS ?_ ?_
    rotate_left
    ·intro w hw; go_simp; try with_reducible rfl
    try simp only [Act.put, zpA, zpB, zpC]
   refine held_pure (v := ?_) rfl rfl (by simp [Region.wanted, yielded]) hS ?_ ?_
   rotate_left
   ·intro w hw; have c0 := HS2.out w hw; clear hw; go_simp; try with_reducible rfl
   try simp only [Act.put, zpA, zpB, zpC]
   iterate 3
    refine held_pure (v := ?_) rfl rfl (by simp [Region.wanted, yielded]) hS ?_ ?_
    rotate_left
    ·intro w hw; go_simp; try with_reducible rfl
    try simp only [Act.put, zpA, zpB, zpC]
   refine held_pure (v := ?_) rfl rfl (by simp [Region.wanted, yielded]) hS ?_ ?_
   rotate_left
   ·intro w hw; have c0 := HS3.out w hw; clear hw; go_simp; try with_reducible rfl
   try simp only [Act.put, zpA, zpB, zpC]
   refine held_pure (v := ?_) rfl rfl (by simp [Region.wanted, yielded]) hS ?_ ?_
   rotate_left
   ·intro w hw; go_simp; try with_reducible rfl
   try simp only [Act.put, zpA, zpB, zpC]
   clear hA2
   refine held_eff1 rfl (by simp [Region.wanted, yielded]) fun K hK => ?_
   go_simp
   with_reducible refine (getInt_any A2 (m - q) (cb - q) (xs.drop q) _ hcut.out (by omega) (by have := Hmx.out; omega)).mono ?_
   rintro e w3 ⟨rfl, rfl⟩
   generalize hget : get (xs.drop q) = r at Hgs ⊢
   obtain ⟨rn, rk, re⟩ := r
   have Hget := Lib.hid hget
   clear hget
   simp only [gottenInt] at Hgs ⊢
   refine held_go hK (by exact rfl) fun hS => ?_
   clear hK K
   try simp only [Act.put, zpA, zpB, zpC]
   iterate 7
    refine held_pure (v := ?_) rfl rfl (by simp [Region.wanted, yielded]) hS ?_ ?_
    rotate_left
    ·intro w hw; go_simp; try with_reducible rfl
    try simp only [Act.put, zpA, zpB, zpC]
   refine held_end ?_
   clear hS
   have Hdrop := Lib.hid (show (xs.drop a).drop sj = xs.drop q by rw [List.drop_drop, Hq.out])
   by_cases he : re = 0
   ·subst he
    obtain ⟨q2, hq2⟩ : ∃ q2, q2 = q + rk := ⟨_, rfl⟩
    have hgs1 := Hgs.out.1
    have hq2m : q2 ≤ m := by omega
    have hsum : (q : Int) + (rk : Int) = (q2 : Int) := by omega
    have Hq2 := Lib.hid hq2
    have c3 := HC.out.blk.cell 3
    have f3 := HC.out.blk.frozen 3
    have hlow := HC.out.low (Nat.le_refl _)
    have Hrow := Lib.hid hlow.1
    have Hgp := Lib.hid hlow.2
    have HC2 := Lib.hid (HC.out.seek (q2 : Int))
    have hmm : m ≤ 9223372036854775807 := by omega
    have Hq2m := Lib.hid (show a + (sj + rk) ≤ m by rw [← Nat.add_assoc, ← Hq.out]; omega)
    have hsj := Lib.hid (show (q2 : Nat) = a + (sj + rk) by rw [← Nat.add_assoc, ← Hq.out, hq2])
    clear hq2 hgs1 hlow
    go_wp2
    obtain ⟨W2, hW2⟩ : ∃ W2, W2 = ((wr.setCell ⟨g, 3, none⟩ (.int .i64 (q2 : Int))).alloc (.cells #[.bool false, .int .i64 (zag rn), .string ⟨#[]⟩] 23)).drew := ⟨_, rfl⟩
    have HP := Lib.hid (show Apart w.heap.size g w W2 by rw [hW2]; exact ((HP.out.set 3 _).alloc (by have := HB.out.size; simpa using this) _).drew)
    have HB := Lib.hid (show Below base w W2 by rw [hW2]; exact ((HB.out.setCell (p := ⟨g, 3, none⟩) HC2.out.far _).alloc (by have := HC2.out.base_le; simpa using this) _).drew)
    have HC := Lib.hid (show ColG W2 base w.heap.size g k (q2 : Int) A1 j c1 lj B m cb xs by rw [hW2]; exact (HC2.out.below ((Below.refl _ _).alloc (Nat.le_refl _) _)).onDrew)
    have HX := Lib.hid (show Blk W2 wr.heap.size 23 #[.bool false, .int .i64 (zag rn), .string ⟨#[]⟩] by rw [hW2]; exact (Blk.new' _ _ _ _ (by simp)).drew)
    rw [← hW2]
    clear hW2 HC2 c3 f3
    have HT2 := Lib.hid (HT.out.keep HB.out)
    have HK := Lib.hid (show ∀ w', Below W2.heap.size W2 w' → w'.cell? ⟨g, 0, none⟩ = some (.int .i64 k) from fun w' h => (HC.out.blk.on h).cell 0)
    have HX0 := Lib.hid (show ∀ w', Below W2.heap.size W2 w' → w'.cell? ⟨wr.heap.size, 0, none⟩ = some (.bool false) from fun w' h => (HX.out.on h).cell 0)
    have HX1 := Lib.hid (show ∀ w', Below W2.heap.size W2 w' → w'.cell? ⟨wr.heap.size, 1, none⟩ = some (.int .i64 (zag rn)) from fun w' h => (HX.out.on h).cell 1)
    have HX2 := Lib.hid (show ∀ w', Below W2.heap.size W2 w' → w'.cell? ⟨wr.heap.size, 2, none⟩ = some (.string ⟨#[]⟩) from fun w' h => (HX.out.on h).cell 2)
    have hS : Below W2.heap.size W2 W2.drew := (Below.refl _ _).drew
    refine wp_region_keep (fun w' => Below W2.heap.size W2 w') [(0, false), (1, false), (2, false), (3, false), (4, false), (5, false), (6, true), (7, false)] (by kernel_rfl) (by kernel_rfl) (by kernel_rfl) (fun d _ _ _ _ h => by cases d <;> exact h) ?_
    iterate 3
     refine held_pure (v := ?_) rfl rfl (by simp [Region.wanted, yielded]) hS ?_ ?_
     rotate_left
     ·intro w hw; go_simp; try with_reducible rfl
     try simp only [Act.put, zpA, zpB, zpC]
    refine held_pure (v := ?_) rfl rfl (by simp [Region.wanted, yielded]) hS ?_ ?_
    rotate_left
    ·intro w hw; have c0 := HK.out w hw; clear hw; go_simp; try with_reducible rfl
    try simp only [Act.put, zpA, zpB, zpC]
    refine held_pure (v := ?_) rfl rfl (by simp [Region.wanted, yielded]) hS ?_ ?_
    rotate_left
    ·intro w hw; go_simp; try with_reducible rfl
    try simp only [Act.put, zpA, zpB, zpC]
    refine held_pure (v := ?_) rfl rfl (by simp [Region.wanted, yielded]) hS ?_ ?_
    rotate_left
    ·intro w hw; have c0 := HX0.out w hw; have c1 := HX1.out w hw; have c2 := HX2.out w hw; clear hw; go_simp; try with_reducible rfl
    try simp only [Act.put, zpA, zpB, zpC]
    refine held_eff1 rfl (by simp [Region.wanted, yielded]) fun K hK => ?_
    go_simp
    with_reducible refine (check_any3 k false false (zag rn) ⟨#[]⟩ _ (HT2.out.tabs.on hS)).mono ?_
    rintro e w5 ⟨rfl, hb5⟩
    have HP := Lib.hid (HP.out.drew.below hb5 HB.out.size)
    have HB := Lib.hid (HB.out.drew.trans (hb5.mono HC.out.onDrew.base_le))
    have HC := Lib.hid (HC.out.onDrew.below hb5)
    have HX := Lib.hid (HX.out.drew.on hb5)
    refine held_go hK (by exact hS.trans hb5) fun hS => ?_
    clear hK K
    try simp only [Act.put, zpA, zpB, zpC]
    clear hb5 HX0 HX1 HX2 HK HT2
    refine held_pure (v := ?_) rfl rfl (by simp [Region.wanted, yielded]) hS ?_ ?_
    rotate_left
    ·intro w hw; go_simp; try with_reducible rfl
    try simp only [Act.put, zpA, zpB, zpC]
    refine held_end ?_
    have hE := checkE_is hmk false (zag rn) ⟨#[]⟩
    generalize checkE k false (false, zag rn, ⟨#[]⟩) = E0 at hE ⊢
    cases hI : isC k (false, zag rn, ⟨#[]⟩) with
    | false =>
     rw [hI] at hE
     simp only [Bool.false_eq_true, if_false] at hE
     subst hE
     have Hst := Lib.hid (iterC_err (iterC_next Hit.out (show stepI k (xs.drop a) (lj, sj) = .error 90 by unfold stepI; simp only; rw [Hdrop.out, Hget.out]; simp only [if_true]; rw [if_neg (by unfold intC; rw [hI]; simp)])) (show j + 1 ≤ N by omega))
     clear hI
     go_wp2
     go_ret
     rw [Hst.out]
     exact ⟨HB.out, HP.out, rfl, by decide⟩
    | true =>
     rw [hI] at hE
     simp only [if_true] at hE
     subst hE
     have Hit2 := Lib.hid (iterC_next Hit.out (show stepI k (xs.drop a) (lj, sj) = .ok (lj ++ [intC (zag rn)], sj + rk) by unfold stepI; simp only; rw [Hdrop.out, Hget.out]; simp only [if_true]; rw [if_pos (by unfold intC; rw [hI])]))
     have Hbs := Lib.hid HB.out.size
     have Hnx := Lib.hid (show j ≤ 2097152 by omega)
     clear hI
     go_wp2
     have hS : Below base w5 w5.drew ∧ Blk w5.drew wr.heap.size 23 #[.bool false, .int .i64 (zag rn), .string ⟨#[]⟩] := ⟨(Below.refl _ _).drew, HX.out⟩
     have HV0 := Lib.hid (show ∀ w', Below base w5 w' ∧ Blk w' wr.heap.size 23 #[.bool false, .int .i64 (zag rn), .string ⟨#[]⟩] → w'.cell? ⟨wr.heap.size, 0, none⟩ = some (.bool false) from fun w' h => h.2.cell 0)
     have HV1 := Lib.hid (show ∀ w', Below base w5 w' ∧ Blk w' wr.heap.size 23 #[.bool false, .int .i64 (zag rn), .string ⟨#[]⟩] → w'.cell? ⟨wr.heap.size, 1, none⟩ = some (.int .i64 (zag rn)) from fun w' h => h.2.cell 1)
     have HV2 := Lib.hid (show ∀ w', Below base w5 w' ∧ Blk w' wr.heap.size 23 #[.bool false, .int .i64 (zag rn), .string ⟨#[]⟩] → w'.cell? ⟨wr.heap.size, 2, none⟩ = some (.string ⟨#[]⟩) from fun w' h => h.2.cell 2)
     have HCW := HC
     have HC := Lib.hid (HC.out.onDrew)
     refine wp_region_plan (fun w' => Below base w5 w' ∧ Blk w' wr.heap.size 23 #[.bool false, .int .i64 (zag rn), .string ⟨#[]⟩]) (.pure 0 (.pure 1 (.pure 2 (.pure 3 (.pure 5 (.fork 4 6 (.eff 6 (.eff 7 (.pure 8 (.pure 9 (.eff 10 .done))))) (.eff 4 (.eff 7 (.pure 8 (.pure 9 (.eff 10 .done))))))))))) (by kernel_rfl) (by kernel_rfl) (by kernel_rfl) (fun d _ _ _ _ h => by cases d <;> exact h) ?_
     iterate 4
      refine plan_pure (v := ?_) rfl rfl (by simp [Region.wanted, yielded]) hS ?_ ?_
      rotate_left
      ·intro w hw; go_simp; try with_reducible rfl
      try simp only [Act.put, zpA, zpB, zpC]
     refine plan_pure (v := ?_) rfl rfl (by simp [Region.wanted, yielded]) hS ?_ ?_
     rotate_left
     ·intro w hw; have c0 := HV0.out w hw; have c1 := HV1.out w hw; have c2 := HV2.out w hw; clear hw; go_simp; try with_reducible rfl
     try simp only [Act.put, zpA, zpB, zpC]
     refine plan_fork ?_ ?_
     ·have c1 := HC.out.blk.cell 1
      refine plan_eff1 rfl (by simp [Region.wanted, yielded]) fun K hK => ?_
      go_simp
      refine held_go hK (by exact hS) fun hS => ?_
      clear hK K
      try simp only [Act.put, zpA, zpB, zpC]
      clear c1
      refine plan_eff1 rfl (by simp [Region.wanted, yielded]) fun K hK => ?_
      go_simp
      have HR := Lib.hid ((reads_cell w5 false (zag rn) ⟨#[]⟩).drew)
      have HC := Lib.hid ((HCW.out.below ((Below.refl _ w5).alloc (Nat.le_refl _) (.cells #[.bool false, .int .i64 (zag rn), .string ⟨#[]⟩] 23))).onDrew)
      refine held_go hK (by exact ⟨hS.1.alloc (Nat.le_trans (Nat.le_trans HC.out.low0 Hbs.out) hS.1.size) _, hS.2.alloc _⟩) fun hS => ?_
      clear hK K
      try simp only [Act.put, zpA, zpB, zpC]
      refine plan_eff1 rfl (by simp [Region.wanted, yielded]) fun K hK => ?_
      refine wp_append_any _ (.tmp 51) (.tmp 53) 24 rfl w.heap.size 23 j0 (.agg #[.bool false, .int .i64 0, .string ⟨#[]⟩]) 3 32 Tryz.underlying24 hj0 hk0 hj1 hk2 rfl (by decide) A1 j c1 _ rfl HC.out.cells (some ⟨_, 0, none⟩) 1 1 (cls [(false, (zag rn), ⟨#[]⟩)]) rfl HR.out (cls_one _) (by have := Hnx.out; simp only [maxLen]; omega) (by have := Hnx.out; omega) (Nat.le_trans Hbs.out hS.1.size) ?_
      intro A9 c9 w9 r1 r2 r3 r4 r5
      rw [← cls_append] at r1
      have HA := Lib.hid (HC.out.app r3 r2 r1)
      have R2 := Lib.hid r2
      have r2 := r2.mono HC.out.low0
      have HX9 := Lib.hid (blk_row hS.2 r3 Hrow.out)
      have hT := Lib.hid (hS.1.trans r2)
      have G9 := Lib.hid r3
      clear r1 r2 r3 r4 r5
      refine held_go hK (by exact ⟨hT.out, HX9.out⟩) fun hS => ?_
      clear hK K
      try simp only [Act.put, zpA, zpB, zpC]
      iterate 2
       refine plan_pure (v := ?_) rfl rfl (by simp [Region.wanted, yielded]) hS ?_ ?_
       rotate_left
       ·intro w hw; go_simp; try with_reducible rfl
       try simp only [Act.put, zpA, zpB, zpC]
      have c2 := HA.out.2.cell 1
      have f2 := HA.out.2.frozen 1
      refine plan_eff1 rfl (by simp [Region.wanted, yielded]) fun K hK => ?_
      go_simp
      clear c2 f2
      refine held_go hK (by exact ⟨hT.out.setCell (p := ⟨g, 1, none⟩) HC.out.far _, HX9.out.far (p := ⟨g, 1, none⟩) Hgp.out.symm _⟩) fun hS => ?_
      clear hK K
      try simp only [Act.put, zpA, zpB, zpC]
      refine plan_end ?_
      have hT := Lib.hid (hT.out.setCell (p := ⟨g, 1, none⟩) HC.out.far (.slice A9 (j + 1) c9))
      clear HX9 HR
      clear HV0 HV1 HV2
      have HC := Lib.hid (show ColG _ base w.heap.size g k (q2 : Nat) A9 (j + 1) c9 (lj ++ [intC (zag rn)]) B m cb xs from HA.out.1)
      have HP := Lib.hid (((HP.out.alloc HB.out.size (.cells #[.bool false, .int .i64 (zag rn), .string ⟨#[]⟩] 23)).drew.below R2.out (Nat.le_refl _)).set 1 (.slice A9 (j + 1) c9))
      have HB := Lib.hid (HB.out.trans hT.out)
      go_wp2
      go_roundw
      case rel => exact ⟨j + 1, lj ++ [intC (zag rn)], sj + rk, A9, c9, by omega, by go_num, Hit2, by simp [Hlj.out], Hq2m, Lib.hid (by have := HC.out; rw [hsj.out] at this; exact this), HP, HB⟩
      case measure => simp [intOf]; omega
     ·refine plan_eff1 rfl (by simp [Region.wanted, yielded]) fun K hK => ?_
      go_simp
      have HR := Lib.hid ((reads_cell w5 false (zag rn) ⟨#[]⟩).drew)
      have HC := Lib.hid ((HCW.out.below ((Below.refl _ w5).alloc (Nat.le_refl _) (.cells #[.bool false, .int .i64 (zag rn), .string ⟨#[]⟩] 23))).onDrew)
      refine held_go hK (by exact ⟨hS.1.alloc (Nat.le_trans (Nat.le_trans HC.out.low0 Hbs.out) hS.1.size) _, hS.2.alloc _⟩) fun hS => ?_
      clear hK K
      try simp only [Act.put, zpA, zpB, zpC]
      have c1 := HC.out.blk.cell 1
      refine plan_eff1 rfl (by simp [Region.wanted, yielded]) fun K hK => ?_
      go_simp
      refine held_go hK (by exact hS) fun hS => ?_
      clear hK K
      try simp only [Act.put, zpA, zpB, zpC]
      clear c1
      refine plan_eff1 rfl (by simp [Region.wanted, yielded]) fun K hK => ?_
      refine wp_append_any _ (.tmp 51) (.tmp 53) 24 rfl w.heap.size 23 j0 (.agg #[.bool false, .int .i64 0, .string ⟨#[]⟩]) 3 32 Tryz.underlying24 hj0 hk0 hj1 hk2 rfl (by decide) A1 j c1 _ rfl HC.out.cells (some ⟨_, 0, none⟩) 1 1 (cls [(false, (zag rn), ⟨#[]⟩)]) rfl HR.out (cls_one _) (by have := Hnx.out; simp only [maxLen]; omega) (by have := Hnx.out; omega) (Nat.le_trans Hbs.out hS.1.size) ?_
      intro A9 c9 w9 r1 r2 r3 r4 r5
      rw [← cls_append] at r1
      have HA := Lib.hid (HC.out.app r3 r2 r1)
      have R2 := Lib.hid r2
      have r2 := r2.mono HC.out.low0
      have HX9 := Lib.hid (blk_row hS.2 r3 Hrow.out)
      have hT := Lib.hid (hS.1.trans r2)
      have G9 := Lib.hid r3
      clear r1 r2 r3 r4 r5
      refine held_go hK (by exact ⟨hT.out, HX9.out⟩) fun hS => ?_
      clear hK K
      try simp only [Act.put, zpA, zpB, zpC]
      iterate 2
       refine plan_pure (v := ?_) rfl rfl (by simp [Region.wanted, yielded]) hS ?_ ?_
       rotate_left
       ·intro w hw; go_simp; try with_reducible rfl
       try simp only [Act.put, zpA, zpB, zpC]
      have c2 := HA.out.2.cell 1
      have f2 := HA.out.2.frozen 1
      refine plan_eff1 rfl (by simp [Region.wanted, yielded]) fun K hK => ?_
      go_simp
      clear c2 f2
      refine held_go hK (by exact ⟨hT.out.setCell (p := ⟨g, 1, none⟩) HC.out.far _, HX9.out.far (p := ⟨g, 1, none⟩) Hgp.out.symm _⟩) fun hS => ?_
      clear hK K
      try simp only [Act.put, zpA, zpB, zpC]
      refine plan_end ?_
      have hT := Lib.hid (hT.out.setCell (p := ⟨g, 1, none⟩) HC.out.far (.slice A9 (j + 1) c9))
      clear HX9 HR
      clear HV0 HV1 HV2
      have HC := Lib.hid (show ColG _ base w.heap.size g k (q2 : Nat) A9 (j + 1) c9 (lj ++ [intC (zag rn)]) B m cb xs from HA.out.1)
      have HP := Lib.hid (((HP.out.alloc HB.out.size (.cells #[.bool false, .int .i64 (zag rn), .string ⟨#[]⟩] 23)).drew.below R2.out (Nat.le_refl _)).set 1 (.slice A9 (j + 1) c9))
      have HB := Lib.hid (HB.out.trans hT.out)
      go_wp2
      go_roundw
      case rel => exact ⟨j + 1, lj ++ [intC (zag rn)], sj + rk, A9, c9, by omega, by go_num, Hit2, by simp [Hlj.out], Hq2m, Lib.hid (by have := HC.out; rw [hsj.out] at this; exact this), HP, HB⟩
      case measure => simp [intOf]; omega
   ·have hne : ((re : Int) == 0) = false := by simp; omega
    have hne2 : ((re : Int) != 0) = true := by simp; omega
    have Hst := Lib.hid (iterC_err (iterC_next Hit.out (show stepI k (xs.drop a) (lj, sj) = .error re by unfold stepI; simp only; rw [Hdrop.out, Hget.out]; simp only; rw [if_neg he])) (show j + 1 ≤ N by omega))
    go_wp2
    go_ret
    rw [Hst.out]
    exact ⟨HB.out.drew, HP.out.drew, rfl, he⟩
  ·obtain rfl : j = N := by omega
   go_wp2
   go_ret
   rw [Hit.out]
   obtain ⟨q1, q2⟩ := own_caps HC.out.cells
   rw [← Hlj.out] at q1 HC
   exact ⟨HB.out, HP.out, rfl, Hsj.out, by rw [Hlj.out]; exact hN, A1, c1, q1, q2, HC.out.floor⟩
end Go.Proofs.YtjpjalmilfgckaaGreatDoor
