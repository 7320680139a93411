/- Part 28 of the walks, merged: each text under its own heading. Conditions: none of its own; each lemma states what it asks. -/
import Derived.Test.YtnkgchmkmhdcaaaGreatDoorGk24
import Derived.Test.YtnkgchmkmhdcaaaGreatDoorGk25
import Derived.Test.YtnkgchmkmhdcaaaGreatDoorGk27
set_option linter.unusedVariables false
set_option linter.unusedSimpArgs false
namespace Go.Proofs.YtnkgchmkmhdcaaaGreatDoor
open Go.RowKit
set_option maxRecDepth 100000 in
set_option maxHeartbeats 2000000 in
theorem rgsize_any (A : Option Addr) (n c : Nat) (cs : List Co) (v s : Int) (I : Option Addr) (m d : Nat) (li : List It) (w : World) (hr : Reads w w.heap.size 7 A n (cos cs)) (hn : n ≤ maxLen) (hi : ItemsAt w w.heap.size I m li) (hm : m ≤ maxLen) (hs : s ≤ 9223372036854775807) (hok : ItOk li) :
  Calls Tryz.prog 62 #[.slice A n c, .agg #[.int .i64 v, .int .i64 s, .slice I m d]] w fun e w' => e = .returned (.tuple #[.int .i64 (sizeV cs (v, s, li)), .int .i64 (batE cs (v, s, li))]) ∧ Below w.heap.size w w' := by
 have Hr := Lib.hid hr
 have Hi := Lib.hid hi
 have Hok := Lib.hid hok
 have HP := Lib.hid (Blk.new w 30 #[.int .i64 v, .int .i64 s, .slice I m d])
 have HB := Lib.hid (bal (Below.refl w.heap.size w) (.cells #[.int .i64 v, .int .i64 s, .slice I m d] 30))
 have p0 := HP.out.cell 0
 have p1 := HP.out.cell 1
 have p2 := HP.out.cell 2
 clear hr hi hok
 go_enter Tryz.func62, Tryz.ntmps62
 go_wp2_with fail
 with_reducible refine (rcheck17_any A n c cs v s I m d li _ (Hr.out.on HB.out) hn (Hi.out.on HB.out) hm Hok.out).mono ?_
 rintro e w1 ⟨rfl, hb1⟩
 replace HP := Lib.hid (HP.out.on hb1)
 replace HB := Lib.hid (bon HB.out hb1)
 clear hb1 p0 p1 p2
 have p0 := HP.out.cell 0
 have p1 := HP.out.cell 1
 have p2 := HP.out.cell 2
 by_cases hE : batE cs (v, s, li) = 0
 ·have Hf := Lib.hid ((fits_iff _ _).1 hE)
  have Hsv := Lib.hid (sizeV_ok hE)
  have HE0 := Lib.hid hE
  rw [hE]
  clear hE
  go_wp2_with fail
  with_reducible refine (rwalk_any A n c cs v s I m d li none 0 0 [] _ (Hr.out.on HB.out) (Hi.out.on HB.out) Reads.none_ (by decide) Hf.out hs Hok.out).mono ?_
  rintro e w2 ⟨g, rfl, hw, hb2⟩
  have q2 := hw.blk.cell 2
  have HB2 := Lib.hid (bon HB.out hb2)
  clear hw hb2 p0 p1 p2
  go_wp2
  go_ret2
  rw [Hsv.out, HE0.out]
  exact ⟨rfl, HB2.out⟩
 ·have Hsv := Lib.hid (sizeV_no hE)
  obtain ⟨E, hEE⟩ : ∃ E, batE cs (v, s, li) = E := ⟨_, rfl⟩
  rw [hEE] at hE ⊢
  have HEE := Lib.hid hEE
  have d1 : (E != 0) = true := by simpa using hE
  clear hE hEE
  go_wp2
  go_ret2
  rw [Hsv.out, HEE.out]
  exact ⟨rfl, HB.out⟩
set_option maxRecDepth 100000 in
set_option maxHeartbeats 2000000 in
theorem rgwhere_any (A : Option Addr) (n c : Nat) (cs : List Co) (v s : Int) (I : Option Addr) (m d : Nat) (li : List It) (X : Option Addr) (xn xc : Nat) (xs : List UInt8) (w : World) (hr : Reads w w.heap.size 7 A n (cos cs)) (hn : n ≤ maxLen) (hi : ItemsAt w w.heap.size I m li) (hm : m ≤ maxLen) (hs : s ≤ 9223372036854775807) (hok : ItOk li)
  (hx : Reads w w.heap.size 1 X xn (u8s xs)) (hxn : xn ≤ maxLen) :
  Calls Tryz.prog 64 #[.slice A n c, .agg #[.int .i64 v, .int .i64 s, .slice I m d], .slice X xn xc] w fun e w' => e = .returned (.tuple #[.int .i64 (whereV cs (v, s, li) xs), .int .i64 (batE cs (v, s, li))]) ∧ Below w.heap.size w w' := by
 have Hx := Lib.hid hx
 clear hx
 have Hr := Lib.hid hr
 have Hi := Lib.hid hi
 have Hok := Lib.hid hok
 have HP := Lib.hid (Blk.new w 30 #[.int .i64 v, .int .i64 s, .slice I m d])
 have HB := Lib.hid (bal (Below.refl w.heap.size w) (.cells #[.int .i64 v, .int .i64 s, .slice I m d] 30))
 have p0 := HP.out.cell 0
 have p1 := HP.out.cell 1
 have p2 := HP.out.cell 2
 clear hr hi hok
 go_enter Tryz.func64, Tryz.ntmps64
 go_wp2_with fail
 with_reducible refine (rcheck17_any A n c cs v s I m d li _ (Hr.out.on HB.out) hn (Hi.out.on HB.out) hm Hok.out).mono ?_
 rintro e w1 ⟨rfl, hb1⟩
 replace HP := Lib.hid (HP.out.on hb1)
 replace HB := Lib.hid (bon HB.out hb1)
 clear hb1 p0 p1 p2
 have p0 := HP.out.cell 0
 have p1 := HP.out.cell 1
 have p2 := HP.out.cell 2
 by_cases hE : batE cs (v, s, li) = 0
 ·have Hf := Lib.hid ((fits_iff _ _).1 hE)
  have Hsv := Lib.hid (whereV_ok hE xs)
  have HE0 := Lib.hid hE
  rw [hE]
  clear hE
  go_wp2_with fail
  with_reducible refine (rwalk_any A n c cs v s I m d li X xn xc xs _ (Hr.out.on HB.out) (Hi.out.on HB.out) (Hx.out.on HB.out) hxn Hf.out hs Hok.out).mono ?_
  rintro e w2 ⟨g, rfl, hw, hb2⟩
  have q1 := hw.blk.cell 1
  have HB2 := Lib.hid (bon HB.out hb2)
  clear hw hb2 p0 p1 p2
  go_wp2
  go_ret2
  rw [Hsv.out, HE0.out]
  exact ⟨rfl, HB2.out⟩
 ·have Hsv := Lib.hid (whereV_no hE xs)
  obtain ⟨E, hEE⟩ : ∃ E, batE cs (v, s, li) = E := ⟨_, rfl⟩
  rw [hEE] at hE ⊢
  have HEE := Lib.hid hEE
  have d1 : (E != 0) = true := by simpa using hE
  clear hE hEE
  go_wp2
  go_ret2
  rw [Hsv.out, HEE.out]
  exact ⟨rfl, HB.out⟩
set_option maxRecDepth 100000 in
set_option maxHeartbeats 2000000 in
theorem rgmatch_any (A : Option Addr) (n c : Nat) (cs : List Co) (v s : Int) (I : Option Addr) (m d : Nat) (li : List It) (X : Option Addr) (xn xc : Nat) (xs : List UInt8) (w : World) (hr : Reads w w.heap.size 7 A n (cos cs)) (hn : n ≤ maxLen) (hi : ItemsAt w w.heap.size I m li) (hm : m ≤ maxLen) (hs : s ≤ 9223372036854775807) (hok : ItOk li)
  (hx : Reads w w.heap.size 1 X xn (u8s xs)) (hxn : xn ≤ maxLen) :
  Calls Tryz.prog 66 #[.slice A n c, .agg #[.int .i64 v, .int .i64 s, .slice I m d], .slice X xn xc] w fun e w' => e = .returned (.int .i64 (matchV cs (v, s, li) xs)) ∧ Below w.heap.size w w' := by
 have Hx := Lib.hid hx
 have hxl : xs.length = xn := by have := hx.1; simpa [u8s] using this
 clear hx
 have Hr := Lib.hid hr
 have Hi := Lib.hid hi
 have Hok := Lib.hid hok
 have HP := Lib.hid (Blk.new w 30 #[.int .i64 v, .int .i64 s, .slice I m d])
 have HB := Lib.hid (bal (Below.refl w.heap.size w) (.cells #[.int .i64 v, .int .i64 s, .slice I m d] 30))
 have p0 := HP.out.cell 0
 have p1 := HP.out.cell 1
 have p2 := HP.out.cell 2
 clear hr hi hok
 go_enter Tryz.func66, Tryz.ntmps66
 go_wp2_with fail
 with_reducible refine (rcheck17_any A n c cs v s I m d li _ (Hr.out.on HB.out) hn (Hi.out.on HB.out) hm Hok.out).mono ?_
 rintro e w1 ⟨rfl, hb1⟩
 replace HP := Lib.hid (HP.out.on hb1)
 replace HB := Lib.hid (bon HB.out hb1)
 clear hb1 p0 p1 p2
 have p0 := HP.out.cell 0
 have p1 := HP.out.cell 1
 have p2 := HP.out.cell 2
 by_cases hE : batE cs (v, s, li) = 0
 ·have Hf := Lib.hid ((fits_iff _ _).1 hE)
  have Hmv := Lib.hid (matchV_ok hE xs)
  have hle := ((fits_iff _ _).1 hE).enc_le
  have hl1 := lcp_le1 (encA cs (v, s, li)) xs
  have hl2 := lcp_le2 (encA cs (v, s, li)) xs
  have Hyes := Lib.hid (match_yes (cs := cs) (b := (v, s, li)) (xs := xs))
  have Hno := Lib.hid (match_no (cs := cs) (b := (v, s, li)) (xs := xs))
  rw [hE]
  clear hE
  go_wp2_with fail
  with_reducible refine (rwalk_any A n c cs v s I m d li X xn xc xs _ (Hr.out.on HB.out) (Hi.out.on HB.out) (Hx.out.on HB.out) hxn Hf.out hs Hok.out).mono ?_
  rintro e w2 ⟨g, rfl, hw, hb2⟩
  have q1 := hw.blk.cell 1
  have q3 := hw.blk.cell 3
  have HB2 := Lib.hid (bon HB.out hb2)
  clear hw hb2 p0 p1 p2
  obtain ⟨a, ha⟩ : ∃ a, lcp (encA cs (v, s, li)) xs = a := ⟨_, rfl⟩
  obtain ⟨b, hb⟩ : ∃ b, (encA cs (v, s, li)).length = b := ⟨_, rfl⟩
  rw [ha, hb] at q3
  rw [ha] at q1
  rw [ha, hb, hxl] at Hyes Hno
  rw [ha, hb] at hl1
  rw [ha, hxl] at hl2
  clear ha hb hle
  by_cases h1 : a < b
  ·have HY := Lib.hid (Hyes.out (by omega))
   rw [decide_eq_true h1] at q3
   clear Hyes Hno
   go_wp2
   go_ret
   exact ⟨by rw [Hmv.out, if_neg HY.out]; rfl, HB2.out⟩
  ·rw [decide_eq_false h1] at q3
   by_cases h2 : a < xn
   ·have HY := Lib.hid (Hyes.out (.inl h2))
    have d1 : decide ((a : Int) < (xn : Int)) = true := by simp; omega
    clear Hyes Hno
    go_wp2
    go_ret
    exact ⟨by rw [Hmv.out, if_neg HY.out]; rfl, HB2.out⟩
   ·have HY := Lib.hid (Hno.out (by omega))
    have d1 : decide ((a : Int) < (xn : Int)) = false := by simp; omega
    clear Hyes Hno
    go_wp2
    go_ret
    exact ⟨by rw [Hmv.out, if_pos HY.out]; rfl, HB2.out⟩
 ·have Hmv := Lib.hid (matchV_no hE xs)
  obtain ⟨E, hEE⟩ : ∃ E, batE cs (v, s, li) = E := ⟨_, rfl⟩
  rw [hEE] at hE Hmv ⊢
  have d1 : (E != 0) = true := by simpa using hE
  clear hE hEE
  go_wp2
  go_ret
  exact ⟨by rw [Hmv.out]; rfl, HB.out⟩
end Go.Proofs.YtnkgchmkmhdcaaaGreatDoor
namespace Go.Proofs.YtnkgchmkmhdcaaaGreatDoor
open Go.RowKit
set_option maxRecDepth 100000 in
set_option maxHeartbeats 4000000 in
theorem gworks_yes (w : World) (hT : Tab2 w.heap.size w) : Calls Tryz.prog 21 #[] w fun e w' => e = .returned (.bool true) ∧ Below w.heap.size w w' := by
 have Hm := Lib.hid (gk_mem w hT)
 obtain ⟨i0, hi0, hz0, hz1, hz2⟩ := info_parts u8_info
 clear hT
 go_enter Tryz.func21, Tryz.ntmps21
 go_wp2
 rw [show w.heap.size + 1 + 1 + 1 = w.heap.size + 3 from rfl, show w.heap.size + 1 + 1 = w.heap.size + 2 from rfl]
 generalize hW : ((((w.alloc (.cells #[.bool true, .int .i64 0, .string ⟨#[]⟩, .bool false, .int .i64 0, .string ⟨#[98]⟩] 23)).alloc (.cells #[.bool false, .int .i64 1, .string ⟨#[]⟩, .bool false, .int .i64 0, .string ⟨#[98]⟩] 23)).alloc (.cells #[.slice (some ⟨w.heap.size, 0, none⟩) 2 2, .int .i64 1, .slice (some ⟨w.heap.size + 1, 0, none⟩) 2 2, .int .i64 1] 26)).alloc (.cells #[.int .i64 0, .int .i64 0, .slice (some ⟨w.heap.size + 2, 0, none⟩) 2 2] 30)) = W
 have H := Lib.hid (Hm.out W hW.symm)
 clear hW Hm
 have HH := H
 have hS : Below W.heap.size W W.drew := (Below.refl _ _).drew
 refine wp_region_keep (fun w' => Below W.heap.size W w') [(1, false), (0, true), (2, true), (3, false), (4, false), (5, false), (6, false), (7, false)] (by kernel_rfl) (by kernel_rfl) (by kernel_rfl) (fun d _ _ _ _ h => by cases d <;> exact h) ?_
 refine held_pure (v := ?_) rfl rfl (by simp [Region.wanted, yielded]) hS ?_ ?_
 rotate_left
 ·intro w hw; have c0 := HH.out.c0 w hw; have c1 := HH.out.c1 w hw; have c2 := HH.out.c2 w hw; clear hw; go_simp; try with_reducible rfl
 try simp only [Act.put, zpA, zpB, zpC]
 refine held_eff1 rfl (by simp [Region.wanted, yielded]) fun K hK => ?_
 go_simp
 with_reducible refine (twoG_any _).mono ?_
 rintro e w2 ⟨rfl, hr, hb2⟩
 have HS2 := Lib.hid (bon hS hb2)
 have HR := Lib.hid hr
 replace H := Lib.hid (HH.out.on HS2.out)
 clear hr hb2
 refine held_go hK (by exact HS2.out) fun hS => ?_
 clear hK K
 try simp only [Act.put, zpA, zpB, zpC]
 refine held_eff1 rfl (by simp [Region.wanted, yielded]) fun K hK => ?_
 go_simp
 with_reducible refine (gsize_any (some ⟨W.heap.size, 0, none⟩) 2 2 twoG 0 0 (some ⟨w.heap.size + 2, 0, none⟩) 2 2 itG _ HR.out (by decide) H.out.items (by decide) (by decide) itG_ok H.out.tab).mono ?_
 rw [sizeG, batG]
 rintro e w3 ⟨rfl, hb3⟩
 have HS3 := Lib.hid (bon HS2.out hb3)
 replace H := Lib.hid (H.out.on hb3)
 clear hb3
 refine held_go hK (by exact HS3.out) fun hS => ?_
 clear hK K
 try simp only [Act.put, zpA, zpB, zpC]
 iterate 5
  refine held_pure (v := ?_) rfl rfl (by simp [Region.wanted, yielded]) hS ?_ ?_
  rotate_left
  ·intro w hw; go_simp; try with_reducible rfl
  try simp only [Act.put, zpA, zpB, zpC]
 refine held_end ?_
 clear HS2 HS3 HR HH hS
 go_wp2_with fail
 with_reducible refine (twoG_any _).mono ?_
 rintro e w4 ⟨rfl, hr, hb⟩
 have HR := Lib.hid hr
 replace H := Lib.hid (H.out.on hb)
 clear hr hb
 go_wp2_with fail
 with_reducible refine (gsize_any (some ⟨w3.heap.size, 0, none⟩) 2 2 twoG 0 0 none 0 0 [] _ HR.out (by decide) ItemsAt.nil (by decide) (by decide) (by simp [ItOk]) H.out.tab).mono ?_
 rw [sizeG0, batG0]
 rintro e w5 ⟨rfl, hb⟩
 replace H := Lib.hid (H.out.on hb)
 clear hb HR
 go_wp2_with fail
 have HH := H
 have hS : Below w5.heap.size w5 w5.drew := (Below.refl _ _).drew
 refine wp_region_keep (fun w' => Below w5.heap.size w5 w') [(1, false), (0, true), (2, true), (3, false), (4, false), (5, false), (6, false), (7, false)] (by kernel_rfl) (by kernel_rfl) (by kernel_rfl) (fun d _ _ _ _ h => by cases d <;> exact h) ?_
 refine held_pure (v := ?_) rfl rfl (by simp [Region.wanted, yielded]) hS ?_ ?_
 rotate_left
 ·intro w hw; have c0 := HH.out.c0 w hw; have c1 := HH.out.c1 w hw; have c2 := HH.out.c2 w hw; clear hw; go_simp; try with_reducible rfl
 try simp only [Act.put, zpA, zpB, zpC]
 refine held_eff1 rfl (by simp [Region.wanted, yielded]) fun K hK => ?_
 go_simp
 with_reducible refine (twoG_any _).mono ?_
 rintro e w6 ⟨rfl, hr, hb2⟩
 have HS2 := Lib.hid (bon hS hb2)
 have HR := Lib.hid hr
 replace H := Lib.hid (HH.out.on HS2.out)
 clear hr hb2
 refine held_go hK (by exact HS2.out) fun hS => ?_
 clear hK K
 try simp only [Act.put, zpA, zpB, zpC]
 refine held_eff1 rfl (by simp [Region.wanted, yielded]) fun K hK => ?_
 go_simp
 with_reducible refine (benc_any (some ⟨w5.heap.size, 0, none⟩) 2 2 twoG 0 0 (some ⟨w.heap.size + 2, 0, none⟩) 2 2 itG _ HR.out (by decide) H.out.items (by decide) (baOk_of (by decide) itG_ok) itG_ok H.out.tab).mono ?_
 rw [xG_enc]
 rintro e w7 ⟨hb7, ⟨-, Ax, cx, rfl, ho⟩ | ⟨h0, -⟩⟩
 case inr => exact absurd (by kernel_rfl) h0
 have HX := Lib.hid (own_reads ho)
 have HCx := Lib.hid (own_caps ho)
 have HS3 := Lib.hid (bon HS2.out hb7)
 replace H := Lib.hid (H.out.on hb7)
 clear hb7 ho
 rw [xG_len] at *
 refine held_go hK (by exact HS3.out) fun hS => ?_
 clear hK K
 try simp only [Act.put, zpA, zpB, zpC]
 iterate 5
  refine held_pure (v := ?_) rfl rfl (by simp [Region.wanted, yielded]) hS ?_ ?_
  rotate_left
  ·intro w hw; go_simp; try with_reducible rfl
  try simp only [Act.put, zpA, zpB, zpC]
 refine held_end ?_
 clear HS2 HS3 HR HH hS
 have h15 : (15 : Int) ≤ (cx : Int) := by have := HCx.out.1; omega
 have hcx63 : cx ≤ 9223372036854775807 := by have := HCx.out.2; simp only [maxLen] at this; omega
 go_wp2_with fail
 replace H := Lib.hid (H.out.al (.cells #[.int .u8 77, .int .u8 83, .int .u8 1, .int .u8 0, .int .u8 0, .int .u8 2, .int .u8 2, .int .u8 1, .int .u8 1, .int .u8 1, .int .u8 98, .int .u8 0, .int .u8 0, .int .u8 2, .int .u8 2] 5))
 replace HX := Lib.hid (HX.out.al (.cells #[.int .u8 77, .int .u8 83, .int .u8 1, .int .u8 0, .int .u8 0, .int .u8 2, .int .u8 2, .int .u8 1, .int .u8 1, .int .u8 1, .int .u8 98, .int .u8 0, .int .u8 0, .int .u8 2, .int .u8 2] 5))
 have HX15 := Lib.hid (HX.out.head (k := 15) (by decide))
 rw [Nat.mul_one, u8s_take, xG_head] at HX15
 with_reducible refine (eq_yes Ax (some ⟨w7.heap.size, 0, none⟩) 15 cx 15 15 hdG hdG _ HX15.out (by exact reads_lit _ _ _ _ _ _ rfl rfl rfl) rfl).mono ?_
 rintro e w8 ⟨rfl, rfl⟩
 clear HX15 h15
 generalize w7.alloc (.cells #[.int .u8 77, .int .u8 83, .int .u8 1, .int .u8 0, .int .u8 0, .int .u8 2, .int .u8 2, .int .u8 1, .int .u8 1, .int .u8 1, .int .u8 98, .int .u8 0, .int .u8 0, .int .u8 2, .int .u8 2] 5) = w8 at *
 generalize w7.heap.size = hh at *
 go_wp2_with fail
 have HH := H
 have hS : Below w8.heap.size w8 w8.drew := (Below.refl _ _).drew
 refine wp_region_keep (fun w' => Below w8.heap.size w8 w') [(1, false), (0, true), (2, true), (3, false), (4, false), (5, false), (6, false), (7, false)] (by kernel_rfl) (by kernel_rfl) (by kernel_rfl) (fun d _ _ _ _ h => by cases d <;> exact h) ?_
 refine held_pure (v := ?_) rfl rfl (by simp [Region.wanted, yielded]) hS ?_ ?_
 rotate_left
 ·intro w hw; have c0 := HH.out.c0 w hw; have c1 := HH.out.c1 w hw; have c2 := HH.out.c2 w hw; clear hw; go_simp; try with_reducible rfl
 try simp only [Act.put, zpA, zpB, zpC]
 refine held_eff1 rfl (by simp [Region.wanted, yielded]) fun K hK => ?_
 go_simp
 with_reducible refine (twoG_any _).mono ?_
 rintro e w9 ⟨rfl, hr, hb2⟩
 have HS2 := Lib.hid (bon hS hb2)
 have HR := Lib.hid hr
 replace H := Lib.hid (HH.out.on HS2.out)
 clear hr hb2
 refine held_go hK (by exact HS2.out) fun hS => ?_
 clear hK K
 try simp only [Act.put, zpA, zpB, zpC]
 replace HX := Lib.hid (HX.out.on HS2.out)
 refine held_eff1 rfl (by simp [Region.wanted, yielded]) fun K hK => ?_
 go_simp
 with_reducible refine (gwhere_any (some ⟨w8.heap.size, 0, none⟩) 2 2 twoG 0 0 (some ⟨w.heap.size + 2, 0, none⟩) 2 2 itG none 0 0 [] _ HR.out (by decide) H.out.items (by decide) (by decide) itG_ok Reads.none_ (by decide) H.out.tab).mono ?_
 rw [whereG0, batG]
 rintro e w10 ⟨rfl, hb3⟩
 have HS3 := Lib.hid (bon HS2.out hb3)
 replace H := Lib.hid (H.out.on hb3)
 replace HX := Lib.hid (HX.out.on hb3)
 clear hb3
 refine held_go hK (by exact HS3.out) fun hS => ?_
 clear hK K
 try simp only [Act.put, zpA, zpB, zpC]
 iterate 5
  refine held_pure (v := ?_) rfl rfl (by simp [Region.wanted, yielded]) hS ?_ ?_
  rotate_left
  ·intro w hw; go_simp; try with_reducible rfl
  try simp only [Act.put, zpA, zpB, zpC]
 refine held_end ?_
 clear HS2 HS3 HR HH hS
 go_wp2_with fail
 have HH := H
 have hS : Below w10.heap.size w10 w10.drew := (Below.refl _ _).drew
 have HS2 := Lib.hid hS
 refine wp_region_plan (fun w' => Below w10.heap.size w10 w') (.pure 1 (.fork 0 2 (.eff 2 (.eff 3 (.pure 4 (.pure 5 (.pure 6 (.pure 7 (.pure 8 .done))))))) (.eff 0 (.eff 3 (.pure 4 (.pure 5 (.pure 6 (.pure 7 (.pure 8 .done))))))))) (by kernel_rfl) (by kernel_rfl) (by kernel_rfl) (fun d _ _ _ _ h => by cases d <;> exact h) ?_
 refine plan_pure (v := ?_) rfl rfl (by simp [Region.wanted, yielded]) hS ?_ ?_
 rotate_left
 ·intro w hw; have c0 := HH.out.c0 w hw; have c1 := HH.out.c1 w hw; have c2 := HH.out.c2 w hw; clear hw; go_simp; try with_reducible rfl
 try simp only [Act.put, zpA, zpB, zpC]
 replace H := Lib.hid (H.out.on hS)
 replace HX := Lib.hid (HX.out.on hS)
 clear HH
 refine plan_fork ?_ ?_
 refine plan_eff1 rfl (by simp [Region.wanted, yielded]) fun K hK => ?_
 go_simp
 with_reducible refine (twoG_any _).mono ?_
 rintro e w11 ⟨rfl, hr, hb2⟩
 have HR := Lib.hid (show Reads w11 w11.heap.size 7 (some ⟨w10.heap.size, 0, none⟩) 2 (cos twoG) from hr)
 replace H := Lib.hid (H.out.on hb2)
 replace HX := Lib.hid (HX.out.on hb2)
 replace HS2 := Lib.hid (bon HS2.out hb2)
 clear hr hb2
 refine held_go hK (by exact HS2.out) fun hS => ?_
 clear hK K
 try simp only [Act.put, zpA, zpB, zpC]
 refine plan_eff1 rfl (by simp [Region.wanted, yielded]) fun K hK => ?_
 go_simp
 have HL := Lib.hid (show Reads (w11.alloc (.cells #[.int .u8 77, .int .u8 83, .int .u8 1, .int .u8 0, .int .u8 0, .int .u8 2, .int .u8 3] 5)) (w11.alloc (.cells #[.int .u8 77, .int .u8 83, .int .u8 1, .int .u8 0, .int .u8 0, .int .u8 2, .int .u8 3] 5)).heap.size 1 (some ⟨w11.heap.size, 0, none⟩) 7 (u8s [77, 83, 1, 0, 0, 2, 3]) from reads_lit _ _ _ _ _ _ rfl rfl rfl)
 replace H := Lib.hid (H.out.al (.cells #[.int .u8 77, .int .u8 83, .int .u8 1, .int .u8 0, .int .u8 0, .int .u8 2, .int .u8 3] 5))
 replace HX := Lib.hid (HX.out.al (.cells #[.int .u8 77, .int .u8 83, .int .u8 1, .int .u8 0, .int .u8 0, .int .u8 2, .int .u8 3] 5))
 replace HS2 := Lib.hid (bal HS2.out (.cells #[.int .u8 77, .int .u8 83, .int .u8 1, .int .u8 0, .int .u8 0, .int .u8 2, .int .u8 3] 5))
 replace HR := Lib.hid (HR.out.al (.cells #[.int .u8 77, .int .u8 83, .int .u8 1, .int .u8 0, .int .u8 0, .int .u8 2, .int .u8 3] 5))
 refine held_go hK (by exact HS2.out) fun hS => ?_
 clear hK K
 try simp only [Act.put, zpA, zpB, zpC]
 rotate_left
 refine plan_eff1 rfl (by simp [Region.wanted, yielded]) fun K hK => ?_
 go_simp
 have HL := Lib.hid (show Reads (w10.drew.alloc (.cells #[.int .u8 77, .int .u8 83, .int .u8 1, .int .u8 0, .int .u8 0, .int .u8 2, .int .u8 3] 5)) (w10.drew.alloc (.cells #[.int .u8 77, .int .u8 83, .int .u8 1, .int .u8 0, .int .u8 0, .int .u8 2, .int .u8 3] 5)).heap.size 1 (some ⟨w10.heap.size, 0, none⟩) 7 (u8s [77, 83, 1, 0, 0, 2, 3]) from reads_lit _ _ _ _ _ _ rfl rfl rfl)
 replace H := Lib.hid (H.out.al (.cells #[.int .u8 77, .int .u8 83, .int .u8 1, .int .u8 0, .int .u8 0, .int .u8 2, .int .u8 3] 5))
 replace HX := Lib.hid (HX.out.al (.cells #[.int .u8 77, .int .u8 83, .int .u8 1, .int .u8 0, .int .u8 0, .int .u8 2, .int .u8 3] 5))
 replace HS2 := Lib.hid (bal HS2.out (.cells #[.int .u8 77, .int .u8 83, .int .u8 1, .int .u8 0, .int .u8 0, .int .u8 2, .int .u8 3] 5))
 refine held_go hK (by exact HS2.out) fun hS => ?_
 clear hK K
 try simp only [Act.put, zpA, zpB, zpC]
 refine plan_eff1 rfl (by simp [Region.wanted, yielded]) fun K hK => ?_
 go_simp
 with_reducible refine (twoG_any _).mono ?_
 rintro e w11 ⟨rfl, hr, hb2⟩
 have HR := Lib.hid (show Reads w11 w11.heap.size 7 (some ⟨w10.heap.size + 1, 0, none⟩) 2 (cos twoG) from by simpa using hr)
 replace H := Lib.hid (H.out.on hb2)
 replace HX := Lib.hid (HX.out.on hb2)
 replace HS2 := Lib.hid (bon HS2.out hb2)
 replace HL := Lib.hid (HL.out.on hb2)
 clear hr hb2
 refine held_go hK (by exact HS2.out) fun hS => ?_
 clear hK K
 try simp only [Act.put, zpA, zpB, zpC]
 all_goals
  refine plan_eff1 rfl (by simp [Region.wanted, yielded]) fun K hK => ?_
  go_simp
  with_reducible refine (gwhere_any _ 2 2 twoG 0 0 (some ⟨w.heap.size + 2, 0, none⟩) 2 2 itG _ 7 7 [77, 83, 1, 0, 0, 2, 3] _ HR.out (by decide) H.out.items (by decide) (by decide) itG_ok HL.out (by decide) H.out.tab).mono ?_
  rw [whereG1, batG]
  rintro e w12 ⟨rfl, hb3⟩
  replace HS2 := Lib.hid (bon HS2.out hb3)
  replace H := Lib.hid (H.out.on hb3)
  replace HX := Lib.hid (HX.out.on hb3)
  clear hb3 HR HL
  refine held_go hK (by exact HS2.out) fun hS => ?_
  clear hK K
  try simp only [Act.put, zpA, zpB, zpC]
  iterate 5
   refine plan_pure (v := ?_) rfl rfl (by simp [Region.wanted, yielded]) hS ?_ ?_
   rotate_left
   ·intro w hw; go_simp; try with_reducible rfl
   try simp only [Act.put, zpA, zpB, zpC]
  refine plan_end ?_
  clear HS2 hS
  go_wp2_with fail
  have HH := H
  have hS : Below w12.heap.size w12 w12.drew := (Below.refl _ _).drew
  have HS2 := Lib.hid hS
  refine wp_region_keep (fun w' => Below w12.heap.size w12 w') [(1, false), (2, false), (0, true), (3, true), (4, false), (5, false), (6, false), (7, false), (8, false)] (by kernel_rfl) (by kernel_rfl) (by kernel_rfl) (fun d _ _ _ _ h => by cases d <;> exact h) ?_
  refine held_pure (v := ?_) rfl rfl (by simp [Region.wanted, yielded]) hS ?_ ?_
  rotate_left
  ·intro w hw; have c0 := HH.out.c0 w hw; have c1 := HH.out.c1 w hw; have c2 := HH.out.c2 w hw; clear hw; go_simp; try with_reducible rfl
  try simp only [Act.put, zpA, zpB, zpC]
  refine held_pure (v := ?_) rfl rfl (by simp [Region.wanted, yielded]) hS ?_ ?_
  rotate_left
  ·intro w hw; go_simp; try with_reducible rfl
  try simp only [Act.put, zpA, zpB, zpC]
  replace H := Lib.hid (H.out.on hS)
  replace HX := Lib.hid (HX.out.on hS)
  clear HH
  refine held_eff1 rfl (by simp [Region.wanted, yielded]) fun K hK => ?_
  go_simp
  with_reducible refine (twoG_any _).mono ?_
  rintro e w13 ⟨rfl, hr, hb2⟩
  have HR := Lib.hid (show Reads w13 w13.heap.size 7 (some ⟨w12.heap.size, 0, none⟩) 2 (cos twoG) from hr)
  replace H := Lib.hid (H.out.on hb2)
  replace HX := Lib.hid (HX.out.on hb2)
  replace HS2 := Lib.hid (bon HS2.out hb2)
  clear hr hb2
  refine held_go hK (by exact HS2.out) fun hS => ?_
  clear hK K
  try simp only [Act.put, zpA, zpB, zpC]
  refine held_eff1 rfl (by simp [Region.wanted, yielded]) fun K hK => ?_
  go_simp
  with_reducible refine (gwhere_any _ 2 2 twoG 0 0 (some ⟨w.heap.size + 2, 0, none⟩) 2 2 itG Ax 19 cx xG _ HR.out (by decide) H.out.items (by decide) (by decide) itG_ok HX.out (by decide) H.out.tab).mono ?_
  rw [whereG2, batG]
  rintro e w14 ⟨rfl, hb3⟩
  replace HS2 := Lib.hid (bon HS2.out hb3)
  replace H := Lib.hid (H.out.on hb3)
  replace HX := Lib.hid (HX.out.on hb3)
  clear hb3 HR
  refine held_go hK (by exact HS2.out) fun hS => ?_
  clear hK K
  try simp only [Act.put, zpA, zpB, zpC]
  iterate 5
   refine held_pure (v := ?_) rfl rfl (by simp [Region.wanted, yielded]) hS ?_ ?_
   rotate_left
   ·intro w hw; go_simp; try with_reducible rfl
   try simp only [Act.put, zpA, zpB, zpC]
  refine held_end ?_
  clear HS2 hS
  go_wp2_with fail
  have HH := H
  have hS : Below w14.heap.size w14 w14.drew := (Below.refl _ _).drew
  have HS2 := Lib.hid hS
  have HG := H
  refine wp_region_plan (fun w' => Below w14.heap.size w14 w') (.pure 1 (.pure 2 (.eff 0 (.eff 3 (.pure 4 (.pure 5 (.pure 7 (.pure 8 (.fork 6 10 (.fork 9 10 (.eff 10 (.eff 11 (.eff 12 (.pure 13 (.pure 14 (.pure 15 (.pure 17 (.pure 18 (.pure 19 (.pure 20 (.pure 21 (.pure 22 (.pure 25 (.fork 16 23 (.eff 23 (.pure 24 (.eff 26 (.pure 27 (.pure 28 (.pure 29 .done)))))) (.pure 24 (.eff 16 (.eff 26 (.pure 27 (.pure 28 (.pure 29 .done)))))))))))))))))))) (.eff 9 (.eff 11 (.eff 12 (.pure 13 (.pure 14 (.pure 15 (.pure 17 (.pure 18 (.pure 19 (.pure 20 (.pure 21 (.pure 22 (.pure 25 (.fork 16 23 (.eff 23 (.pure 24 (.eff 26 (.pure 27 (.pure 28 (.pure 29 .done)))))) (.pure 24 (.eff 16 (.eff 26 (.pure 27 (.pure 28 (.pure 29 .done))))))))))))))))))))) (.eff 6 (.eff 9 (.eff 11 (.eff 12 (.pure 13 (.pure 14 (.pure 15 (.pure 17 (.pure 18 (.pure 19 (.pure 20 (.pure 21 (.pure 22 (.pure 25 (.fork 16 23 (.eff 23 (.pure 24 (.eff 26 (.pure 27 (.pure 28 (.pure 29 .done)))))) (.pure 24 (.eff 16 (.eff 26 (.pure 27 (.pure 28 (.pure 29 .done)))))))))))))))))))))))))))))) (by kernel_rfl) (by kernel_rfl) (by kernel_rfl) (fun d _ _ _ _ h => by cases d <;> exact h) ?_
  refine plan_pure (v := ?_) rfl rfl (by simp [Region.wanted, yielded]) hS ?_ ?_
  rotate_left
  ·intro w hw; have c0 := HH.out.c0 w hw; have c1 := HH.out.c1 w hw; have c2 := HH.out.c2 w hw; clear hw; go_simp; try with_reducible rfl
  try simp only [Act.put, zpA, zpB, zpC]
  refine plan_pure (v := ?_) rfl rfl (by simp [Region.wanted, yielded]) hS ?_ ?_
  rotate_left
  ·intro w hw; go_simp; try with_reducible rfl
  try simp only [Act.put, zpA, zpB, zpC]
  replace H := Lib.hid (H.out.on hS)
  replace HX := Lib.hid (HX.out.on hS)
  refine plan_eff1 rfl (by simp [Region.wanted, yielded]) fun K hK => ?_
  go_simp
  with_reducible refine (twoG_any _).mono ?_
  rintro e w15 ⟨rfl, hr, hb2⟩
  have HR := Lib.hid (show Reads w15 w15.heap.size 7 (some ⟨w14.heap.size, 0, none⟩) 2 (cos twoG) from hr)
  replace H := Lib.hid (H.out.on hb2)
  replace HX := Lib.hid (HX.out.on hb2)
  replace HS2 := Lib.hid (bon HS2.out hb2)
  clear hr hb2
  refine held_go hK (by exact HS2.out) fun hS => ?_
  clear hK K
  try simp only [Act.put, zpA, zpB, zpC]
  refine plan_eff1 rfl (by simp [Region.wanted, yielded]) fun K hK => ?_
  go_simp
  refine (gmatch_any _ 2 2 twoG 0 0 (some ⟨w.heap.size + 2, 0, none⟩) 2 2 itG Ax 19 cx xG _ HR.out (by decide) H.out.items (by decide) (by decide) itG_ok HX.out (by decide) H.out.tab).mono ?_
  rw [matchG0]
  rintro e w16 ⟨rfl, hb3⟩
  replace HS2 := Lib.hid (bon HS2.out hb3)
  replace H := Lib.hid (H.out.on hb3)
  replace HX := Lib.hid (HX.out.on hb3)
  clear hb3 HR
  refine held_go hK (by exact HS2.out) fun hS => ?_
  clear hK K
  try simp only [Act.put, zpA, zpB, zpC]
  iterate 2
   refine plan_pure (v := ?_) rfl rfl (by simp [Region.wanted, yielded]) hS ?_ ?_
   rotate_left
   ·intro w hw; go_simp; try with_reducible rfl
   try simp only [Act.put, zpA, zpB, zpC]
  refine plan_pure (v := ?_) rfl rfl (by simp [Region.wanted, yielded]) hS ?_ ?_
  rotate_left
  ·intro w hw; have c0 := HH.out.c0 w hw; have c1 := HH.out.c1 w hw; have c2 := HH.out.c2 w hw; clear hw; go_simp; try with_reducible rfl
  try simp only [Act.put, zpA, zpB, zpC]
  refine plan_pure (v := ?_) rfl rfl (by simp [Region.wanted, yielded]) hS ?_ ?_
  rotate_left
  ·intro w hw; go_simp; try with_reducible rfl
  try simp only [Act.put, zpA, zpB, zpC]
  refine plan_fork ?_ ?_
  refine plan_eff1 rfl (by simp [Region.wanted, yielded]) fun K hK => ?_
  go_simp
  with_reducible refine (twoG_any _).mono ?_
  rintro e w17 ⟨rfl, hr, hb2⟩
  have HR := Lib.hid (show Reads w17 w17.heap.size 7 (some ⟨w16.heap.size, 0, none⟩) 2 (cos twoG) from hr)
  replace H := Lib.hid (H.out.on hb2)
  replace HX := Lib.hid (HX.out.on hb2)
  replace HS2 := Lib.hid (bon HS2.out hb2)
  clear hr hb2
  refine held_go hK (by exact HS2.out) fun hS => ?_
  clear hK K
  try simp only [Act.put, zpA, zpB, zpC]
  refine plan_fork ?_ ?_
  refine plan_eff1 rfl (by simp [Region.wanted, yielded]) fun K hK => ?_
  go_simp
  with_reducible refine (copyBytes_any Ax 19 cx xG _ HX.out (by decide)).mono ?_
  rintro e w18 ⟨A9, c9, rfl, -, -, ho, hb2⟩
  have HKH := H
  have HKX := HX
  have HKR := HR
  have HKS := HS2
  have HO := Lib.hid ho
  have HBk := Lib.hid hb2
  replace HS2 := Lib.hid (bon HS2.out hb2)
  refine held_go hK (by exact HS2.out) fun hS => ?_
  clear hK K
  try simp only [Act.put, zpA, zpB, zpC]
  refine plan_eff1 rfl (by simp [Region.wanted, yielded]) fun K hK => ?_
  go_simp
  have HL := Lib.hid (show Reads (w18.alloc (.cells #[.int .u8 0] 5)) (w18.alloc (.cells #[.int .u8 0] 5)).heap.size 1 (some ⟨w18.heap.size, 0, none⟩) 1 (u8s [0]) from reads_lit _ _ _ _ _ _ rfl rfl rfl)
  replace HBk := Lib.hid (bal HBk.out (.cells #[.int .u8 0] 5))
  replace HS2 := Lib.hid (bal HS2.out (.cells #[.int .u8 0] 5))
  replace HO := Lib.hid (HO.out.alloc (.cells #[.int .u8 0] 5))
  refine held_go hK (by exact HS2.out) fun hS => ?_
  clear hK K
  try simp only [Act.put, zpA, zpB, zpC]
  generalize w18.alloc (.cells #[.int .u8 0] 5) = w20 at *
  rotate_left
  refine plan_eff1 rfl (by simp [Region.wanted, yielded]) fun K hK => ?_
  go_simp
  have HL := Lib.hid (show Reads (w17.alloc (.cells #[.int .u8 0] 5)) (w17.alloc (.cells #[.int .u8 0] 5)).heap.size 1 (some ⟨w17.heap.size, 0, none⟩) 1 (u8s [0]) from reads_lit _ _ _ _ _ _ rfl rfl rfl)
  replace H := Lib.hid (H.out.al (.cells #[.int .u8 0] 5))
  replace HX := Lib.hid (HX.out.al (.cells #[.int .u8 0] 5))
  replace HR := Lib.hid (HR.out.al (.cells #[.int .u8 0] 5))
  replace HS2 := Lib.hid (bal HS2.out (.cells #[.int .u8 0] 5))
  refine held_go hK (by exact HS2.out) fun hS => ?_
  clear hK K
  try simp only [Act.put, zpA, zpB, zpC]
  generalize w17.alloc (.cells #[.int .u8 0] 5) = w18 at *
  refine plan_eff1 rfl (by simp [Region.wanted, yielded]) fun K hK => ?_
  go_simp
  with_reducible refine (copyBytes_any Ax 19 cx xG _ HX.out (by decide)).mono ?_
  rintro e w20 ⟨A9, c9, rfl, -, -, ho, hb2⟩
  have HKH := H
  have HKX := HX
  have HKR := HR
  have HKS := HS2
  have HO := Lib.hid ho
  have HBk := Lib.hid hb2
  replace HS2 := Lib.hid (bon HS2.out hb2)
  replace HL := Lib.hid (HL.out.on hb2)
  refine held_go hK (by exact HS2.out) fun hS => ?_
  clear hK K
  try simp only [Act.put, zpA, zpB, zpC]
  rotate_left
  refine plan_eff1 rfl (by simp [Region.wanted, yielded]) fun K hK => ?_
  go_simp
  have HL := Lib.hid (show Reads (w16.alloc (.cells #[.int .u8 0] 5)) (w16.alloc (.cells #[.int .u8 0] 5)).heap.size 1 (some ⟨w16.heap.size, 0, none⟩) 1 (u8s [0]) from reads_lit _ _ _ _ _ _ rfl rfl rfl)
  replace H := Lib.hid (H.out.al (.cells #[.int .u8 0] 5))
  replace HX := Lib.hid (HX.out.al (.cells #[.int .u8 0] 5))
  replace HS2 := Lib.hid (bal HS2.out (.cells #[.int .u8 0] 5))
  refine held_go hK (by exact HS2.out) fun hS => ?_
  clear hK K
  try simp only [Act.put, zpA, zpB, zpC]
  refine plan_eff1 rfl (by simp [Region.wanted, yielded]) fun K hK => ?_
  go_simp
  with_reducible refine (twoG_any _).mono ?_
  rintro e w18 ⟨rfl, hr, hb2⟩
  have HR := Lib.hid (show Reads w18 w18.heap.size 7 (some ⟨w16.heap.size + 1, 0, none⟩) 2 (cos twoG) from by simpa using hr)
  replace H := Lib.hid (H.out.on hb2)
  replace HX := Lib.hid (HX.out.on hb2)
  replace HL := Lib.hid (HL.out.on hb2)
  replace HS2 := Lib.hid (bon HS2.out hb2)
  clear hr hb2
  refine held_go hK (by exact HS2.out) fun hS => ?_
  clear hK K
  try simp only [Act.put, zpA, zpB, zpC]
  refine plan_eff1 rfl (by simp [Region.wanted, yielded]) fun K hK => ?_
  go_simp
  with_reducible refine (copyBytes_any Ax 19 cx xG _ HX.out (by decide)).mono ?_
  rintro e w20 ⟨A9, c9, rfl, -, -, ho, hb2⟩
  have HKH := H
  have HKX := HX
  have HKR := HR
  have HKS := HS2
  have HO := Lib.hid ho
  have HBk := Lib.hid hb2
  replace HS2 := Lib.hid (bon HS2.out hb2)
  replace HL := Lib.hid (HL.out.on hb2)
  refine held_go hK (by exact HS2.out) fun hS => ?_
  clear hK K
  try simp only [Act.put, zpA, zpB, zpC]
  all_goals
   refine plan_eff1 rfl (by simp [Region.wanted, yielded]) fun K hK => ?_
   refine wp_append_any _ (.tmp 123) (.tmp 124) 35 rfl _ 5 i0 (.int .u8 0) 1 1 Tryz.underlying35 hi0 hz0 hz1 hz2 rfl (by decide) A9 19 c9 _ rfl HO.out (some ⟨_, 0, none⟩) 1 1 (u8s [0]) rfl HL.out (u8s_one _) (by decide) (by decide) HBk.out.size ?_
   intro A11 c11 w21 r1 r2 r3 r4 r5
   rw [← u8s_append] at r1
   have HX2 := Lib.hid (show Reads w21 w21.heap.size 1 A11 20 (u8s (xG ++ [0])) from own_reads r1)
   have hb2 := HBk.out.trans r2
   replace H := Lib.hid (HKH.out.on hb2)
   replace HX := Lib.hid (HKX.out.on hb2)
   replace HR := Lib.hid (HKR.out.on hb2)
   replace HS2 := Lib.hid (bon HKS.out hb2)
   clear r1 r2 r3 r4 r5 hb2 HL HO HBk HKH HKX HKR HKS
   refine held_go hK (by exact HS2.out) fun hS => ?_
   clear hK K
   try simp only [Act.put, zpA, zpB, zpC]
   refine plan_eff1 rfl (by simp [Region.wanted, yielded]) fun K hK => ?_
   go_simp
   with_reducible refine (gmatch_any _ 2 2 twoG 0 0 (some ⟨w.heap.size + 2, 0, none⟩) 2 2 itG A11 20 c11 (xG ++ [0]) _ HR.out (by decide) H.out.items (by decide) (by decide) itG_ok HX2.out (by decide) H.out.tab).mono ?_
   rw [matchG1]
   rintro e w22 ⟨rfl, hb3⟩
   replace HS2 := Lib.hid (bon HS2.out hb3)
   replace H := Lib.hid (H.out.on hb3)
   replace HX := Lib.hid (HX.out.on hb3)
   clear hb3 HR HX2
   refine held_go hK (by exact HS2.out) fun hS => ?_
   clear hK K
   try simp only [Act.put, zpA, zpB, zpC]
   iterate 4
    refine plan_pure (v := ?_) rfl rfl (by simp [Region.wanted, yielded]) hS ?_ ?_
    rotate_left
    ·intro w hw; go_simp; try with_reducible rfl
    try simp only [Act.put, zpA, zpB, zpC]
   refine plan_pure (v := ?_) rfl rfl (by simp [Region.wanted, yielded]) hS ?_ ?_
   rotate_left
   ·intro w hw; have c0 := HH.out.c2 w hw; clear hw; go_simp; try with_reducible rfl
   try simp only [Act.put, zpA, zpB, zpC]
   iterate 2
    refine plan_pure (v := ?_) rfl rfl (by simp [Region.wanted, yielded]) hS ?_ ?_
    rotate_left
    ·intro w hw; go_simp; try with_reducible rfl
    try simp only [Act.put, zpA, zpB, zpC]
   refine plan_pure (v := ?_) rfl rfl (by simp [Region.wanted, yielded]) hS ?_ ?_
   rotate_left
   ·intro w hw; have c0 := HG.out.i0 w hw; clear hw; go_simp; try with_reducible rfl
   try simp only [Act.put, zpA, zpB, zpC]
   iterate 2
    refine plan_pure (v := ?_) rfl rfl (by simp [Region.wanted, yielded]) hS ?_ ?_
    rotate_left
    ·intro w hw; go_simp; try with_reducible rfl
    try simp only [Act.put, zpA, zpB, zpC]
   refine plan_fork ?_ ?_
   refine plan_eff1 rfl (by simp [Region.wanted, yielded]) fun K hK => ?_
   go_simp
   with_reducible refine (twoG_any _).mono ?_
   rintro e w23 ⟨rfl, hr, hb2⟩
   have HR := Lib.hid (show Reads w23 w23.heap.size 7 (some ⟨w22.heap.size, 0, none⟩) 2 (cos twoG) from hr)
   replace H := Lib.hid (H.out.on hb2)
   replace HX := Lib.hid (HX.out.on hb2)
   replace HS2 := Lib.hid (bon HS2.out hb2)
   clear hr hb2
   refine held_go hK (by exact HS2.out) fun hS => ?_
   clear hK K
   try simp only [Act.put, zpA, zpB, zpC]
   refine plan_eff1 rfl (by simp [Region.wanted, yielded]) fun K hK => ?_
   go_simp
   have HI := Lib.hid (show ItemsAt (w23.alloc (.cells #[.slice (some ⟨w.heap.size, 0, none⟩) 2 2, .int .i64 0] 26)) (w23.alloc (.cells #[.slice (some ⟨w.heap.size, 0, none⟩) 2 2, .int .i64 0] 26)).heap.size (some ⟨w23.heap.size, 0, none⟩) 1 [(rowG, 0)] from items_one (Blk.new _ _ _) (H.out.al (.cells #[.slice (some ⟨w.heap.size, 0, none⟩) 2 2, .int .i64 0] 26)).row (by decide) (by decide))
   replace H := Lib.hid (H.out.al (.cells #[.slice (some ⟨w.heap.size, 0, none⟩) 2 2, .int .i64 0] 26))
   replace HX := Lib.hid (HX.out.al (.cells #[.slice (some ⟨w.heap.size, 0, none⟩) 2 2, .int .i64 0] 26))
   replace HR := Lib.hid (HR.out.al (.cells #[.slice (some ⟨w.heap.size, 0, none⟩) 2 2, .int .i64 0] 26))
   replace HS2 := Lib.hid (bal HS2.out (.cells #[.slice (some ⟨w.heap.size, 0, none⟩) 2 2, .int .i64 0] 26))
   refine held_go hK (by exact HS2.out) fun hS => ?_
   clear hK K
   try simp only [Act.put, zpA, zpB, zpC]
   generalize w23.alloc (.cells #[.slice (some ⟨w.heap.size, 0, none⟩) 2 2, .int .i64 0] 26) = w24 at *
   refine plan_pure (v := ?_) rfl rfl (by simp [Region.wanted, yielded]) hS ?_ ?_
   rotate_left
   ·intro w hw; go_simp; try with_reducible rfl
   try simp only [Act.put, zpA, zpB, zpC]
   rotate_left
   refine plan_eff1 rfl (by simp [Region.wanted, yielded]) fun K hK => ?_
   go_simp
   have HI := Lib.hid (show ItemsAt (w22.alloc (.cells #[.slice (some ⟨w.heap.size, 0, none⟩) 2 2, .int .i64 0] 26)) (w22.alloc (.cells #[.slice (some ⟨w.heap.size, 0, none⟩) 2 2, .int .i64 0] 26)).heap.size (some ⟨w22.heap.size, 0, none⟩) 1 [(rowG, 0)] from items_one (Blk.new _ _ _) (H.out.al (.cells #[.slice (some ⟨w.heap.size, 0, none⟩) 2 2, .int .i64 0] 26)).row (by decide) (by decide))
   replace H := Lib.hid (H.out.al (.cells #[.slice (some ⟨w.heap.size, 0, none⟩) 2 2, .int .i64 0] 26))
   replace HX := Lib.hid (HX.out.al (.cells #[.slice (some ⟨w.heap.size, 0, none⟩) 2 2, .int .i64 0] 26))
   replace HS2 := Lib.hid (bal HS2.out (.cells #[.slice (some ⟨w.heap.size, 0, none⟩) 2 2, .int .i64 0] 26))
   refine held_go hK (by exact HS2.out) fun hS => ?_
   clear hK K
   try simp only [Act.put, zpA, zpB, zpC]
   refine plan_pure (v := ?_) rfl rfl (by simp [Region.wanted, yielded]) hS ?_ ?_
   rotate_left
   ·intro w hw; go_simp; try with_reducible rfl
   try simp only [Act.put, zpA, zpB, zpC]
   refine plan_eff1 rfl (by simp [Region.wanted, yielded]) fun K hK => ?_
   go_simp
   with_reducible refine (twoG_any _).mono ?_
   rintro e w24 ⟨rfl, hr, hb2⟩
   have HR := Lib.hid (show Reads w24 w24.heap.size 7 (some ⟨w22.heap.size + 1, 0, none⟩) 2 (cos twoG) from by simpa using hr)
   replace H := Lib.hid (H.out.on hb2)
   replace HX := Lib.hid (HX.out.on hb2)
   replace HI := Lib.hid (HI.out.on hb2)
   replace HS2 := Lib.hid (bon HS2.out hb2)
   clear hr hb2
   refine held_go hK (by exact HS2.out) fun hS => ?_
   clear hK K
   try simp only [Act.put, zpA, zpB, zpC]
   all_goals
    refine plan_eff1 rfl (by simp [Region.wanted, yielded]) fun K hK => ?_
    go_simp
    with_reducible refine (gmatch_any _ 2 2 twoG 0 0 _ 1 1 [(rowG, 0)] Ax 19 cx xG _ HR.out (by decide) HI.out (by decide) (by decide) itH_ok HX.out (by decide) H.out.tab).mono ?_
    rw [matchG2]
    rintro e w25 ⟨rfl, hb3⟩
    replace HS2 := Lib.hid (bon HS2.out hb3)
    replace H := Lib.hid (H.out.on hb3)
    clear hb3 HR HI HX
    refine held_go hK (by exact HS2.out) fun hS => ?_
    clear hK K
    try simp only [Act.put, zpA, zpB, zpC]
    iterate 3
     refine plan_pure (v := ?_) rfl rfl (by simp [Region.wanted, yielded]) hS ?_ ?_
     rotate_left
     ·intro w hw; go_simp; try with_reducible rfl
     try simp only [Act.put, zpA, zpB, zpC]
    refine plan_end ?_
    go_wp2
    go_ret
    exact ⟨rfl, H.out.below⟩
end Go.Proofs.YtnkgchmkmhdcaaaGreatDoor
