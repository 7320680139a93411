/- Part 22 of the walks, merged: each text under its own heading. Conditions: none of its own; each lemma states what it asks. -/
import Derived.Test.YtjpjalmilfgckaaGreatDoorBk7
import Derived.Test.YtjpjalmilfgckaaGreatDoorBk8
import Derived.Test.YtjpjalmilfgckaaGreatDoorBk19
import Derived.Test.YtjpjalmilfgckaaGreatDoorBk21
import Derived.Laws.ResultCell
set_option linter.unusedVariables false
set_option linter.unusedSimpArgs false
namespace Go.Proofs.YtjpjalmilfgckaaGreatDoor
open Go.RowKit
set_option maxRecDepth 100000 in
set_option maxHeartbeats 1000000 in
theorem column_any (I : Option Addr) (m d : Nat) (l : List It) (k n : Nat) (w : World) (hi : ItemsAt w w.heap.size I m l) (hm : m ≤ 1048576) (hrow : ∀ it ∈ l, it.1.length = n) (hk : k < n) (hn : n ≤ 1048576) :
  Calls Tryz.prog 88 #[.slice I m d, .int .i64 (k : Int)] w fun e w' => ∃ A c, e = .returned (.slice A m c) ∧ m ≤ c ∧ c ≤ maxLen ∧ w'.ownsRow w.heap.size 23 3 (.slice A m c) m (cls (colC l k)) ∧ Below w.heap.size w w' := by
 obtain ⟨j0, hj0, hk0, hj1, hk2⟩ := info_parts cell_info
 have Hi := Lib.hid hi
 have Hrow := Lib.hid hrow
 have hm63 : m ≤ 9223372036854775807 := by omega
 have hkn : (k : Int) < (n : Int) := by omega
 clear hi hrow
 go_enter Tryz.func88, Tryz.ntmps88
 go_wp2
 go_loopw [5, 6] (fun u i wr => ∃ (j : Nat) (A9 : Option Addr) (c9 : Nat), j ≤ m ∧ u = .slice A9 j c9 ∧ i = .int .i64 (j : Int) ∧ Hid (j ≤ c9 ∧ c9 ≤ maxLen) ∧ Hid (wr.ownsRow w.heap.size 23 3 (.slice A9 j c9) j (cls (colC (l.take j) k))) ∧ Hid (Below w.heap.size w wr)) (fun _ i _ => m - (intOf i).toNat)
 case atStart => exact ⟨0, none, 0, Nat.zero_le _, rfl, rfl, Lib.hid (by simp [maxLen]), Lib.hid (by simpa [colC, cls] using World.ownsRow_nil _ _ _ _), Lib.hid (Below.refl _ _)⟩
 case round =>
  obtain ⟨j, A9, c9, hj, rfl, rfl, HC, HX, HY⟩ := hrel
  by_cases hlj : j < m
  ·obtain ⟨ad2, A', c', it, rfl, hbk, hit, h0, h1, hrow, hc1, hc2⟩ := (Hi.out.below HY.out).at_ hlj
   have hlen := Hrow.out it (List.mem_of_getElem? hit)
   rw [hlen] at h0 hrow hc1
   have hstep := colC_succ l k j it hit
   have hrow2 := hrow.more HY.out.size
   obtain ⟨ad3, u, x, sx, rfl, hbk3, hx, g0', g1', g2'⟩ := cls_at hrow2 hk
   rw [hx, Option.getD_some] at hstep
   have Hstep := Lib.hid hstep
   have hji : (j : Int) < (m : Int) := by omega
   have hs1 : j + 1 ≤ maxLen := by simp only [maxLen]; omega
   have hs2 : (j + 1) * 32 ≤ 70368744177664 := by omega
   clear hstep hrow hrow2 hx hit hlen hc1 hc2 hbk3 h1 hbk
   go_wp2_with (at_builtin
                refine wpList_append_any _ rfl (.tmp 13) (.tmp 22) 24 rfl w.heap.size 23 j0 (.agg #[.bool false, .int .i64 0, .string ⟨#[]⟩]) 3 32 Tryz.underlying24 hj0 hk0 hj1 hk2 rfl (by decide) A9 j c9 _ rfl (HX.out.alloc _) (some ⟨_, 0, none⟩) 1 1 (cls [(u, x, sx)]) rfl (reads_cell _ _ _ _) (cls_one _) hs1 hs2 (Nat.le_trans HY.out.size (by simp)) ?_
                intro A8 c8 w8 r1 r2 r3 r4 r5
                rw [← cls_append, ← Hstep.out] at r1
                have R1 := Lib.hid r1
                have R2 := Lib.hid ((bal HY.out _).trans r2)
                have R3 := Lib.hid (And.intro r4 r5)
                clear r1 r2 r3 r4 r5)
   go_roundw
   case rel => exact ⟨j + 1, A8, c8, by omega, rfl, by go_num, R3, R1, R2⟩
   case measure => simp [intOf]; omega
  ·obtain rfl : m = j := by omega
   have HX := Lib.hid (show wr.ownsRow w.heap.size 23 3 (.slice A9 m c9) m (cls (colC l k)) by have := HX.out; rwa [List.take_of_length_le (by rw [Hi.out.len]; exact Nat.le_refl _)] at this)
   go_wp2
   go_ret
   exact ⟨A9, c9, rfl, HC.out.1, HC.out.2, HX.out, HY.out⟩
set_option maxRecDepth 100000 in
set_option maxHeartbeats 4000000 in
theorem renc_any (A : Option Addr) (n c : Nat) (cs : List Co) (v s : Int) (I : Option Addr) (m d : Nat) (l : List It) (w : World) (hr : Reads w w.heap.size 7 A n (cos cs)) (hn : n ≤ maxLen) (hi : ItemsAt w w.heap.size I m l) (hm : m ≤ maxLen) (hok : BaOk (v, s, l)) (hcl : ItOk l) :
  Calls Tryz.prog 32 #[.slice A n c, .agg #[.int .i64 v, .int .i64 s, .slice I m d]] w (EncP (batE cs (v, s, l)) (encA cs (v, s, l)) w) := by
 obtain ⟨i0, hi0, hz0, hz1, hz2⟩ := info_parts u8_info
 have Hr := Lib.hid hr
 have Hi := Lib.hid hi
 have Hn := Lib.hid hn
 have Hm := Lib.hid hm
 have Hok := Lib.hid hok
 have Hcl := Lib.hid hcl
 have hm63 : m ≤ 9223372036854775807 := by simp only [maxLen] at hm; omega
 have hn63 : n ≤ 9223372036854775807 := by simp only [maxLen] at hn; omega
 have B1 := Lib.hid (Blk.new w 30 #[.int .i64 v, .int .i64 s, .slice I m d])
 have HB := Lib.hid (bal (Below.refl w.heap.size w) (.cells #[.int .i64 v, .int .i64 s, .slice I m d] 30))
 have c0 := B1.out.cell 0
 have c1 := B1.out.cell 1
 have c2 := B1.out.cell 2
 clear hr hi hn hm hok hcl
 go_enter Tryz.func32, Tryz.ntmps32
 go_wp2_with fail
 with_reducible refine (rcheck17_any A n c cs v s I m d l _ (Hr.out.on HB.out) Hn.out (Hi.out.on HB.out) Hm.out Hcl.out).mono ?_
 rintro e w1 ⟨rfl, hb1⟩
 have B1 := Lib.hid (B1.out.on hb1)
 have HB := Lib.hid (bon HB.out hb1)
 clear hb1 c0 c1 c2
 have c0 := B1.out.cell 0
 have c1 := B1.out.cell 1
 have c2 := B1.out.cell 2
 by_cases hE : batE cs (v, s, l) = 0
 ·have HF := Lib.hid ((fits_iff cs (v, s, l)).1 hE)
  have HE := Lib.hid hE
  rw [hE]
  clear hE
  obtain ⟨V, hV, hVl⟩ : ∃ V : Nat, v.toNat = V ∧ V ≤ 2147483647 := ⟨v.toNat, rfl, by have := HF.out.v1; simp only at this; omega⟩
  obtain ⟨S, hS, hSl⟩ : ∃ S : Nat, s.toNat = S ∧ S ≤ 9223372036854775807 := ⟨s.toNat, rfl, by have := Hok.out.1; simp only at this; omega⟩
  have hwv := wrap_nat v HF.out.v0 (by have := HF.out.v1; simp only at this; omega)
  have hws := wrap_nat s HF.out.s0 Hok.out.1
  have Hml := Lib.hid (show m ≤ 1048576 by have := HF.out.rows; rw [show ((v, s, l) : Ba).2.2 = l from rfl, Hi.out.len] at this; exact this)
  have Hnl := Lib.hid (show n ≤ 32 by have := (mayCs_len HF.out.may).2; rw [cos_len Hr.out] at this; exact this)
  rw [hV] at hwv
  rw [hS] at hws
  have HVn := Lib.hid hV
  have HSn := Lib.hid hS
  clear hV hS
  have hwm : IntKind.u64.wrap (m : Int) = (m : Int) := (wrap_nat m (by omega) (by omega)).trans (by simp)
  have hlt := B1.out.lt
  have HR0 := Lib.hid (show Reads (w1.alloc (.cells #[.int .u8 77, .int .u8 83, .int .u8 1] 5)) (w1.alloc (.cells #[.int .u8 77, .int .u8 83, .int .u8 1] 5)).heap.size 1 (some ⟨w1.heap.size, 0, none⟩) 3 (u8s (hdB V S m 0)) from reads_lit _ _ _ _ _ _ rfl rfl rfl)
  have HB := Lib.hid (bal HB.out (.cells #[.int .u8 77, .int .u8 83, .int .u8 1] 5))
  have B1 := Lib.hid (B1.out.alloc (.cells #[.int .u8 77, .int .u8 83, .int .u8 1] 5))
  have h30 := hdB_le V S m 1 (by omega)
  have h31 := hdB_le V S m 2 (by omega)
  have e1 : (hdB V S m 1).length = 3 + (leb V).length := by rw [hdB_succ V S m 0 V rfl, List.length_append]; rfl
  have e2 : (hdB V S m 2).length = 3 + (leb V).length + (leb S).length := by rw [hdB_succ V S m 1 S rfl, List.length_append, e1]
  rw [e1] at h30
  rw [e2] at h31
  clear e1 e2
  go_wp2_with fail
  with_reducible refine (refPut_any (some ⟨w1.heap.size, 0, none⟩) 3 3 V (hdB V S m 0) _ HR0.out (by decide) (by omega)).mono ?_
  rintro e w2 ⟨A2, c2', rfl, q1, q2, q3, q4⟩
  rw [← hdB_succ V S m 0 V rfl] at q3
  have HO := Lib.hid (own_mono q3 HB.out.size)
  have HB := Lib.hid (bon HB.out q4)
  have B1 := Lib.hid (B1.out.on q4)
  clear q1 q2 q3 q4 c0 c1 c2
  have c1 := B1.out.cell 1
  generalize 3 + (leb V).length = n1 at *
  go_wp2_with fail
  with_reducible refine (refPut_any A2 n1 c2' S (hdB V S m 1) _ (own_reads HO.out) (by omega) (by omega)).mono ?_
  rintro e w3 ⟨A3, c3', rfl, q1, q2, q3, q4⟩
  rw [← hdB_succ V S m 1 S rfl] at q3
  have HO := Lib.hid (own_mono q3 HB.out.size)
  have HB := Lib.hid (bon HB.out q4)
  have B1 := Lib.hid (B1.out.on q4)
  clear q1 q2 q3 q4 c1
  have c2 := B1.out.cell 2
  generalize n1 + (leb S).length = n2 at *
  go_wp2_with fail
  with_reducible refine (refPut_any A3 n2 c3' m (hdB V S m 2) _ (own_reads HO.out) (by omega) (by omega)).mono ?_
  rintro e w4 ⟨A4, c4', rfl, q1, q2, q3, q4⟩
  rw [← hdB_succ V S m 2 m rfl, ← HVn.out, ← HSn.out, hdB_three, ← Hi.out.len, ← preB_zero cs (v, s, l)] at q3
  have HO := Lib.hid (own_mono q3 HB.out.size)
  have HB := Lib.hid (bon HB.out q4)
  have B1 := Lib.hid (B1.out.on q4)
  clear q1 q2 q3 q4 c2 h30 h31 hVl hSl hwv hws hwm HR0
  rw [Hi.out.len] at HO
  generalize n2 + (leb m).length = n3 at *
  go_wp2
  go_loopw [7, 8] (fun u i wr => ∃ (k : Nat) (A1 : Option Addr) (n1 c1 : Nat), k ≤ n ∧ u = .slice A1 n1 c1 ∧ i = .int .i64 (k : Int) ∧ Hid (wr.ownsRow w.heap.size 5 1 (.slice A1 n1 c1) n1 (u8s (preB cs (v, s, l) k))) ∧ Hid (Blk wr w.heap.size 30 #[.int .i64 v, .int .i64 s, .slice I m d]) ∧ Hid (Below w.heap.size w wr)) (fun _ i _ => n - (intOf i).toNat)
  case atStart => exact ⟨0, A4, n3, c4', Nat.zero_le _, rfl, rfl, HO, B1, HB⟩
  case round =>
   obtain ⟨k, A1, n1, c1, hk, rfl, rfl, HO, BL, HL⟩ := hrel
   by_cases hlt : k < n
   ·obtain ⟨ad, co, rfl, hbk, hco, hat⟩ := cos_at (Hr.out.below HL.out) hlt
    obtain ⟨ci, cnm, ck, cnl, cu, cx, csx⟩ := co
    have Hco := Lib.hid hco
    have hki : (k : Int) < (n : Int) := by omega
    have Hlt := Lib.hid hlt
    have hbk2 := Nat.lt_of_lt_of_le hbk HL.out.size
    have HA2 := Lib.hid (show ∀ w', Below wr.heap.size wr w' → w'.cell? ⟨(ad.add (k * 7)).block, (ad.add (k * 7)).off + 2, none⟩ = some (.int .i64 ck) from fun w' h => (h.cell (World.block_lt_of_cell? _ _ hat.c2)).trans hat.c2)
    have HA3 := Lib.hid (show ∀ w', Below wr.heap.size wr w' → w'.cell? ⟨(ad.add (k * 7)).block, (ad.add (k * 7)).off + 3, none⟩ = some (.bool cnl) from fun w' h => (h.cell (World.block_lt_of_cell? _ _ hat.c3)).trans hat.c3)
    have HC2 := Lib.hid (show ∀ w', Below wr.heap.size wr w' → w'.cell? ⟨w.heap.size, 2, none⟩ = some (.slice I m d) from fun w' h => (BL.out.on h).cell 2)
    have HE0 := Lib.hid (putE_ok (mayCs_at HF.out.may Hco.out) (HF.out.col Hco.out))
    have HPB := Lib.hid (preB_succ cs (v, s, l) k _ Hco.out)
    have hle := HF.out.preB_le k (by rw [cos_len Hr.out]; exact hk)
    have hn1 : n1 = (preB cs (v, s, l) k).length := (reads_len (own_reads HO.out)).symm
    have hn1l : n1 ≤ 274877906944 := by omega
    have Hrow := Lib.hid (fun (it : It) (h : it ∈ l) => (HF.out.row (b := (v, s, l)) h).trans (cos_len Hr.out))
    have hS : Below wr.heap.size wr wr.drew := (Below.refl _ _).drew
    simp only at HE0 HPB
    rw [← putO_ok (preB cs (v, s, l) k) HE0.out] at HPB
    clear hle hn1 hco hat hbk hbk2
    go_wp2
    refine wp_region_keep (fun w' => Below wr.heap.size wr w') [(0, false), (1, false), (2, false), (3, false), (4, false), (5, false), (6, false), (7, false), (8, false), (9, true), (10, true), (11, false), (12, false), (13, false), (14, false), (15, false)] (by kernel_rfl) (by kernel_rfl) (by kernel_rfl) (fun d _ _ _ _ h => by cases d <;> exact h) ?_
    iterate 5
     refine held_pure (v := ?_) rfl rfl (by simp [Region.wanted, yielded]) hS ?_ ?_
     rotate_left
     ·intro w hw; go_simp; try with_reducible rfl
     try simp only [Act.put, zpA, zpB, zpC]
    refine held_pure (v := ?_) rfl rfl (by simp [Region.wanted, yielded]) hS ?_ ?_
    rotate_left
    ·intro w hw; have c0 := HA2.out w hw; have c1 := HA3.out w hw; clear hw; go_simp; try with_reducible rfl
    try simp only [Act.put, zpA, zpB, zpC]
    refine held_pure (v := ?_) rfl rfl (by simp [Region.wanted, yielded]) hS ?_ ?_
    rotate_left
    ·intro w hw; go_simp; try with_reducible rfl
    try simp only [Act.put, zpA, zpB, zpC]
    refine held_pure (v := ?_) rfl rfl (by simp [Region.wanted, yielded]) hS ?_ ?_
    rotate_left
    ·intro w hw; have c0 := HC2.out w hw; clear hw; go_simp; try with_reducible rfl
    try simp only [Act.put, zpA, zpB, zpC]
    refine held_pure (v := ?_) rfl rfl (by simp [Region.wanted, yielded]) hS ?_ ?_
    rotate_left
    ·intro w hw; go_simp; try with_reducible rfl
    try simp only [Act.put, zpA, zpB, zpC]
    refine held_eff1 rfl (by simp [Region.wanted, yielded]) fun K hK => ?_
    go_simp
    with_reducible refine (column_any I m d l k n _ (Hi.out.on (bon HL.out hS)) Hml.out Hrow.out Hlt.out (by have := Hnl.out; omega)).mono ?_
    rintro e w5 ⟨A5, c5, rfl, q1, q2, q3, q4⟩
    have HS5 := Lib.hid (bon hS q4)
    have HX5 := Lib.hid (own_reads q3)
    clear q1 q2 q3 q4
    refine held_go hK (by exact HS5.out) fun hS => ?_
    clear hK K
    try simp only [Act.put, zpA, zpB, zpC]
    refine held_eff1 rfl (by simp [Region.wanted, yielded]) fun K hK => ?_
    go_simp
    have HO5 := Lib.hid (own_below HO.out HS5.out)
    with_reducible refine (rput_any A1 n1 c1 (preB cs (v, s, l) k) ck cnl A5 m c5 (colC l k) _ (own_reads HO5.out) hn1l HX5.out Hml.out (colC_ok Hcl.out k)).mono ?_
    rw [HE0.out, ← HPB.out]
    rintro e w6 ⟨A6, n6, c6, rfl, q1, q2, q3, q4⟩
    have HO6 := Lib.hid (own_mono q3 (bon HL.out HS5.out).size)
    have HS6 := Lib.hid (bon HS5.out q4)
    clear q1 q2 q3 q4
    refine held_go hK (by exact HS6.out) fun hS => ?_
    clear hK K
    try simp only [Act.put, zpA, zpB, zpC]
    iterate 5
     refine held_pure (v := ?_) rfl rfl (by simp [Region.wanted, yielded]) hS ?_ ?_
     rotate_left
     ·intro w hw; go_simp; try with_reducible rfl
     try simp only [Act.put, zpA, zpB, zpC]
    refine held_end ?_
    have HL6 := Lib.hid (bon HL.out HS6.out)
    have BL6 := Lib.hid (BL.out.on HS6.out)
    go_wp2
    go_roundw
    case rel => exact ⟨k + 1, A6, n6, c6, Hlt.out, rfl, by go_num, HO6, BL6, HL6⟩
    case measure => have := Hlt.out; simp [intOf]; omega
   ·obtain rfl : n = k := by omega
    rw [← cos_len Hr.out, ← preW_zero] at HO
    clear HB B1
    go_wp2
    go_loopw [7, 11] (fun u i WX => ∃ (j : Nat) (A1 : Option Addr) (n1 c1 : Nat), j ≤ m ∧ u = .slice A1 n1 c1 ∧ i = .int .i64 (j : Int) ∧ Hid (WX.ownsRow w.heap.size 5 1 (.slice A1 n1 c1) n1 (u8s (preW cs (v, s, l) j))) ∧ Hid (Blk WX w.heap.size 30 #[.int .i64 v, .int .i64 s, .slice I m d]) ∧ Hid (Below w.heap.size w WX)) (fun _ i _ => m - (intOf i).toNat)
    case atStart => exact ⟨0, A1, n1, c1, Nat.zero_le _, rfl, rfl, HO, BL, HL⟩
    case round =>
     clear HO BL HL
     obtain ⟨j, A1, n1, c1, hj, rfl, rfl, HO, BL, HL⟩ := hrel
     have c2 := BL.out.cell 2
     by_cases hlj : j < m
     ·obtain ⟨ad2, A', c', it, rfl, hbk, hit, h0, h1, -, -, -⟩ := (Hi.out.below HL.out).at_ hlj
      have HPW := Lib.hid (preW_succ cs (v, s, l) j it hit)
      have hle := HF.out.preW_le j
      have hn1 : n1 = (preW cs (v, s, l) j).length := (reads_len (own_reads HO.out)).symm
      have hn1l : n1 ≤ 1099511627776 := by omega
      have hwo := (Hcl.out it (List.mem_of_getElem? hit)).2
      have hji : (j : Int) < (m : Int) := by omega
      have Hlj := Lib.hid hlj
      generalize it.2 = wt at *
      have hw4 := HL.out.size
      clear hle hn1 hit h0
      go_wp2_with fail
      with_reducible refine (refPutInt_any A1 n1 c1 wt (preW cs (v, s, l) j) _ (own_reads HO.out) hn1l hwo.1 hwo.2).mono ?_
      rintro e w5 ⟨A5, c5, rfl, q1, q2, q3, q4⟩
      rw [← HPW.out] at q3
      have HO5 := Lib.hid (own_mono q3 hw4)
      have BL5 := Lib.hid (BL.out.on q4)
      have HL5 := Lib.hid (bon HL.out q4)
      generalize n1 + (leb (zig wt)).length = n5 at *
      clear q1 q2 q3 q4 h1 hbk hwo c2
      go_wp2
      go_roundw
      case rel => exact ⟨j + 1, A5, n5, c5, Hlj.out, rfl, by go_num, HO5, BL5, HL5⟩
      case measure => have := Hlj.out; simp [intOf]; omega
     ·obtain rfl : m = j := by omega
      have HO := Lib.hid (show wr.ownsRow w.heap.size 5 1 (.slice A1 n1 c1) n1 (u8s (bodyB cs (v, s, l))) by have := HO.out; rwa [show preW cs (v, s, l) m = bodyB cs (v, s, l) by rw [← preW_end, ← Hi.out.len]] at this)
      have Hbl := Lib.hid (show (bodyB cs (v, s, l)).length = n1 from reads_len (own_reads HO.out))
      have hble := HF.out.body_le
      have hcap := own_caps HO.out
      have hn1m : n1 ≤ maxLen := Nat.le_trans hcap.1 hcap.2
      have hs1 : n1 + 4 ≤ maxLen := by rw [Hbl.out] at hble; simp only [maxLen]; omega
      have hs2 : (n1 + 4) * 1 ≤ 70368744177664 := by rw [Hbl.out] at hble; omega
      clear hble hcap
      go_wp2_with fail
      with_reducible refine (rsum_any A1 n1 c1 (bodyB cs (v, s, l)) _ (own_reads HO.out) hn1m).mono ?_
      rintro e w5 ⟨rfl, rfl⟩
      have hsl : crcS (bodyB cs (v, s, l)) < 4294967296 := crcU_lt 0 _
      go_wp2_with fail
      with_reducible refine (rbytes_any (crcS (bodyB cs (v, s, l))) hsl _).mono ?_
      rintro e w6 ⟨gg, rfl, hgg, q3, q4⟩
      have HO6 := Lib.hid (own_below HO.out q4)
      have HL6 := Lib.hid (bon HL.out q4)
      have HS6 := Lib.hid (own_reads q3)
      clear q3 q4 hgg c2 hsl
      go_wp2_with (at_builtin
                   refine wpList_append_any _ rfl (.tmp 71) (.tmp 74) 35 rfl w.heap.size 5 i0 (.int .u8 0) 1 1 Tryz.underlying35 hi0 hz0 hz1 hz2 rfl (by decide) A1 n1 c1 _ rfl HO6.out (some ⟨gg, 0, none⟩) 4 4 (u8s (sumB (crcS (bodyB cs (v, s, l))))) rfl HS6.out (u8s_one _) hs1 hs2 HL6.out.size ?_
                   intro A8 c8 w8 r1 r2 r3 r4 r5
                   rw [← u8s_append] at r1
                   have R1 := Lib.hid r1
                   have R2 := Lib.hid (HL6.out.trans r2)
                   clear r1 r2 r3 r4 r5)
      go_ret2
      have hlen : (encA cs (v, s, l)).length = n1 + 4 := by
       have := Hbl.out
       unfold encA
       rw [List.length_append, this]
       rfl
      exact ⟨R2.out, .inl ⟨HE.out, A8, c8, by rw [hlen]; rfl, by rw [hlen]; exact R1.out⟩⟩
 ·have HE := Lib.hid hE
  have hz : (batE cs (v, s, l) != 0) = true := by simpa using hE
  clear hE
  go_wp2
  go_ret2
  exact ⟨HB.out, .inr ⟨HE.out, rfl⟩⟩
end Go.Proofs.YtjpjalmilfgckaaGreatDoor
namespace Go.Proofs.YtjpjalmilfgckaaGreatDoor
open Go.RowKit
set_option maxRecDepth 100000 in
theorem beq_any (A B : Option Addr) (n c m d : Nat) (l1 l2 : List UInt8) (w : World) (h1 : Reads w w.heap.size 1 A n (u8s l1)) (h2 : Reads w w.heap.size 1 B m (u8s l2)) :
  Calls Tryz.prog 69 #[.slice A n c, .slice B m d] w fun e w' => e = .returned (.bool (l1 == l2)) ∧ w = w' := by
 have e1 := run_bytes_string (P := Tryz.prog) w 35 9 5 Tryz.underlying35 Tryz.underlying5 Tryz.underlying9 _ A n c l1 h1
 have e2 := run_bytes_string (P := Tryz.prog) w 35 9 5 Tryz.underlying35 Tryz.underlying5 Tryz.underlying9 _ B m d l2 h2
 go_enter Tryz.func69, Tryz.ntmps69
 go_wp2
 go_ret
 exact ⟨rfl, rfl⟩
set_option maxRecDepth 100000 in
theorem bhas_any (A B : Option Addr) (n c m d : Nat) (l1 l2 : List UInt8) (w : World) (h1 : Reads w w.heap.size 1 A n (u8s l1)) (h2 : Reads w w.heap.size 1 B m (u8s l2)) (hn : n ≤ c) (hc : c ≤ maxLen) :
  Calls Tryz.prog 140 #[.slice A n c, .slice B m d] w fun e w' => e = .returned (.bool (l1.take m == l2)) ∧ w = w' := by
 have hl1 := reads_len h1
 have hl2 := reads_len h2
 have hc63 : c ≤ 9223372036854775807 := by simp only [maxLen] at hc; omega
 by_cases hmn : m ≤ n
 ·have d1 : decide ((m : Int) ≤ (n : Int)) = true := by simp; omega
  have hmi : (m : Int) ≤ (n : Int) := by omega
  have hr := h1.head hmn
  rw [Nat.mul_one, u8s_take] at hr
  have HK := Lib.hid (beq_any A B m c m d (l1.take m) l2 w hr h2)
  clear h1 h2 hr hl1 hl2
  go_enter Tryz.func140, Tryz.ntmps140
  go_wp2_with fail
  with_reducible refine HK.out.mono ?_
  rintro e w1 ⟨rfl, rfl⟩
  go_wp2
  go_ret
  exact ⟨rfl, rfl⟩
 ·have d1 : decide ((m : Int) ≤ (n : Int)) = false := by simp; omega
  have hE : (l1.take m == l2) = false := by
   rw [beq_eq_false_iff_ne]
   intro h
   have := congrArg List.length h
   rw [List.length_take] at this
   omega
  rw [hE]
  clear h1 h2 hl1 hl2 hE
  go_enter Tryz.func140, Tryz.ntmps140
  go_wp2
  go_ret
  exact ⟨rfl, rfl⟩
def CutP (l1 l2 : List UInt8) (A : Option Addr) (n c m b : Nat) (w : World) (e : Ending) (w' : World) : Prop :=
 w = w' ∧ if (l1.take m == l2) = true then ∃ A' k c', e = .returned (.tuple #[.slice A' k c', .bool true]) ∧ Reads w b 1 A' k (u8s (l1.drop m)) ∧ k ≤ c' ∧ c' ≤ maxLen
 else e = .returned (.tuple #[.slice A n c, .bool false])
set_option maxRecDepth 100000 in
theorem bcut_any (b : Nat) (A B : Option Addr) (n c m d : Nat) (l1 l2 : List UInt8) (w : World) (h1 : Reads w b 1 A n (u8s l1)) (hb : b ≤ w.heap.size) (h2 : Reads w w.heap.size 1 B m (u8s l2)) (hn : n ≤ c) (hc : c ≤ maxLen) :
  Calls Tryz.prog 80 #[.slice A n c, .slice B m d] w (CutP l1 l2 A n c m b w) := by
 have hl1 := reads_len h1
 have hl2 := reads_len h2
 have hc63 : c ≤ 9223372036854775807 := by simp only [maxLen] at hc; omega
 have HK := Lib.hid (bhas_any A B n c m d l1 l2 w (h1.more hb) h2 hn hc)
 by_cases he : (l1.take m == l2) = true
 ·have hmn : m ≤ n := by
   have := congrArg List.length (eq_of_beq he)
   rw [List.length_take] at this
   omega
  have hcut := h1.cut hmn hn
  rw [Nat.mul_one, u8s_drop] at hcut
  obtain ⟨A2, hA2⟩ : ∃ A2, (if c = m then A else Option.map (fun x => x.add m) A) = A2 := ⟨_, rfl⟩
  rw [hA2] at hcut
  have Hcut := Lib.hid hcut
  have hmi : (m : Int) ≤ (n : Int) := by omega
  have hmi2 : (m : Int) ≤ (c : Int) := by omega
  have hmc : m ≤ c := by omega
  have HE := Lib.hid he
  clear h1 h2 hl1 hl2 hcut
  go_enter Tryz.func80, Tryz.ntmps80
  go_wp2_with fail
  with_reducible refine HK.out.mono ?_
  rintro e w1 ⟨rfl, rfl⟩
  rw [he]
  clear he
  go_wp2
  go_ret2
  refine ⟨rfl, ?_⟩
  rw [if_pos HE.out]
  exact ⟨A2, n - m, c - m, rfl, Hcut.out, by omega, by simp only [maxLen] at hc ⊢; omega⟩
 ·have HE := Lib.hid he
  have he2 : (l1.take m == l2) = false := by simpa using he
  clear h1 h2 hl1 hl2 he
  go_enter Tryz.func80, Tryz.ntmps80
  go_wp2_with fail
  with_reducible refine HK.out.mono ?_
  rintro e w1 ⟨rfl, rfl⟩
  rw [he2]
  clear he2
  go_wp2
  go_ret2
  refine ⟨rfl, ?_⟩
  rw [if_neg HE.out]
  rfl
def NumR (r : Got (Nat × List UInt8)) (base g : Nat) (w : World) (e : Ending) (w' : World) : Prop :=
 match r with
 | .ok p => e = .returned (.int .u64 (p.1 : Int)) ∧ ∃ B m c, w' = w.setCell ⟨g, 0, none⟩ (.slice B m c) ∧ Reads w base 1 B m (u8s p.2) ∧ m ≤ c ∧ c ≤ maxLen
 | .error er => e = thr (er : Int) ∧ er ≠ 0 ∧ w' = w
set_option maxRecDepth 100000 in
set_option maxHeartbeats 1000000 in
theorem number_any (base g : Nat) (B : Option Addr) (m c : Nat) (xs : List UInt8) (most beyond : Nat) (w : World) (hG : Blk w g 129 #[.slice B m c]) (hr : Reads w base 1 B m (u8s xs)) (hb : base ≤ w.heap.size) (hm : m ≤ c) (hc : c ≤ maxLen) (hbe : beyond ≠ 0) :
  Calls Tryz.prog 154 #[.pointer (some ⟨g, 0, none⟩), .int .u64 (most : Int), .int .i64 (beyond : Int)] w (NumR (numD most beyond xs) base g w) := by
 have hxl := reads_len hr
 have HK := Lib.hid (get_any B m c xs w (hr.more hb) hm hc)
 have hc0 := hG.cell 0
 have hf0 := hG.frozen 0
 have hc63 : c ≤ 9223372036854775807 := by simp only [maxLen] at hc; omega
 rcases get_only xs with ⟨N, hg, hN, hl, -⟩ | ⟨er, hg, he, hel⟩
 ·have hE : numD most beyond xs = if N ≤ most then .ok (N, xs.drop (leb N).length) else .error beyond := by
   unfold numD
   rw [hg]
   simp
  rw [hg] at HK
  unfold gotten at HK
  generalize (leb N).length = sz at *
  rw [hxl] at hl
  have hcut := hr.cut hl hm
  rw [Nat.mul_one, u8s_drop] at hcut
  obtain ⟨A2, hA2⟩ : ∃ A2, (if c = sz then B else Option.map (fun x => x.add sz) B) = A2 := ⟨_, rfl⟩
  rw [hA2] at hcut
  have Hcut := Lib.hid hcut
  have HE := Lib.hid hE
  have hmi : (sz : Int) ≤ (m : Int) := by omega
  have hmi2 : (sz : Int) ≤ (c : Int) := by omega
  have hmc : sz ≤ c := by omega
  simp only at HK
  clear hr hxl hcut hE hg hG
  go_enter Tryz.func154, Tryz.ntmps154
  go_wp2_with fail
  with_reducible refine HK.out.mono ?_
  rintro e w1 ⟨rfl, rfl⟩
  go_wp2_with fail
  with_reducible refine (must_yes _).mono ?_
  rintro e w2 ⟨rfl, rfl⟩
  by_cases hle : N ≤ most
  ·have HE := Lib.hid (show numD most beyond xs = .ok (N, xs.drop sz) by rw [HE.out, if_pos hle])
   have d1 : decide (N ≤ most) = true := by simpa using hle
   clear hle
   go_wp2_with fail
   with_reducible refine (need_yes _ _).mono ?_
   rintro e w2 ⟨rfl, rfl⟩
   go_wp2
   go_ret
   rw [HE.out]
   exact ⟨rfl, A2, m - sz, c - sz, rfl, Hcut.out, by omega, by simp only [maxLen] at hc ⊢; omega⟩
  ·have HE := Lib.hid (show numD most beyond xs = .error beyond by rw [HE.out, if_neg hle])
   have d1 : decide (N ≤ most) = false := by simpa using hle
   clear hle
   go_wp2_with fail
   with_reducible refine (need_no _ _).mono ?_
   rintro e w2 ⟨rfl, rfl⟩
   go_wp2
   refine ⟨rfl, ?_⟩
   rw [HE.out]
   exact ⟨rfl, hbe, rfl⟩
 ·have HE := Lib.hid (show numD most beyond xs = .error er by unfold numD; rw [hg]; simp [he])
  rw [hg] at HK
  unfold gotten at HK
  simp only at HK
  have hei : (er : Int) ≠ 0 := by omega
  clear hr hxl hg hG
  go_enter Tryz.func154, Tryz.ntmps154
  go_wp2_with fail
  with_reducible refine HK.out.mono ?_
  rintro e w1 ⟨rfl, rfl⟩
  go_wp2_with fail
  with_reducible refine (must_no _ hei _).mono ?_
  rintro e w2 ⟨rfl, rfl⟩
  go_wp2
  refine ⟨rfl, ?_⟩
  rw [HE.out]
  exact ⟨rfl, he, rfl⟩
end Go.Proofs.YtjpjalmilfgckaaGreatDoor
namespace Go.Proofs.YtjpjalmilfgckaaGreatDoor
open Go.RowKit
theorem number_lit (base g : Nat) (B : Option Addr) (m c : Nat) (xs : List UInt8) (most beyond : Nat) (mi bi : Int) (h1 : mi = (most : Int)) (h2 : bi = (beyond : Int)) (w : World) (hG : Blk w g 129 #[.slice B m c]) (hr : Reads w base 1 B m (u8s xs)) (hb : base ≤ w.heap.size) (hm : m ≤ c) (hc : c ≤ maxLen) (hbe : beyond ≠ 0) :
  Calls Tryz.prog 154 #[.pointer (some ⟨g, 0, none⟩), .int .u64 mi, .int .i64 bi] w (NumR (numD most beyond xs) base g w) := by
 subst h1 h2
 exact number_any base g B m c xs most beyond w hG hr hb hm hc hbe
def HeadR (r : Got (Nat × Nat × Nat × List UInt8)) (base g : Nat) (w : World) (e : Ending) (w' : World) : Prop :=
 But w.heap.size g w w' ∧ match r with
 | .ok h => e = .returned (.tuple #[.agg #[.int .i64 (h.1 : Int), .int .i64 (h.2.1 : Int), .slice none 0 0], .int .i64 (h.2.2.1 : Int)]) ∧ ∃ B m c, Blk w' g 129 #[.slice B m c] ∧ Reads w' base 1 B m (u8s h.2.2.2) ∧ m ≤ c ∧ c ≤ maxLen
 | .error er => e = thr (er : Int) ∧ er ≠ 0
theorem batD_none {xs : List UInt8} (h : xs.length < 4) : batD xs = .error 3 := by unfold batD; rw [if_pos h]
theorem batD_sum {xs : List UInt8} (h : ¬ xs.length < 4) (h2 : (sumB (crcS (xs.take (xs.length - 4))) == xs.drop (xs.length - 4)) = false) : batD xs = .error 170 := by
 unfold batD
 rw [if_neg h, if_neg (by simpa using h2)]
theorem batD_magic {xs : List UInt8} (h : ¬ xs.length < 4) (h2 : (sumB (crcS (xs.take (xs.length - 4))) == xs.drop (xs.length - 4)) = true) (h3 : ((xs.take (xs.length - 4)).take 3 == [77, 83, 1]) = false) : batD xs = .error 171 := by
 unfold batD
 rw [if_neg h, if_pos (by simpa using h2), if_neg (by simpa using h3)]
theorem batD_on {xs : List UInt8} (h : ¬ xs.length < 4) (h2 : (sumB (crcS (xs.take (xs.length - 4))) == xs.drop (xs.length - 4)) = true) (h3 : ((xs.take (xs.length - 4)).take 3 == [77, 83, 1]) = true) : batD xs = batR ((xs.take (xs.length - 4)).drop 3) := by
 unfold batD
 rw [if_neg h, if_pos (by simpa using h2), if_pos (by simpa using h3)]
theorem numD_le {most beyond : Nat} {xs : List UInt8} {p : Nat × List UInt8} (h : numD most beyond xs = .ok p) : p.1 ≤ most := (numD_only h).1
theorem wrap_i64 (n : Nat) (h : n ≤ 9223372036854775807) : IntKind.i64.wrap (n : Int) = (n : Int) := by
 simp [IntKind.wrap, IntKind.signed, IntKind.bits]
 omega
set_option maxRecDepth 100000 in
set_option maxHeartbeats 2000000 in
theorem head_any (base g : Nat) (B : Option Addr) (m c : Nat) (xs : List UInt8) (w : World) (hG : Blk w g 129 #[.slice B m c]) (hr : Reads w base 1 B m (u8s xs)) (hb : base ≤ g) (hm : m ≤ c) (hc : c ≤ maxLen) (hT : Tab2 base w) :
  Calls Tryz.prog 97 #[.pointer (some ⟨g, 0, none⟩)] w (HeadR (batD xs) base g w) := by
 have hgl := hG.lt
 have hbw : base ≤ w.heap.size := by omega
 have hxl := reads_len hr
 have Hxl := Lib.hid hxl
 have hc63 : c ≤ 9223372036854775807 := by simp only [maxLen] at hc; omega
 have Hr := Lib.hid hr
 have HT := Lib.hid hT
 have Hc := Lib.hid hc
 have HB := Lib.hid ((Below.refl _ w).alloc (Nat.le_refl _) (.cells #[.int .i64 0, .int .i64 0, .slice none 0 0] 30))
 have HG := Lib.hid (hG.alloc (.cells #[.int .i64 0, .int .i64 0, .slice none 0 0] 30))
 have HP := Lib.hid (Blk.new w 30 #[.int .i64 0, .int .i64 0, .slice none 0 0])
 have hcg := HG.out.cell 0
 clear hG hr hT hxl hc
 go_enter Tryz.func97, Tryz.ntmps97
 by_cases h4 : m < 4
 ·have d1 : decide ((4 : Int) ≤ (m : Int)) = false := by simp; omega
  have d2 : decide (4 ≤ m) = false := by simp; omega
  have HE := Lib.hid (batD_none (by rw [Hxl.out]; exact h4))
  go_wp2_with fail
  with_reducible refine (need_no 3 _).mono ?_
  rintro e w1 ⟨rfl, rfl⟩
  go_wp2
  refine ⟨rfl, But.of_below HB.out (Nat.le_refl _), ?_⟩
  rw [HE.out]
  exact ⟨rfl, by decide⟩
 ·have d1 : decide ((4 : Int) ≤ (m : Int)) = true := by simp; omega
  have d2 : decide (4 ≤ m) = true := by simp; omega
  have H4 := Lib.hid (show ¬ xs.length < 4 by rw [Hxl.out]; exact h4)
  obtain ⟨k, hk⟩ : ∃ k, k = m - 4 := ⟨_, rfl⟩
  have hsub : (m : Int) - 4 = (k : Int) := by omega
  have Hk := Lib.hid hk
  have hkm : k ≤ m := by omega
  have hki : (k : Int) ≤ (m : Int) := by omega
  have hki2 : (k : Int) ≤ (c : Int) := by omega
  have hkc : k ≤ c := by omega
  have htk := Hr.out.head hkm
  rw [Nat.mul_one, u8s_take] at htk
  have hdr := Hr.out.cut hkm hm
  rw [Nat.mul_one, u8s_drop] at hdr
  obtain ⟨A2, hA2⟩ : ∃ A2, (if c = k then B else Option.map (fun x => x.add k) B) = A2 := ⟨_, rfl⟩
  rw [hA2] at hdr
  have hmk : m - k = 4 := by omega
  rw [hmk] at hdr
  have Htk := Lib.hid htk
  have Hdr := Lib.hid hdr
  clear hk htk hdr
  go_wp2_with fail
  with_reducible refine (need_yes 3 _).mono ?_
  rintro e w1 ⟨rfl, rfl⟩
  go_wp2
  obtain ⟨W1, hW1⟩ : ∃ W1, w.alloc (.cells #[.int .i64 0, .int .i64 0, .slice none 0 0] 30) = W1 := ⟨_, rfl⟩
  rw [hW1] at HB HG HP hcg ⊢
  have hW1s : W1.heap.size = w.heap.size + 1 := by rw [← hW1]; simp
  clear hW1
  have HKg := Lib.hid (show ∀ w', Below W1.heap.size W1 w' → w'.cell? ⟨g, 0, none⟩ = some (.slice B m c) from fun w' h => (HG.out.on h).cell 0)
  have Htk := Lib.hid (Htk.out.below (HB.out.mono hbw))
  have Hdr := Lib.hid (Hdr.out.below (HB.out.mono hbw))
  have HT := Lib.hid (HT.out.keep (HB.out.mono hbw))
  have hbW : base ≤ W1.heap.size := by omega
  have Hwc := Lib.hid (show k ≤ maxLen from Nat.le_trans hkc Hc.out)
  clear hcg
  have hS : Below W1.heap.size W1 W1.drew := (Below.refl _ _).drew
  refine wp_region_keep (fun w' => Below W1.heap.size W1 w') [(0, false), (1, false), (2, false), (3, false), (4, false), (5, false), (7, false), (8, false), (9, false), (10, false), (11, false), (12, false), (6, true), (13, true), (14, true)] (by kernel_rfl) (by kernel_rfl) (by kernel_rfl) (fun d _ _ _ _ h => by cases d <;> exact h) ?_
  iterate 3
   refine held_pure (v := ?_) rfl rfl (by simp [Region.wanted, yielded]) hS ?_ ?_
   rotate_left
   ·intro w hw; go_simp; try with_reducible rfl
   try simp only [Act.put, zpA, zpB, zpC]
  refine held_pure (v := ?_) rfl rfl (by simp [Region.wanted, yielded]) hS ?_ ?_
  rotate_left
  ·intro w hw; have c0 := HKg.out w hw; clear hw; go_simp; try with_reducible rfl
  try simp only [Act.put, zpA, zpB, zpC]
  iterate 5
   refine held_pure (v := ?_) rfl rfl (by simp [Region.wanted, yielded]) hS ?_ ?_
   rotate_left
   ·intro w hw; go_simp; try with_reducible rfl
   try simp only [Act.put, zpA, zpB, zpC]
  refine held_pure (v := ?_) rfl rfl (by simp [Region.wanted, yielded]) hS ?_ ?_
  rotate_left
  ·intro w hw; have c0 := HKg.out w hw; clear hw; go_simp; try with_reducible rfl
  try simp only [Act.put, zpA, zpB, zpC]
  iterate 2
   refine held_pure (v := ?_) rfl rfl (by simp [Region.wanted, yielded]) hS ?_ ?_
   rotate_left
   ·intro w hw; go_simp; try with_reducible rfl
   try simp only [Act.put, zpA, zpB, zpC]
  refine held_eff1 rfl (by simp [Region.wanted, yielded]) fun K hK => ?_
  go_simp
  with_reducible refine (bsum_any B k c (xs.take k) _ ((Htk.out.more hbW).on hS) Hwc.out (HT.out.keep (hS.mono hbW)).ctab).mono ?_
  rintro e w2 ⟨gg, rfl, -, q3, q4⟩
  have HS2 := Lib.hid (own_reads q3)
  have HB2 := Lib.hid (bon hS q4)
  clear q3 q4
  refine held_go hK (by exact HB2.out) fun hS => ?_
  clear hK K
  try simp only [Act.put, zpA, zpB, zpC]
  refine held_eff1 rfl (by simp [Region.wanted, yielded]) fun K hK => ?_
  go_simp
  with_reducible refine (beq_any (some ⟨gg, 0, none⟩) A2 4 4 4 (c - k) (sumB (crcS (xs.take k))) (xs.drop k) _ HS2.out ((Hdr.out.more hbW).on HB2.out)).mono ?_
  rintro e w3 ⟨rfl, rfl⟩
  cases hsum : (sumB (crcS (xs.take k)) == xs.drop k) with
  | false =>
   have HE := Lib.hid (batD_sum H4.out (by rw [Hxl.out, ← Hk.out]; exact hsum))
   clear hsum
   refine held_go hK (by exact HB2.out) fun hS => ?_
   clear hK K
   try simp only [Act.put, zpA, zpB, zpC]
   refine held_eff1 rfl (by simp [Region.wanted, yielded]) fun K hK => ?_
   go_simp
   with_reducible refine (need_no 170 _).mono ?_
   rintro e w4 ⟨rfl, rfl⟩
   refine ⟨rfl, But.of_below (HB.out.trans (HB2.out.mono HB.out.size)) (Nat.le_refl _), ?_⟩
   rw [HE.out]
   exact ⟨rfl, by decide⟩
  | true =>
   have HE := Lib.hid (show (sumB (crcS (xs.take (xs.length - 4))) == xs.drop (xs.length - 4)) = true by rw [Hxl.out, ← Hk.out]; exact hsum)
   clear hsum
   refine held_go hK (by exact HB2.out) fun hS => ?_
   clear hK K
   try simp only [Act.put, zpA, zpB, zpC]
   refine held_eff1 rfl (by simp [Region.wanted, yielded]) fun K hK => ?_
   go_simp
   with_reducible refine (need_yes 170 _).mono ?_
   rintro e w4 ⟨rfl, rfl⟩
   refine held_go hK (by exact HB2.out) fun hS => ?_
   clear hK K
   try simp only [Act.put, zpA, zpB, zpC]
   refine held_end ?_
   have HG2 := Lib.hid (HG.out.on HB2.out)
   have HP2 := Lib.hid (HP.out.on HB2.out)
   have HB3 := Lib.hid (HB.out.trans (HB2.out.mono HB.out.size))
   have hz2 := HB2.out.size
   have Htk2 := Lib.hid (Htk.out.below (HB2.out.mono hbW))
   have HT2 := Lib.hid (HT.out.keep (HB2.out.mono hbW))
   clear hS HKg HB2 HS2 HG HP HB Htk HT Hdr
   have hcg := HG2.out.cell 0
   have hconv : (convert 35 35 (.slice (some ⟨w2.heap.size, 0, none⟩) 3 3)).run Tryz.prog (w2.alloc (.cells #[.int .u8 77, .int .u8 83, .int .u8 1] 5)) = .ok (.slice (some ⟨w2.heap.size, 0, none⟩) 3 3) (w2.alloc (.cells #[.int .u8 77, .int .u8 83, .int .u8 1] 5 (3, 4))) :=
    Lib.run_convert_bytes_const w2 _ _ _ 3 3 Tryz.underlying35 Tryz.underlying5
   have HL := Lib.hid (reads_marked w2 #[.int .u8 77, .int .u8 83, .int .u8 1] 5 3 4 3 (u8s [77, 83, 1]) rfl rfl)
   have HB4 := Lib.hid ((Below.refl _ w2).alloc (Nat.le_refl _) (.cells #[.int .u8 77, .int .u8 83, .int .u8 1] 5 (3, 4)))
   go_wp2_with fail
   with_reducible refine (bcut_any base B (some ⟨w2.heap.size, 0, none⟩) k c 3 3 (xs.take k) [77, 83, 1] _ (Htk2.out.below (HB4.out.mono (by omega))) (by simp; omega) HL.out hkc Hc.out).mono ?_
   rintro e w5 ⟨rfl, hm5⟩
   clear hconv hcg
   generalize hw5 : w2.alloc (.cells #[.int .u8 77, .int .u8 83, .int .u8 1] 5 (3, 4)) = w5 at *
   clear hw5
   have HG3 := Lib.hid (HG2.out.on HB4.out)
   have HP3 := Lib.hid (HP2.out.on HB4.out)
   have HB5 := Lib.hid (bon HB3.out HB4.out)
   have hz5 := HB5.out.size
   clear HG2 HP2 HB3 HB4 HL Htk2
   cases hmg : ((xs.take k).take 3 == [77, 83, 1]) with
   | false =>
    rw [hmg, if_neg (by simp)] at hm5
    have HE := Lib.hid (batD_magic H4.out HE.out (by rw [Hxl.out, ← Hk.out]; exact hmg))
    subst hm5
    clear hmg
    go_wp2_with fail
    with_reducible refine (need_no 171 _).mono ?_
    rintro e w4 ⟨rfl, rfl⟩
    go_wp2
    refine ⟨rfl, But.of_below HB5.out (Nat.le_refl _), ?_⟩
    rw [HE.out]
    exact ⟨rfl, by decide⟩
   | true =>
    rw [hmg, if_pos rfl] at hm5
    obtain ⟨B3, m3, c3, rfl, hr3, hm3, hc3⟩ := hm5
    have HE := Lib.hid (batD_on H4.out HE.out (by rw [Hxl.out, ← Hk.out]; exact hmg))
    rw [Hxl.out, ← Hk.out] at HE
    clear hmg
    have Hr3 := Lib.hid hr3
    have HC3 := Lib.hid (And.intro hm3 hc3)
    clear hr3 hm3 hc3
    have hfg := HG3.out.frozen 0
    have hcg := HG3.out.cell 0
    go_wp2_with fail
    with_reducible refine (need_yes 171 _).mono ?_
    rintro e w4 ⟨rfl, rfl⟩
    have HG6 := Lib.hid (HG3.out.set_ 0 (.slice B3 m3 c3))
    simp only [List.setIfInBounds_toArray, List.set_cons_zero] at HG6
    have HP6 := Lib.hid (HP3.out.far (p := ⟨g, 0, none⟩) (by show w.heap.size ≠ g; omega) (.slice B3 m3 c3))
    have HR6 := Lib.hid (Hr3.out.setCell (p := ⟨g, 0, none⟩) hb (.slice B3 m3 c3))
    have HB6 := Lib.hid ((But.of_below (g := g) HB5.out (Nat.le_refl _)).set 0 (.slice B3 m3 c3))
    obtain ⟨w6, hw6⟩ : ∃ w6, w5.setCell ⟨g, 0, none⟩ (.slice B3 m3 c3) = w6 := ⟨_, rfl⟩
    rw [hw6] at HG6 HP6 HR6 HB6
    have Hw6 := Lib.hid hw6
    clear hw6
    have hz6 := HB6.out.size
    go_wp2_with fail
    rw [Hw6.out]
    with_reducible refine (number_lit base g B3 m3 c3 _ 2147483647 6 2147483647 6 rfl rfl w6 HG6.out HR6.out (by omega) HC3.out.1 HC3.out.2 (by decide)).mono ?_
    rintro e w7 h7
    cases hn1 : numD 2147483647 6 ((xs.take k).drop 3) with
    | error er =>
     rw [hn1] at h7
     obtain ⟨rfl, he, rfl⟩ := h7
     have HE := Lib.hid (show batD xs = .error er by rw [HE.out]; unfold batR; rw [hn1]; rfl)
     clear hn1 hfg hcg
     go_wp2
     refine ⟨rfl, HB6.out, ?_⟩
     rw [HE.out]
     exact ⟨rfl, he⟩
    | ok p =>
     rw [hn1] at h7
     have HE := Lib.hid (show batD xs = thenG (numD 9223372036854775807 6 p.2) fun q => thenG (numD 1048576 5 q.2) fun r => .ok (p.1, q.1, r.1, r.2) by rw [HE.out]; unfold batR; rw [hn1]; rfl)
     have hp1 := numD_le hn1
     obtain ⟨N1, ys⟩ := p
     obtain ⟨rfl, B4, m4, c4, rfl, hr4, hm4, hc4⟩ := h7
     simp only at HE hp1 hr4
     have hwr := wrap_i64 N1 (by omega)
     have HG7 := Lib.hid (HG6.out.set_ 0 (.slice B4 m4 c4))
     simp only [List.setIfInBounds_toArray, List.set_cons_zero] at HG7
     have HP7 := Lib.hid (HP6.out.far (p := ⟨g, 0, none⟩) (by show w.heap.size ≠ g; omega) (.slice B4 m4 c4))
     have HR7 := Lib.hid (hr4.setCell (p := ⟨g, 0, none⟩) hb (.slice B4 m4 c4))
     have HB7 := Lib.hid (HB6.out.set 0 (.slice B4 m4 c4))
     have HC4 := Lib.hid (And.intro hm4 hc4)
     clear hn1 hfg hcg hr4 hm4 hc4 HG6 HP6 HR6 HB6 Hw6 HG3 HP3 HB5 hz5 Hr3
     generalize w6.setCell ⟨g, 0, none⟩ (.slice B4 m4 c4) = w7 at *
     have hc7 := HP7.out.cell 0
     have hf7 := HP7.out.frozen 0
     have HG8 := Lib.hid (HG7.out.far (p := ⟨w.heap.size, 0, none⟩) (by show g ≠ w.heap.size; omega) (.int .i64 (N1 : Int)))
     have HP8 := Lib.hid (HP7.out.set_ 0 (.int .i64 (N1 : Int)))
     simp only [List.setIfInBounds_toArray, List.set_cons_zero] at HP8
     have HR8 := Lib.hid (HR7.out.setCell (p := ⟨w.heap.size, 0, none⟩) hbw (.int .i64 (N1 : Int)))
     have HB8 := Lib.hid (HB7.out.far (p := ⟨w.heap.size, 0, none⟩) (Nat.le_refl _) (.int .i64 (N1 : Int)))
     have hz8 := HB8.out.size
     obtain ⟨w8, hw8⟩ : ∃ w8, w7.setCell ⟨w.heap.size, 0, none⟩ (.int .i64 (N1 : Int)) = w8 := ⟨_, rfl⟩
     rw [hw8] at HG8 HP8 HR8 HB8 hz8
     have Hw8 := Lib.hid hw8
     clear hw8
     go_wp2_with fail
     rw [Hw8.out]
     with_reducible refine (number_lit base g B4 m4 c4 ys 9223372036854775807 6 9223372036854775807 6 rfl rfl w8 HG8.out HR8.out (by omega) HC4.out.1 HC4.out.2 (by decide)).mono ?_
     rintro e w9 h9
     cases hn2 : numD 9223372036854775807 6 ys with
     | error er =>
      rw [hn2] at h9
      obtain ⟨rfl, he, rfl⟩ := h9
      have HE := Lib.hid (show batD xs = .error er by rw [HE.out, hn2]; rfl)
      clear hn2 hc7 hf7
      go_wp2
      refine ⟨rfl, HB8.out, ?_⟩
      rw [HE.out]
      exact ⟨rfl, he⟩
     | ok q =>
      rw [hn2] at h9
      have HE := Lib.hid (show batD xs = thenG (numD 1048576 5 q.2) fun r => .ok (N1, q.1, r.1, r.2) by rw [HE.out, hn2]; rfl)
      have hp2 := numD_le hn2
      obtain ⟨N2, zs⟩ := q
      obtain ⟨rfl, B5, m5, c5, rfl, hr5, hm5, hc5⟩ := h9
      simp only at HE hp2 hr5
      have hwr2 := wrap_i64 N2 (by omega)
      have HG9 := Lib.hid (HG8.out.set_ 0 (.slice B5 m5 c5))
      simp only [List.setIfInBounds_toArray, List.set_cons_zero] at HG9
      have HP9 := Lib.hid (HP8.out.far (p := ⟨g, 0, none⟩) (by show w.heap.size ≠ g; omega) (.slice B5 m5 c5))
      have HR9 := Lib.hid (hr5.setCell (p := ⟨g, 0, none⟩) hb (.slice B5 m5 c5))
      have HB9 := Lib.hid (HB8.out.set 0 (.slice B5 m5 c5))
      have HC5 := Lib.hid (And.intro hm5 hc5)
      clear hn2 hc7 hf7 hr5 hm5 hc5 HG8 HP8 HR8 HB8 Hw8 HG7 HP7 HR7 HB7 hz8 hwr
      generalize w8.setCell ⟨g, 0, none⟩ (.slice B5 m5 c5) = w9 at *
      have hc9 := HP9.out.cell 1
      have hf9 := HP9.out.frozen 1
      have HGa := Lib.hid (HG9.out.far (p := ⟨w.heap.size, 1, none⟩) (by show g ≠ w.heap.size; omega) (.int .i64 (N2 : Int)))
      have HPa := Lib.hid (HP9.out.set_ 1 (.int .i64 (N2 : Int)))
      simp only [List.setIfInBounds_toArray, List.set_cons_zero, List.set_cons_succ] at HPa
      have HRa := Lib.hid (HR9.out.setCell (p := ⟨w.heap.size, 1, none⟩) hbw (.int .i64 (N2 : Int)))
      have HBa := Lib.hid (HB9.out.far (p := ⟨w.heap.size, 1, none⟩) (Nat.le_refl _) (.int .i64 (N2 : Int)))
      go_wp2
      clear hc9 hf9 HG9 HP9 HR9 HB9
      generalize w9.setCell ⟨w.heap.size, 1, none⟩ (.int .i64 (N2 : Int)) = wa at *
      have hza := HBa.out.size
      have hS : Blk wa.drew w.heap.size 30 #[.int .i64 (N1 : Int), .int .i64 (N2 : Int), .slice none 0 0] := HPa.out.drew
      have HL0 := Lib.hid (show ∀ w', Blk w' w.heap.size 30 #[.int .i64 (N1 : Int), .int .i64 (N2 : Int), .slice none 0 0] → w'.cell? ⟨w.heap.size, 0, none⟩ = some (.int .i64 (N1 : Int)) from fun w' h => h.cell 0)
      have HL1 := Lib.hid (show ∀ w', Blk w' w.heap.size 30 #[.int .i64 (N1 : Int), .int .i64 (N2 : Int), .slice none 0 0] → w'.cell? ⟨w.heap.size, 1, none⟩ = some (.int .i64 (N2 : Int)) from fun w' h => h.cell 1)
      have HL2 := Lib.hid (show ∀ w', Blk w' w.heap.size 30 #[.int .i64 (N1 : Int), .int .i64 (N2 : Int), .slice none 0 0] → w'.cell? ⟨w.heap.size, 2, none⟩ = some (.slice none 0 0) from fun w' h => h.cell 2)
      refine wp_region_keep (fun w' => Blk w' w.heap.size 30 #[.int .i64 (N1 : Int), .int .i64 (N2 : Int), .slice none 0 0]) [(0, false), (1, false), (2, true), (3, false), (4, true), (5, false)] (by kernel_rfl) (by kernel_rfl) (by kernel_rfl) (fun d _ _ _ _ h => by cases d <;> exact h) ?_
      refine held_pure (v := ?_) rfl rfl (by simp [Region.wanted, yielded]) hS ?_ ?_
      rotate_left
      ·intro w hw; have c0 := HL0.out w hw; have c1 := HL1.out w hw; have c2 := HL2.out w hw; clear hw; go_simp; try with_reducible rfl
      try simp only [Act.put, zpA, zpB, zpC]
      refine held_pure (v := ?_) rfl rfl (by simp [Region.wanted, yielded]) hS ?_ ?_
      rotate_left
      ·intro w hw; go_simp; try with_reducible rfl
      try simp only [Act.put, zpA, zpB, zpC]
      refine held_eff1 rfl (by simp [Region.wanted, yielded]) fun K hK => ?_
      go_simp
      with_reducible refine (number_lit base g B5 m5 c5 zs 1048576 5 1048576 5 rfl rfl wa.drew HGa.out.drew HRa.out.drew (by have h : wa.drew.heap.size = wa.heap.size := rfl; omega) HC5.out.1 HC5.out.2 (by decide)).mono ?_
      rintro e wb hb'
      cases hn3 : numD 1048576 5 zs with
      | error er =>
       rw [hn3] at hb'
       obtain ⟨rfl, he, rfl⟩ := hb'
       have HE := Lib.hid (show batD xs = .error er by rw [HE.out, hn3]; rfl)
       refine ⟨rfl, HBa.out.drew, ?_⟩
       rw [HE.out]
       exact ⟨rfl, he⟩
      | ok r =>
       rw [hn3] at hb'
       have HE := Lib.hid (show batD xs = .ok (N1, N2, r.1, r.2) by rw [HE.out, hn3]; rfl)
       have hp3 := numD_le hn3
       obtain ⟨N3, us⟩ := r
       obtain ⟨rfl, B6, m6, c6, rfl, hr6, hm6, hc6⟩ := hb'
       simp only at HE hp3 hr6
       have hwr3 := wrap_i64 N3 (by omega)
       have HGb := Lib.hid (HGa.out.drew.set_ 0 (.slice B6 m6 c6))
       simp only [List.setIfInBounds_toArray, List.set_cons_zero] at HGb
       have HPb := Lib.hid (HPa.out.drew.far (p := ⟨g, 0, none⟩) (by show w.heap.size ≠ g; omega) (.slice B6 m6 c6))
       have HRb := Lib.hid (hr6.setCell (p := ⟨g, 0, none⟩) hb (.slice B6 m6 c6))
       have HBb := Lib.hid (HBa.out.drew.set 0 (.slice B6 m6 c6))
       have HC6 := Lib.hid (And.intro hm6 hc6)
       clear hn3 hr6 hm6 hc6
       generalize wa.drew.setCell ⟨g, 0, none⟩ (.slice B6 m6 c6) = wb at *
       refine held_go hK (by exact HPb.out) fun hS => ?_
       clear hK K
       try simp only [Act.put, zpA, zpB, zpC]
       refine held_pure (v := ?_) rfl rfl (by simp [Region.wanted, yielded]) hS ?_ ?_
       rotate_left
       ·intro w hw; go_simp; try with_reducible rfl
       try simp only [Act.put, zpA, zpB, zpC]
       refine held_eff1 rfl (by simp [Region.wanted, yielded]) fun K hK => ?_
       have hc0 := HPb.out.cell 0
       have hc1 := HPb.out.cell 1
       have hc2 := HPb.out.cell 2
       have hf0 := HPb.out.frozen 0
       have hf1 := HPb.out.frozen 1
       have hf2 := HPb.out.frozen 2
       go_simp
       have HGc := Lib.hid (((HGb.out.far (p := ⟨w.heap.size, 0, none⟩) (by show g ≠ w.heap.size; omega) (.int .i64 (N1 : Int))).far (p := ⟨w.heap.size, 1, none⟩) (by show g ≠ w.heap.size; omega) (.int .i64 (N2 : Int))).far (p := ⟨w.heap.size, 2, none⟩) (by show g ≠ w.heap.size; omega) (.slice none 0 0))
       have HPc := Lib.hid (((HPb.out.set_ 0 (.int .i64 (N1 : Int))).set_ 1 (.int .i64 (N2 : Int))).set_ 2 (.slice none 0 0))
       simp only [List.setIfInBounds_toArray, List.set_cons_zero, List.set_cons_succ] at HPc
       have HRc := Lib.hid (((HRb.out.setCell (p := ⟨w.heap.size, 0, none⟩) hbw (.int .i64 (N1 : Int))).setCell (p := ⟨w.heap.size, 1, none⟩) hbw (.int .i64 (N2 : Int))).setCell (p := ⟨w.heap.size, 2, none⟩) hbw (.slice none 0 0))
       have HBc := Lib.hid (((HBb.out.far (p := ⟨w.heap.size, 0, none⟩) (Nat.le_refl _) (.int .i64 (N1 : Int))).far (p := ⟨w.heap.size, 1, none⟩) (Nat.le_refl _) (.int .i64 (N2 : Int))).far (p := ⟨w.heap.size, 2, none⟩) (Nat.le_refl _) (.slice none 0 0))
       clear hc0 hc1 hc2 hf0 hf1 hf2 HGb HPb HRb HBb
       generalize ((wb.setCell ⟨w.heap.size, 0, none⟩ (.int .i64 (N1 : Int))).setCell ⟨w.heap.size, 1, none⟩ (.int .i64 (N2 : Int))).setCell ⟨w.heap.size, 2, none⟩ (.slice none 0 0) = wc at *
       refine held_go hK (by exact HPc.out) fun hS => ?_
       clear hK K
       try simp only [Act.put, zpA, zpB, zpC]
       refine held_pure (v := ?_) rfl rfl (by simp [Region.wanted, yielded]) hS ?_ ?_
       rotate_left
       ·intro w hw; go_simp; try with_reducible rfl
       try simp only [Act.put, zpA, zpB, zpC]
       refine held_end ?_
       have hc0 := HPc.out.cell 0
       have hc1 := HPc.out.cell 1
       have hc2 := HPc.out.cell 2
       go_wp2
       refine bodyPost_ret (v := .tuple #[.agg #[.int .i64 (N1 : Int), .int .i64 (N2 : Int), .slice none 0 0], .int .i64 (N3 : Int)]) (by rw [results_cell_tmp rfl]; simp [go_sem, hc0, hc1, hc2]) rfl ?_
       refine ⟨HBc.out, ?_⟩
       rw [HE.out]
       exact ⟨rfl, B6, m6, c6, HGc.out, HRc.out, HC6.out.1, HC6.out.2⟩
end Go.Proofs.YtjpjalmilfgckaaGreatDoor
