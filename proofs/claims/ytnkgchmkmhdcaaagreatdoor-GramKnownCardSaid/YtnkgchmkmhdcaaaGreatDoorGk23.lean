/- Part 23 of the walks, merged: each text under its own heading. Conditions: none of its own; each lemma states what it asks. -/
import Derived.Test.YtnkgchmkmhdcaaaGreatDoorGk16
import Derived.Test.YtnkgchmkmhdcaaaGreatDoorGk17
import Derived.Test.YtnkgchmkmhdcaaaGreatDoorGk18
import Derived.Test.YtnkgchmkmhdcaaaGreatDoorGk22
import Derived.OwnWalkIn
import Derived.TacticsInMore
import Derived.LoopNIn
import Derived.LoopIn
import Derived.Shelf.RegionOpen
set_option linter.unusedVariables false
set_option linter.unusedSimpArgs false
namespace Go.Proofs.YtnkgchmkmhdcaaaGreatDoor
open Go.RowKit
theorem colsB_prefix (cs : List Co) (l : List It) {j k : Nat} (h : j ≤ k) : colsB cs l j <+: colsB cs l k := by
 induction k with
 | zero =>
  obtain rfl : j = 0 := by omega
  exact List.prefix_refl _
 | succ k ih =>
  rcases Nat.lt_or_ge j (k + 1) with h1 | h1
  ·rw [colsB_succ]
   exact (ih (by omega)).trans (List.prefix_append _ _)
  ·obtain rfl : j = k + 1 := by omega
   exact List.prefix_refl _
theorem preB_prefix (cs : List Co) (b : Ba) {j : Nat} (h : j ≤ cs.length) : preB cs b j <+: bodyB cs b := by
 rw [← preW_end]
 unfold preW
 exact List.IsPrefix.trans ((List.prefix_append_right_inj _).2 (colsB_prefix cs b.2.2 h)) (List.prefix_append _ _)
theorem preW_prefix (cs : List Co) (b : Ba) (i : Nat) : preW cs b i <+: bodyB cs b := by
 rw [← preW_end]
 unfold preW
 refine (List.prefix_append_right_inj _).2 ?_
 unfold wsB
 rw [List.take_length]
 conv => rhs; rw [← List.take_append_drop i b.2.2, List.flatMap_append]
 exact List.prefix_append _ _
section
variable {J Jx : List UInt8 → World → Prop} {base B : Nat} {f : FuncId} {caps : Array Value}
theorem Emit.halt {pre tot done bs q : List UInt8} {w w2 : World} (hp : done ++ bs <+: tot) (hq : q <+: bs) (hx : Jx (pre ++ done ++ q) w2) (hm : Mid base B w w2) : Emit J Jx base B pre tot w (.returned (.bool false)) w2 :=
 Emit.no (q := done ++ q) ((prefix_app hq).trans hp) (by rw [← List.append_assoc]; exact hx) hm
theorem Kept.reads {w : World} {A : Option Addr} {n : Nat} {bs : List UInt8} (h : Reads w w.heap.size 1 A n (u8s bs)) (hn : n ≤ maxLen) (hB : ∀ ad, A = some ad → B ≤ ad.block) : Kept base B w A n bs := by
 refine ⟨hn, fun wr hm => ⟨h.1, fun h0 => ?_⟩⟩
 obtain ⟨ad, e, hb, hc⟩ := h.2 h0
 exact ⟨ad, e, Nat.lt_of_lt_of_le hb hm.size, fun j u hu => (hm.cell (by rw [block_of_add]; exact hb) (.inr (by rw [block_of_add]; exact hB ad e))).trans (hc j u hu)⟩
set_option maxRecDepth 100000 in
set_option maxHeartbeats 8000000 in
theorem yahead_any (hy : YOk f caps J Jx base B) (A : Option Addr) (n c : Nat) (cs : List Co) (v s : Int) (I : Option Addr) (m d : Nat) (li : List It) (pre : List UInt8) (w : World) (hJ : J pre w) (hcols : Reads w base 7 A n (cos cs)) (hitems : ItemsAt w base I m li) (hf : Fits cs (v, s, li)) (hok : ItOk li) (hs : s ≤ 9223372036854775807) :
  Calls Tryz.prog 191 #[yv f caps, .slice A n c, .agg #[.int .i64 v, .int .i64 s, .slice I m d]] w (Emit J Jx base B pre (bodyB cs (v, s, li)) w) := by
 obtain ⟨j0, ti0, ti1, ti2, ti3⟩ := info_parts cell_info
 have hBw := hy.big _ _ hJ
 have hbase := hy.le
 have hsz0 : base ≤ w.heap.size := by omega
 have Hy := Lib.hid hy
 have HC := Lib.hid (show ∀ wr, Mid base B w wr → Reads wr base 7 A n (cos cs) from fun wr h => hcols.mid0 h hsz0)
 have HI := Lib.hid (show ∀ wr, Mid base B w wr → ItemsAt wr base I m li from fun wr h => hitems.below (h.below hsz0))
 have Hf := Lib.hid hf
 have Hok := Lib.hid hok
 have hnl := cos_len hcols
 have Hnl := Lib.hid hnl
 have hml := hitems.len
 have Hml := Lib.hid hml
 have hn32 : n ≤ 32 := by have := (mayCs_len hf.may).2; omega
 have hm20 : m ≤ 1048576 := by have := hf.rows; simp only at this; omega
 have hv0 := hf.v0
 have hv1 := hf.v1
 have hs0 := hf.s0
 simp only at hv0 hv1 hs0
 obtain ⟨V, hV, hVl⟩ : ∃ V : Nat, v = (V : Int) ∧ V ≤ 2147483647 := ⟨v.toNat, by omega, by omega⟩
 obtain ⟨S, hS, hSl⟩ : ∃ S : Nat, s = (S : Int) ∧ S ≤ 9223372036854775807 := ⟨s.toNat, by omega, by omega⟩
 subst hV hS
 have hhead : preB cs ((V : Int), (S : Int), li) 0 = [77, 83, 1] ++ (leb V ++ (leb S ++ leb m)) := by
  rw [preB_zero]
  unfold headB
  simp only [Int.toNat_natCast, hml]
 have Hhead := Lib.hid hhead
 have Hp0 := Lib.hid (show [77, 83, 1] ++ (leb V ++ (leb S ++ leb m)) <+: bodyB cs ((V : Int), (S : Int), li) by rw [← hhead]; exact preB_prefix _ _ (Nat.zero_le _))
 have HJ0 := Lib.hid (hy.alJ (hy.alJ hJ (.cells #[.int .i64 (V : Int), .int .i64 (S : Int), .slice I m d] 30)) (.cells #[.int .u8 77, .int .u8 83, .int .u8 1] 5 (3, 4)))
 have HM0 := Lib.hid (((Mid.refl base B w).alloc (.cells #[.int .i64 (V : Int), .int .i64 (S : Int), .slice I m d] 30)).alloc (.cells #[.int .u8 77, .int .u8 83, .int .u8 1] 5 (3, 4)))
 have HP0 := Lib.hid ((Blk.new w 30 #[.int .i64 (V : Int), .int .i64 (S : Int), .slice I m d]).alloc (.cells #[.int .u8 77, .int .u8 83, .int .u8 1] 5 (3, 4)))
 have hW1 : (w.alloc (.cells #[.int .i64 (V : Int), .int .i64 (S : Int), .slice I m d] 30)).heap.size = w.heap.size + 1 := by simp
 have HK0 := Lib.hid (show Kept base B ((w.alloc (.cells #[.int .i64 (V : Int), .int .i64 (S : Int), .slice I m d] 30)).alloc (.cells #[.int .u8 77, .int .u8 83, .int .u8 1] 5 (3, 4))) (some ⟨w.heap.size + 1, 0, none⟩) 3 [77, 83, 1] from by
  refine Kept.reads (by rw [← hW1]; exact reads_marked _ _ _ _ _ _ _ rfl rfl) (by decide) (fun ad h => by cases h; show B ≤ w.heap.size + 1; omega))
 have hconv : (convert 35 35 (.slice (some ⟨w.heap.size + 1, 0, none⟩) 3 3)).run Tryz.prog ((w.alloc (.cells #[.int .i64 (V : Int), .int .i64 (S : Int), .slice I m d] 30)).alloc (.cells #[.int .u8 77, .int .u8 83, .int .u8 1] 5)) = .ok (.slice (some ⟨w.heap.size + 1, 0, none⟩) 3 3) ((w.alloc (.cells #[.int .i64 (V : Int), .int .i64 (S : Int), .slice I m d] 30)).alloc (.cells #[.int .u8 77, .int .u8 83, .int .u8 1] 5 (3, 4))) := by
  rw [← hW1]
  exact Lib.run_convert_bytes_const _ _ _ _ 3 3 Tryz.underlying35 Tryz.underlying5
 have hm63 : m ≤ 9223372036854775807 := by omega
 clear hy hJ hcols hitems hf hok hnl hml hhead hW1 hs hv0 hv1 hs0
 go_enter Tryz.func191, Tryz.ntmps191
 go_wp2_with fail
 clear hconv
 generalize (w.alloc (.cells #[.int .i64 (V : Int), .int .i64 (S : Int), .slice I m d] 30)).alloc (.cells #[.int .u8 77, .int .u8 83, .int .u8 1] 5 (3, 4)) = W0 at *
 generalize hT : bodyB cs ((V : Int), (S : Int), li) = T at *
 have HT := Lib.hid hT
 clear hT
 with_reducible refine (yall_any Hy.out (some ⟨w.heap.size + 1, 0, none⟩) 3 3 [77, 83, 1] pre _ HJ0.out HK0.out).mono ?_
 rintro e w1 ⟨⟨rfl, hJ1⟩ | ⟨rfl, q, hq, hx⟩, hm1⟩
 case inr =>
  have HY := Lib.hid (show Emit J Jx base B pre T w (.returned (.bool false)) w1 from Emit.halt (done := []) (bs := [77, 83, 1]) (((List.prefix_append _ _)).trans Hp0.out) hq (by rw [List.append_nil]; exact hx) (HM0.out.trans hm1))
  clear hq hx hm1
  go_wp2
  go_ret
  exact HY.out
 have HJ1 := Lib.hid hJ1
 have HM1 := Lib.hid (HM0.out.trans hm1)
 have HP1 := Lib.hid (HP0.out.mid hm1 hBw)
 have p0 := HP1.out.cell 0
 clear hJ1 hm1 HJ0 HM0 HP0 HK0
 go_wp2_with fail
 with_reducible refine (ynumber_any Hy.out V _ _ HJ1.out (by omega)).mono ?_
 rintro e w2 ⟨⟨rfl, hJ2⟩ | ⟨rfl, q, hq, hx⟩, hm2⟩
 case inr =>
  have HY := Lib.hid (show Emit J Jx base B pre T w (.returned (.bool false)) w2 from Emit.halt (bs := leb V) (((prefix_app (List.prefix_append _ _))).trans Hp0.out) hq hx (HM1.out.trans hm2))
  clear hq hx hm2 p0
  go_wp2
  go_ret
  exact HY.out
 have HJ2 := Lib.hid hJ2
 have HM2 := Lib.hid (HM1.out.trans hm2)
 have HP2 := Lib.hid (HP1.out.mid hm2 hBw)
 clear p0
 have p1 := HP2.out.cell 1
 clear hJ2 hm2 HJ1 HM1 HP1
 go_wp2_with fail
 with_reducible refine (ynumber_any Hy.out S _ _ HJ2.out (by omega)).mono ?_
 rintro e w3 ⟨⟨rfl, hJ3⟩ | ⟨rfl, q, hq, hx⟩, hm3⟩
 case inr =>
  have HY := Lib.hid (show Emit J Jx base B pre T w (.returned (.bool false)) w3 from Emit.halt (done := [77, 83, 1] ++ leb V) (bs := leb S) (by rw [List.append_assoc]; exact (prefix_app (prefix_app (List.prefix_append _ _))).trans Hp0.out) hq (by rw [← List.append_assoc]; exact hx) (HM2.out.trans hm3))
  clear hq hx hm3 p1
  go_wp2
  go_ret
  exact HY.out
 have HJ3 := Lib.hid hJ3
 have HM3 := Lib.hid (HM2.out.trans hm3)
 have HP3 := Lib.hid (HP2.out.mid hm3 hBw)
 clear p1
 have p2 := HP3.out.cell 2
 clear hJ3 hm3 HJ2 HM2 HP2
 go_wp2_with fail
 with_reducible refine (ynumber_any Hy.out m _ _ HJ3.out (by omega)).mono ?_
 rintro e w4 ⟨⟨rfl, hJ4⟩ | ⟨rfl, q, hq, hx⟩, hm4⟩
 case inr =>
  have HY := Lib.hid (show Emit J Jx base B pre T w (.returned (.bool false)) w4 from Emit.halt (done := [77, 83, 1] ++ leb V ++ leb S) (bs := leb m) (by rw [List.append_assoc, List.append_assoc]; exact Hp0.out) hq (by simp only [← List.append_assoc] at hx ⊢; exact hx) (HM3.out.trans hm4))
  clear hq hx hm4 p2
  go_wp2
  go_ret
  exact HY.out
 have HJ4 := Lib.hid (show J (pre ++ preB cs ((V : Int), (S : Int), li) 0) w4 by
  rw [Hhead.out]
  simp only [← List.append_assoc] at hJ4 ⊢
  exact hJ4)
 have HM4 := Lib.hid (HM3.out.trans hm4)
 have HP4 := Lib.hid (HP3.out.mid hm4 hBw)
 clear hJ4 hm4 p2 HJ3 HM3 HP3
 go_wp2
 obtain ⟨b, hb⟩ : ∃ b : Ba, ((V : Int), (S : Int), li) = b := ⟨_, rfl⟩
 have hb2 : b.2.2 = li := by rw [← hb]
 rw [hb] at HJ4 Hf HT
 have Hb2 := Lib.hid hb2
 clear hb2 Hhead Hp0 hb
 go_loopw [46] (fun ix wr => ∃ j : Nat, j ≤ n ∧ ix = .int .i64 (j : Int) ∧ Hid (J (pre ++ preB cs b j) wr) ∧ Hid (Mid base B w wr) ∧ Hid (Blk wr w.heap.size 30 #[.int .i64 (V : Int), .int .i64 (S : Int), .slice I m d])) (fun ix _ => n - (intOf ix).toNat)
 case atStart => exact ⟨0, Nat.zero_le _, rfl, HJ4, HM4, HP4⟩
 case round =>
  clear HJ4 HM4 HP4
  obtain ⟨j, hj, rfl, HJ, HM, HP⟩ := hrel
  by_cases hlt : j < n
  ·have d1 : decide ((j : Int) < (n : Int)) = true := by simp; omega
   have hjj : (j : Int) < (n : Int) := by omega
   have hj1 : j + 1 ≤ n := hlt
   obtain ⟨ad, co, rfl, hbk, hco, hat⟩ := cos_at (HC.out _ HM.out) hlt
   obtain ⟨i0, nm, kk, nl, u0, x0, s0⟩ := co
   have q0 := hat.c0
   have q1 := hat.c1
   have q2 := hat.c2
   have q3 := hat.c3
   have q4 := hat.c4
   have q5 := hat.c5
   have q6 := hat.c6
   simp only at q0 q1 q2 q3 q4 q5 q6
   have hnx := preB_succ cs b j _ hco
   simp only at hnx
   have happ : preB cs b (j + 1) = preB cs b j ++ putB kk nl (colC li j) [] := by rw [hnx, Hb2.out]; simp [putB]
   have Happ := Lib.hid happ
   have HJa := Lib.hid (Hy.out.alJ HJ.out (.cells #[.int .i64 i0, .string nm, .int .i64 kk, .bool nl, .bool u0, .int .i64 x0, .string s0] 45))
   have HMa := Lib.hid (HM.out.alloc (.cells #[.int .i64 i0, .string nm, .int .i64 kk, .bool nl, .bool u0, .int .i64 x0, .string s0] 45))
   have HPa := HP.out.alloc (.cells #[.int .i64 i0, .string nm, .int .i64 kk, .bool nl, .bool u0, .int .i64 x0, .string s0] 45)
   have HQa := Lib.hid (Blk.new wr 45 #[.int .i64 i0, .string nm, .int .i64 kk, .bool nl, .bool u0, .int .i64 x0, .string s0])
   have p2 := HPa.cell 2
   have HPa := Lib.hid HPa
   obtain ⟨gq, hgq⟩ : ∃ gq, gq = wr.heap.size := ⟨_, rfl⟩
   rw [← hgq] at HQa
   clear hat hbk hnx happ hco
   go_wp2
   rw [← hgq]
   clear q0 q1 q2 q3 q4 q5 q6 p2 hgq
   generalize wr.alloc (.cells #[.int .i64 i0, .string nm, .int .i64 kk, .bool nl, .bool u0, .int .i64 x0, .string s0] 45) = Wl at *
   go_loopw [9, 54] (fun u ix wr2 => ∃ (i : Nat) (A9 : Option Addr) (c9 : Nat), i ≤ m ∧ u = .slice A9 i c9 ∧ ix = .int .i64 (i : Int) ∧ Hid (wr2.ownsRow Wl.heap.size 23 3 (.slice A9 i c9) i (cls (colC (li.take i) j))) ∧ Hid (Below Wl.heap.size Wl wr2)) (fun _ ix _ => m - (intOf ix).toNat)
   case atStart => exact ⟨0, none, 0, Nat.zero_le _, rfl, rfl, Lib.hid (by simpa [colC, cls] using World.ownsRow_nil _ _ _ _), Lib.hid (Below.refl _ _)⟩
   case round =>
    obtain ⟨i, A9, c9, hi, rfl, rfl, HU, HB⟩ := hrel
    by_cases hlm : i < m
    ·have d2 : decide ((i : Int) < (m : Int)) = true := by simp; omega
     have hii : (i : Int) < (m : Int) := by omega
     have hi1 : i + 1 ≤ m := hlm
     have hM2 := HMa.out.trans (Mid.of_below (base := base) (B := B) HB.out)
     obtain ⟨ad2, A', c', it, rfl, hbk2, hit, h0, h1, hrow, hc1, hc2⟩ := (HI.out _ hM2).at_ hlm
     have hrl : it.1.length = n := by
      have := Hf.out.row (it := it) (by rw [Hb2.out]; exact List.mem_of_getElem? hit)
      rw [this, Hnl.out]
     have hst := colC_succ li j i it hit
     have hsz2 : base ≤ wr.heap.size := by have := hM2.size; omega
     rw [hrl] at h0 hrow hc1
     obtain ⟨r, wt⟩ := it
     simp only at h0 h1 hrow hst hrl
     have hrow2 := (hrow.more hsz2).al (.cells #[.slice A' n c', .int .i64 wt] 26)
     obtain ⟨ad3, u, x, sx, rfl, hbk3, hx, g0, g1, g2⟩ := cls_at hrow2 hlt
     rw [hx, Option.getD_some] at hst
     have Hst := Lib.hid hst
     have hs1 : i + 1 ≤ maxLen := by simp only [maxLen]; omega
     have hs2 : (i + 1) * 32 ≤ 70368744177664 := by omega
     have hjr : (j : Int) < (n : Int) := by omega
     clear hst hx hrow hrow2 hbk3 hbk2 hit hM2 hc1 hc2 hrl
     go_wp2_with (at_builtin
                  refine wpList_append_any _ rfl (.tmp 58) (.tmp 64) 24 rfl Wl.heap.size 23 j0 (.agg #[.bool false, .int .i64 0, .string ⟨#[]⟩]) 3 32 Tryz.underlying24 ti0 ti1 ti2 ti3 rfl (by decide) A9 i c9 _ rfl ((HU.out.alloc _).alloc _) (some ⟨_, 0, none⟩) 1 1 (cls [(u, x, sx)]) rfl (by exact reads_cellb _ _ (by simp) _ _ _) (cls_one _) hs1 hs2 (by have := HB.out.size; simp; omega) ?_
                  intro A8 c8 w8 r1 r2 r3 r4 r5
                  rw [← cls_append, ← Hst.out] at r1
                  have R1 := Lib.hid r1
                  have R2 := Lib.hid ((bal (bal HB.out _) _).trans r2)
                  clear r1 r2 r3 r4 r5)
     go_roundw
     case rel => exact ⟨i + 1, A8, c8, hi1, rfl, by go_num, R1, R2⟩
     case measure => simp [intOf]; omega
    ·obtain rfl : i = m := by omega
     have d2 : decide ((i : Int) < (i : Int)) = false := by simp
     have HU2 := HU.out
     rw [List.take_of_length_le (by rw [Hml.out]; exact Nat.le_refl _)] at HU2
     have hBWl : B ≤ Wl.heap.size := by have := HMa.out.size; omega
     have HUB := Lib.hid (own_mono HU2 hBWl)
     have HJr := Lib.hid (Hy.out.onJ HJa.out HB.out)
     have HMr := Lib.hid (HMa.out.trans (Mid.of_below (base := base) (B := B) HB.out))
     have HPr := Lib.hid (HPa.out.on HB.out)
     have hq := HQa.out.on HB.out
     have q2 := hq.cell 2
     have q3 := hq.cell 3
     clear HU HU2 hq
     go_wp2_with fail
     with_reducible refine (ycolumn_any Hy.out kk nl A9 i c9 (colC li j) (pre ++ preB cs b j) _ HJr.out HUB.out (by omega) (colC_ok Hok.out j)).mono ?_
     rintro e w5 ⟨⟨rfl, hJ5⟩ | ⟨rfl, q, hq, hx⟩, hm5⟩
     ·have HJ5 := Lib.hid (show J (pre ++ preB cs b (j + 1)) w5 by rw [Happ.out, ← List.append_assoc]; exact hJ5)
      have HM5 := Lib.hid (HMr.out.trans hm5)
      have HP5 := Lib.hid (HPr.out.mid hm5 hBw)
      clear hJ5 hm5 q2 q3
      go_wp2
      go_roundw
      case rel => exact ⟨j + 1, hj1, by go_num, HJ5, HM5, HP5⟩
      case measure => simp [intOf]; omega
     ·have HY := Lib.hid (show Emit J Jx base B pre T w (.returned (.bool false)) w5 by
       refine Emit.halt (done := preB cs b j) (bs := putB kk nl (colC li j) []) ?_ hq hx (HMr.out.trans hm5)
       rw [← Happ.out, ← HT.out]
       exact preB_prefix _ _ (by rw [Hnl.out]; exact hj1))
      clear hq hx hm5 q2 q3
      go_wp2
      go_ret
      exact HY.out
  ·obtain rfl : j = n := by omega
   have d1 : decide ((j : Int) < (j : Int)) = false := by simp
   have HJ := Lib.hid (show J (pre ++ preW cs b 0) wr by rw [preW_zero, Hnl.out]; exact HJ.out)
   have p2 := HP.out.cell 2
   go_wp2
   clear p2
   go_loopw [77] (fun ix wr => ∃ i : Nat, i ≤ m ∧ ix = .int .i64 (i : Int) ∧ Hid (J (pre ++ preW cs b i) wr) ∧ Hid (Mid base B w wr)) (fun ix _ => m - (intOf ix).toNat)
   case atStart => exact ⟨0, Nat.zero_le _, rfl, HJ, HM⟩
   case round =>
    clear HJ HM HP
    obtain ⟨i, hi, rfl, HJ, HM⟩ := hrel
    by_cases hlm : i < m
    ·have d2 : decide ((i : Int) < (m : Int)) = true := by simp; omega
     have hii : (i : Int) < (m : Int) := by omega
     have hi1 : i + 1 ≤ m := hlm
     obtain ⟨ad2, A', c', it, rfl, hbk2, hit, h0, h1, hrow, hc1, hc2⟩ := (HI.out _ HM.out).at_ hlm
     have hw := preW_succ cs b i it (by rw [Hb2.out]; exact hit)
     have Hw := Lib.hid hw
     have Hwb := Lib.hid (Hok.out it (List.mem_of_getElem? hit)).2
     generalize it.1.length = rl at *
     obtain ⟨r, wt⟩ := it
     simp only at h1 Hw Hwb
     have HJa := Lib.hid (Hy.out.alJ HJ.out (.cells #[.slice A' rl c', .int .i64 wt] 26))
     have HMa := Lib.hid (HM.out.alloc (.cells #[.slice A' rl c', .int .i64 wt] 26))
     clear hw hit hbk2 hrow hc1 hc2
     go_wp2_with fail
     with_reducible refine (yzigzag_any Hy.out wt _ _ HJa.out Hwb.out.1 Hwb.out.2).mono ?_
     rintro e w5 ⟨⟨rfl, hJ5⟩ | ⟨rfl, q, hq, hx⟩, hm5⟩
     ·have HJ5 := Lib.hid (show J (pre ++ preW cs b (i + 1)) w5 by rw [Hw.out, ← List.append_assoc]; exact hJ5)
      have HM5 := Lib.hid (HMa.out.trans hm5)
      clear hJ5 hm5 h0 h1
      go_wp2
      go_roundw
      case rel => exact ⟨i + 1, hi1, by go_num, HJ5, HM5⟩
      case measure => simp [intOf]; omega
     ·have HY := Lib.hid (show Emit J Jx base B pre T w (.returned (.bool false)) w5 by
       refine Emit.halt (done := preW cs b i) (bs := leb (zig wt)) ?_ hq hx (HMa.out.trans hm5)
       rw [← Hw.out, ← HT.out]
       exact preW_prefix _ _ _)
      clear hq hx hm5 h0 h1
      go_wp2
      go_ret
      exact HY.out
    ·obtain rfl : i = m := by omega
     have d2 : decide ((i : Int) < (i : Int)) = false := by simp
     have HY := Lib.hid (show Emit J Jx base B pre T w (.returned (.bool true)) wr by
      refine Emit.yes ?_ HM.out
      have h5 : preW cs b i = T := by
       rw [← HT.out, ← preW_end, Hb2.out, Hml.out]
      rw [← h5]
      exact HJ.out)
     go_wp2
     go_ret
     exact HY.out
end
end Go.Proofs.YtnkgchmkmhdcaaaGreatDoor
namespace Go.Proofs.YtnkgchmkmhdcaaaGreatDoor
open Go.RowKit Go.Shelf
attribute [local go_sem] Oper.semAt_some
theorem wroom_ (k : Nat) : Fence.wide.room k := fun d h => by simp [Fence.wide] at h
theorem RoundIn.anyW {m m' : Nat} {P : Program} {l : Nat} {f : FuncId} {tmps : Array Value} {assign body : Code} {w : World} {R : Ending → World → Prop}
  (h : RoundIn Fence.wide m P l f tmps assign body w R) : RoundIn Fence.wide m' P l f tmps assign body w R := ⟨h.1, fun c cs _ => h.2 c cs (wroom_ _)⟩
theorem YieldAt.anyW {m : Nat} (m' : Nat) {P : Program} {l : Nat} {args : Array Value} {W : World} {R : Ending → World → Prop} (h : YieldAt Fence.wide m P l args W R) : YieldAt Fence.wide m' P l args W R := by
 obtain ⟨fn, tmps, assign, body, hy, hR⟩ := h
 exact ⟨fn, tmps, assign, body, hy, RoundIn.anyW hR⟩
structure CntJ (J : List UInt8 → World → Prop) (base Z l : Nat) (pre : List UInt8) (W : World) : Prop where
 user : J pre W
 sum : Blk W (Z + 1) 69 #[.int .u32 ((crcS pre : Nat) : Int)]
 yld : Blk W Z 225 #[.func (.yield l) #[] #[]]
 tab : Tab2 base W
set_option maxRecDepth 100000 in
set_option maxHeartbeats 2000000 in
theorem counted_any {J Jx : List UInt8 → World → Prop} {base Z l m : Nat} (hbz : base ≤ Z) (hJs : ∀ s A A', J s A → Below Z A A' → J s A')
  (hY : ∀ pre (c : UInt8) W1, J pre W1 → YieldAt Fence.wide m Tryz.prog l #[.int .u8 (c.toNat : Int)] W1 fun e W' =>
   (e = .returned (.bool true) ∧ J (pre ++ [c]) W' ∧ Mid base Z W1 W') ∨ (e = .returned (.bool false) ∧ Jx (pre ++ [c]) W' ∧ Mid base Z W1 W'))
  (pre : List UInt8) (c : UInt8) (W : World) (h : CntJ J base Z l pre W) :
  Calls Tryz.prog 190 (#[.int .u8 (c.toNat : Int)] ++ #[.pointer (some ⟨Z + 1, 0, none⟩), .pointer (some ⟨Z, 0, none⟩)]) W (Emit (CntJ J base Z l) Jx base (Z + 2) pre [c] W) := by
 rw [show (#[Value.int .u8 (c.toNat : Int)] ++ #[Value.pointer (some ⟨Z + 1, 0, none⟩), Value.pointer (some ⟨Z, 0, none⟩)]) = #[Value.int .u8 (c.toNat : Int), Value.pointer (some ⟨Z + 1, 0, none⟩), Value.pointer (some ⟨Z, 0, none⟩)] from rfl]
 obtain ⟨hu, hs, hyl, ht⟩ := h
 have hlt := crcU_lt 0 pre
 have HU := Lib.hid hu
 have HS0 := Lib.hid hs
 have HYl0 := Lib.hid hyl
 have HT0 := Lib.hid ht
 have HS := Lib.hid (hs.alloc (.cells #[.int .u8 (c.toNat : Int)] 5))
 have HYl := Lib.hid (hyl.alloc (.cells #[.int .u8 (c.toNat : Int)] 5))
 have HT := Lib.hid (ht.keep ((Below.refl _ W).alloc (show base ≤ W.heap.size by have := hs.lt; omega) (.cells #[.int .u8 (c.toNat : Int)] 5)))
 have hsz := hs.lt
 have s0 := hs.cell 0
 have s1 := HS.out.cell 0
 have f1 := HS.out.frozen 0
 have Hsn := Lib.hid (crcS_snoc pre c)
 have HYY := Lib.hid hY
 have HJs := Lib.hid hJs
 have hup := Lib.hid (update_any (crcS pre) hlt (some ⟨W.heap.size, 0, none⟩) 1 1 [c] _ (reads_lit W #[.int .u8 (c.toNat : Int)] 5 (u8s [c]) W.heap.size 1 rfl rfl rfl) (by decide) HT.out.ctab)
 clear hu hs hyl ht hY hJs hlt
 refine (callsIn_wide (n := 5)).1 ?_
 refine callsIn_of_wp Tryz.func190 rfl trivial ?_ rfl
 simp only [Tryz.ntmps190, List.size_toArray, List.length_cons, List.length_nil, Nat.reduceAdd, Nat.reduceSub, Array.replicate_succ, Array.replicate_zero, List.push_toArray, List.append_toArray, List.nil_append, List.cons_append]
 gi_wp2_with fail
 refine ⟨trivial, (callsIn_wide.2 hup.out).mono ?_⟩
 rintro e w1 ⟨rfl, rfl⟩
 rw [← Hsn.out]
 obtain ⟨W2, hW2⟩ : ∃ W2, (W.setCell ⟨Z + 1, 0, none⟩ (.int .u32 ((crcS (pre ++ [c]) : Nat) : Int))).alloc (.cells #[.int .u8 (c.toNat : Int)] 5) = W2 := ⟨_, rfl⟩
 have hS2 := (HS0.out.set_ 0 (.int .u32 ((crcS (pre ++ [c]) : Nat) : Int))).alloc (.cells #[.int .u8 (c.toNat : Int)] 5)
 simp only [List.setIfInBounds_toArray, List.set_cons_zero] at hS2
 have hY2 := (HYl0.out.far (p := ⟨Z + 1, 0, none⟩) (by show Z ≠ Z + 1; omega) (.int .u32 ((crcS (pre ++ [c]) : Nat) : Int))).alloc (.cells #[.int .u8 (c.toNat : Int)] 5)
 have hM2 : Mid base (Z + 2) W ((W.setCell ⟨Z + 1, 0, none⟩ (.int .u32 ((crcS (pre ++ [c]) : Nat) : Int))).alloc (.cells #[.int .u8 (c.toNat : Int)] 5)) :=
  ((Mid.refl base (Z + 2) W).setCell (p := ⟨Z + 1, 0, none⟩) (by show base ≤ Z + 1; omega) (.inl (by show Z + 1 < Z + 2; omega)) _).alloc _
 have hzz : Z ≤ (W.setCell ⟨Z + 1, 0, none⟩ (.int .u32 ((crcS (pre ++ [c]) : Nat) : Int))).heap.size := by simp [World.setCell]; omega
 have hJ2 : J pre ((W.setCell ⟨Z + 1, 0, none⟩ (.int .u32 ((crcS (pre ++ [c]) : Nat) : Int))).alloc (.cells #[.int .u8 (c.toNat : Int)] 5)) :=
  HJs.out _ _ _ HU.out (((Below.refl Z W).setCell (p := ⟨Z + 1, 0, none⟩) (by show Z ≤ Z + 1; omega) _).alloc hzz _)
 have hT2 : Tab2 base ((W.setCell ⟨Z + 1, 0, none⟩ (.int .u32 ((crcS (pre ++ [c]) : Nat) : Int))).alloc (.cells #[.int .u8 (c.toNat : Int)] 5)) :=
  HT0.out.keep (((Below.refl base W).setCell (p := ⟨Z + 1, 0, none⟩) (by show base ≤ Z + 1; omega) _).alloc (Nat.le_trans hbz hzz) _)
 rw [hW2] at hS2 hY2 hM2 hJ2 hT2
 clear hzz
 have HS2 := Lib.hid hS2
 have HM2 := Lib.hid hM2
 have HT2 := Lib.hid hT2
 have HY2 := Lib.hid hY2
 have y0 := hY2.cell 0
 rw [← hW2] at y0
 have HW2 := Lib.hid hW2
 obtain ⟨fn, tmps, assign, body, hy, hR⟩ := YieldAt.anyW 4 (HYY.out pre c W2 hJ2)
 rw [← hW2] at hy
 clear hS2 hY2 hM2 hJ2 hT2 hup hW2 s0
 gi_wp2_with fail
 rw [HW2.out]
 refine hR.mono ?_
 have hsz2 := HS2.out.lt
 rintro e W3 (⟨rfl, hJ3, hm3⟩ | ⟨rfl, hx3, hm3⟩)
 ·have HE := Lib.hid (show Emit (CntJ J base Z l) Jx base (Z + 2) pre [c] W (.returned (.bool true)) W3 from
   Emit.yes ⟨hJ3, HS2.out.mid hm3 (by omega), HY2.out.mid hm3 (Nat.le_refl _), HT2.out.keep (hm3.below (by omega))⟩ (HM2.out.trans (hm3.mono (Nat.le_refl _) (by omega))))
  clear hJ3 hm3 hy y0 hR
  gi_wp2
  go_ret
  exact HE.out
 ·have HE := Lib.hid (show Emit (CntJ J base Z l) Jx base (Z + 2) pre [c] W (.returned (.bool false)) W3 from
   Emit.no (List.prefix_refl _) hx3 (HM2.out.trans (hm3.mono (Nat.le_refl _) (by omega))))
  clear hx3 hm3 hy y0 hR
  gi_wp2
  go_ret
  exact HE.out
theorem Blk.belowL {w w' : World} {B g : Nat} {t : TypeId} {cs : Array Value} (h : Blk w g t cs) (hb : Below B w w') (hg : g < B) : Blk w' g t cs := (hb.block g hg).trans h
theorem wrap8_nat (x : Nat) : IntKind.u8.wrap (x : Int) = ((UInt8.ofNat x).toNat : Int) := by
 rw [UInt8.toNat_ofNat']
 simp [IntKind.wrap, IntKind.signed, IntKind.bits]
theorem bool_of {e : Ending} {P Q : Prop} (h : (e = .returned (.bool true) ∧ P) ∨ (e = .returned (.bool false) ∧ Q)) : ∃ q : Bool, e = .returned (.bool q) ∧ ((q = true ∧ P) ∨ (q = false ∧ Q)) := by
 rcases h with ⟨h, p⟩ | ⟨h, p⟩
 ·exact ⟨true, h, .inl ⟨rfl, p⟩⟩
 ·exact ⟨false, h, .inr ⟨rfl, p⟩⟩
set_option maxRecDepth 100000 in
set_option maxHeartbeats 4000000 in
theorem bytes1_seq (N base gc gb : Nat) (A : Option Addr) (n c : Nat) (cs : List Co) (v s : Int) (I : Option Addr) (m d : Nat) (li : List It) (w : World) (hbw : base ≤ w.heap.size) (hgc : Blk w gc 32 #[.slice A n c]) (hgb : Blk w gb 30 #[.int .i64 v, .int .i64 s, .slice I m d])
  (hcols : Reads w base 7 A n (cos cs)) (hitems : ItemsAt w base I m li) (hf : Fits cs (v, s, li)) (hok : ItOk li) (hs : s ≤ 9223372036854775807) (hT : Tab2 base w) :
  SeqB N Tryz.prog 189 #[.pointer (some ⟨gc, 0, none⟩), .pointer (some ⟨gb, 0, none⟩)] (fun x : UInt8 => #[.int .u8 (x.toNat : Int)]) base (fun xs => xs = encA cs (v, s, li)) (fun pre => pre <+: encA cs (v, s, li)) w := by
 intro l J Jx W hW hJs hXs hY h0
 have hent : ∀ args w', (callFunc 190 args).run Tryz.prog w' = .ok (.enter 190 args) w' := fun args w' => callFunc_in Tryz.func190 (by kernel_rfl) (by kernel_rfl) args w'
 obtain ⟨Z, hZ⟩ : ∃ Z, Z = W.heap.size := ⟨_, rfl⟩
 rw [← hZ] at hJs hXs hY
 have hbz : base ≤ Z := by have := hW.size; omega
 have HYok := Lib.hid (show YOk 190 #[.pointer (some ⟨Z + 1, 0, none⟩), .pointer (some ⟨Z, 0, none⟩)] (CntJ J base Z l) Jx base (Z + 2) from
  ⟨by omega, fun s A A' h hb => ⟨hJs s A A' h.user (hb.mono (by omega)), h.sum.belowL hb (by omega), h.yld.belowL hb (by omega), h.tab.keep (hb.mono (by omega))⟩, fun s A A' h hb => hXs s A A' h (hb.mono (by omega)), fun s A h => h.sum.lt,
   fun pre c W1 h => counted_any hbz hJs hY pre c W1 h, hent⟩)
 have HYY := Lib.hid hY
 have HJs := Lib.hid hJs
 have hW0 : W.heap.size = Z := hZ.symm
 have HJ0 := Lib.hid (show CntJ J base Z l [] ((W.alloc (.cells #[.func (.yield l) #[] #[]] 225)).alloc (.cells #[.int .u32 0] 69)) from
  ⟨hJs _ _ _ h0 (((Below.refl Z W).alloc (by omega) _).alloc (by simp; omega) _),
   by have := Blk.new (W.alloc (.cells #[.func (.yield l) #[] #[]] 225)) 69 #[.int .u32 0]; rw [show (W.alloc (.cells #[.func (.yield l) #[] #[]] 225)).heap.size = Z + 1 by simp [hW0]] at this; exact this,
   by have := (Blk.new W 225 #[.func (.yield l) #[] #[]]).alloc (.cells #[.int .u32 0] 69); rw [hW0] at this; exact this,
   (hT.keep (hW.mono hbw)).keep (((Below.refl base W).alloc (by omega) _).alloc (by simp; omega) _)⟩)
 have HBW := Lib.hid (bal (bal hW (.cells #[.func (.yield l) #[] #[]] 225)) (.cells #[.int .u32 0] 69))
 have HMW := Lib.hid (((Mid.refl base (Z + 2) W).alloc (.cells #[.func (.yield l) #[] #[]] 225)).alloc (.cells #[.int .u32 0] 69))
 have hc0 := (hgc.on HBW.out).cell 0
 have hb0 := (hgb.on HBW.out).cell 0
 have hb1 := (hgb.on HBW.out).cell 1
 have hb2 := (hgb.on HBW.out).cell 2
 have HC := Lib.hid (hcols.below (HBW.out.mono hbw))
 have HI := Lib.hid (hitems.below (HBW.out.mono hbw))
 have Hf := Lib.hid hf
 have Hok := Lib.hid hok
 have Hs := Lib.hid hs
 clear hgc hgb hcols hitems hf hok hs hT hY hJs hXs hent h0 hZ
 rw [show (#[Value.func (.yield l) #[] #[]] ++ #[Value.pointer (some ⟨gc, 0, none⟩), Value.pointer (some ⟨gb, 0, none⟩)]) = #[Value.func (.yield l) #[] #[], Value.pointer (some ⟨gc, 0, none⟩), Value.pointer (some ⟨gb, 0, none⟩)] from rfl]
 refine callsIn_of_wp Tryz.func189 rfl trivial ?_ rfl
 simp only [Tryz.ntmps189, List.size_toArray, List.length_cons, List.length_nil, Nat.reduceAdd, Nat.reduceSub, Array.replicate_succ, Array.replicate_zero, List.push_toArray, List.append_toArray, List.nil_append, List.cons_append]
 gi_wp2_with fail
 refine ⟨trivial, fun h => by simp [Fence.wide] at h, (callsIn_wide.2 (yahead_any HYok.out A n c cs v s I m d li [] _ HJ0.out HC.out HI.out Hf.out Hok.out Hs.out)).mono ?_⟩
 obtain ⟨T, hT⟩ : ∃ T, bodyB cs (v, s, li) = T := ⟨_, rfl⟩
 have HT := Lib.hid (show encA cs (v, s, li) = T ++ sumB (crcS T) by rw [← hT]; rfl)
 rw [hT]
 clear hT hc0 hb0 hb1 hb2
 rintro e w1 ⟨⟨rfl, hJ1⟩ | ⟨rfl, q, hq, hx⟩, hm1⟩
 case inr =>
  have HX := Lib.hid (show q <+: encA cs (v, s, li) ∧ Jx q w1 by
   refine ⟨by rw [HT.out]; exact hq.trans (List.prefix_append _ _), ?_⟩
   rw [List.nil_append] at hx
   exact hx)
  clear hq hx hm1
  gi_wp2
  refine bodyPost_ret (results_none rfl _ _ _) rfl ?_
  exact ⟨⟨_, rfl⟩, .inr ⟨q, HX.out.1, HX.out.2⟩⟩
 rw [List.nil_append] at hJ1
 have hcl := crcU_lt 0 T
 obtain ⟨sm, hsm⟩ : ∃ sm, crcS T = sm := ⟨_, rfl⟩
 have HU1 := Lib.hid hJ1.user
 have HS1 := Lib.hid hJ1.sum
 have HY1 := Lib.hid hJ1.yld
 rw [hsm] at HS1 HT
 have hcl2 : sm < 4294967296 := by rw [← hsm]; exact hcl
 clear hJ1 hm1 hcl hsm HJ0
 have hmx : Tryz.prog.follows .mixedOrders = true := by kernel_rfl
 gi_wp2
 gi_loopw [13] (fun ix wr => ∃ i : Nat, i ≤ 4 ∧ ix = .int .i64 (i : Int) ∧ Hid (J (T ++ (sumB sm).take i) wr) ∧ Hid (Blk wr (Z + 1) 69 #[.int .u32 (sm : Int)]) ∧ Hid (Blk wr Z 225 #[.func (.yield l) #[] #[]])) (fun ix _ => 4 - (intOf ix).toNat)
 case atStart => exact ⟨0, by decide, rfl, Lib.hid (by simpa using HU1.out), HS1, HY1⟩
 case round =>
  clear HU1 HS1 HY1
  obtain ⟨i, hi, rfl, HU1, HS1, HY1⟩ := hrel
  by_cases hlt : i < 4
  ·have y0 := HY1.out.cell 0
   have s0 := HS1.out.cell 0
   have hw0 : IntKind.i64.wrap 0 = 0 := by kernel_rfl
   have hw1 : IntKind.i64.wrap 8 = 8 := by kernel_rfl
   have hw2 : IntKind.i64.wrap 16 = 16 := by kernel_rfl
   have hw3 : IntKind.i64.wrap 24 = 24 := by kernel_rfl
   rcases (show i = 0 ∨ i = 1 ∨ i = 2 ∨ i = 3 by omega) with rfl | rfl | rfl | rfl
   ·obtain ⟨fn, tmps, assign, body, hy, hR⟩ := HYY.out (T ++ (sumB sm).take 0) (UInt8.ofNat sm) wr.drew (HJs.out _ _ _ HU1.out ((Below.refl Z wr).drew))
    rw [← wrap8_nat] at hy
    gi_wp2
    gi_region_with_o (refine ⟨fun h => (by simp [Fence.wide] at h), (RoundIn.anyW hR).mono ?_⟩; clear hR; intro e W3 h3; obtain ⟨q, rfl, hq3⟩ := bool_of h3; clear h3)
    all_goals
     rcases hq3 with ⟨rfl, hJ3, hm3⟩ | ⟨rfl, hx3, hm3⟩
     ·have HU3 := Lib.hid (show J (T ++ (sumB sm).take 1) W3 from by have := hJ3; rw [List.append_assoc] at this; exact this)
      have HS3 := Lib.hid (HS1.out.drew.mid hm3 (by omega))
      have HY3 := Lib.hid (HY1.out.drew.mid hm3 (Nat.le_refl _))
      clear hJ3 hm3 hy y0 s0
      gi_wp2
      go_roundw
      case rel => exact ⟨1, by decide, rfl, HU3, HS3, HY3⟩
      case measure => simp [intOf]
     ·have HX := Lib.hid (show (T ++ (sumB sm).take 1) <+: encA cs (v, s, li) ∧ Jx (T ++ (sumB sm).take 1) W3 from ⟨by rw [HT.out]; exact prefix_app (List.take_prefix _ _), by have := hx3; rw [List.append_assoc] at this; exact this⟩)
      clear hx3 hm3 hy y0 s0
      gi_wp2
      refine bodyPost_ret (results_none rfl _ _ _) rfl ?_
      exact ⟨⟨_, rfl⟩, .inr ⟨_, HX.out.1, HX.out.2⟩⟩
   ·obtain ⟨fn, tmps, assign, body, hy, hR⟩ := HYY.out (T ++ (sumB sm).take 1) (UInt8.ofNat (sm / 256)) wr.drew (HJs.out _ _ _ HU1.out ((Below.refl Z wr).drew))
    rw [← wrap8_nat] at hy
    rw [show (((sm / 256 : Nat) : Int)) = ((sm : Int) / 256) from by omega] at hy
    gi_wp2
    gi_region_with_o (refine ⟨fun h => (by simp [Fence.wide] at h), (RoundIn.anyW hR).mono ?_⟩; clear hR; intro e W3 h3; obtain ⟨q, rfl, hq3⟩ := bool_of h3; clear h3)
    all_goals
     rcases hq3 with ⟨rfl, hJ3, hm3⟩ | ⟨rfl, hx3, hm3⟩
     ·have HU3 := Lib.hid (show J (T ++ (sumB sm).take 2) W3 from by have := hJ3; rw [List.append_assoc] at this; exact this)
      have HS3 := Lib.hid (HS1.out.drew.mid hm3 (by omega))
      have HY3 := Lib.hid (HY1.out.drew.mid hm3 (Nat.le_refl _))
      clear hJ3 hm3 hy y0 s0
      gi_wp2
      go_roundw
      case rel => exact ⟨2, by decide, rfl, HU3, HS3, HY3⟩
      case measure => simp [intOf]
     ·have HX := Lib.hid (show (T ++ (sumB sm).take 2) <+: encA cs (v, s, li) ∧ Jx (T ++ (sumB sm).take 2) W3 from ⟨by rw [HT.out]; exact prefix_app (List.take_prefix _ _), by have := hx3; rw [List.append_assoc] at this; exact this⟩)
      clear hx3 hm3 hy y0 s0
      gi_wp2
      refine bodyPost_ret (results_none rfl _ _ _) rfl ?_
      exact ⟨⟨_, rfl⟩, .inr ⟨_, HX.out.1, HX.out.2⟩⟩
   ·obtain ⟨fn, tmps, assign, body, hy, hR⟩ := HYY.out (T ++ (sumB sm).take 2) (UInt8.ofNat (sm / 65536)) wr.drew (HJs.out _ _ _ HU1.out ((Below.refl Z wr).drew))
    rw [← wrap8_nat] at hy
    rw [show (((sm / 65536 : Nat) : Int)) = ((sm : Int) / 65536) from by omega] at hy
    gi_wp2
    gi_region_with_o (refine ⟨fun h => (by simp [Fence.wide] at h), (RoundIn.anyW hR).mono ?_⟩; clear hR; intro e W3 h3; obtain ⟨q, rfl, hq3⟩ := bool_of h3; clear h3)
    all_goals
     rcases hq3 with ⟨rfl, hJ3, hm3⟩ | ⟨rfl, hx3, hm3⟩
     ·have HU3 := Lib.hid (show J (T ++ (sumB sm).take 3) W3 from by have := hJ3; rw [List.append_assoc] at this; exact this)
      have HS3 := Lib.hid (HS1.out.drew.mid hm3 (by omega))
      have HY3 := Lib.hid (HY1.out.drew.mid hm3 (Nat.le_refl _))
      clear hJ3 hm3 hy y0 s0
      gi_wp2
      go_roundw
      case rel => exact ⟨3, by decide, rfl, HU3, HS3, HY3⟩
      case measure => simp [intOf]
     ·have HX := Lib.hid (show (T ++ (sumB sm).take 3) <+: encA cs (v, s, li) ∧ Jx (T ++ (sumB sm).take 3) W3 from ⟨by rw [HT.out]; exact prefix_app (List.take_prefix _ _), by have := hx3; rw [List.append_assoc] at this; exact this⟩)
      clear hx3 hm3 hy y0 s0
      gi_wp2
      refine bodyPost_ret (results_none rfl _ _ _) rfl ?_
      exact ⟨⟨_, rfl⟩, .inr ⟨_, HX.out.1, HX.out.2⟩⟩
   ·obtain ⟨fn, tmps, assign, body, hy, hR⟩ := HYY.out (T ++ (sumB sm).take 3) (UInt8.ofNat (sm / 16777216)) wr.drew (HJs.out _ _ _ HU1.out ((Below.refl Z wr).drew))
    rw [← wrap8_nat] at hy
    rw [show (((sm / 16777216 : Nat) : Int)) = ((sm : Int) / 16777216) from by omega] at hy
    gi_wp2
    gi_region_with_o (refine ⟨fun h => (by simp [Fence.wide] at h), (RoundIn.anyW hR).mono ?_⟩; clear hR; intro e W3 h3; obtain ⟨q, rfl, hq3⟩ := bool_of h3; clear h3)
    all_goals
     rcases hq3 with ⟨rfl, hJ3, hm3⟩ | ⟨rfl, hx3, hm3⟩
     ·have HU3 := Lib.hid (show J (T ++ (sumB sm).take 4) W3 from by have := hJ3; rw [List.append_assoc] at this; exact this)
      have HS3 := Lib.hid (HS1.out.drew.mid hm3 (by omega))
      have HY3 := Lib.hid (HY1.out.drew.mid hm3 (Nat.le_refl _))
      clear hJ3 hm3 hy y0 s0
      gi_wp2
      go_roundw
      case rel => exact ⟨4, by decide, rfl, HU3, HS3, HY3⟩
      case measure => simp [intOf]
     ·have HX := Lib.hid (show (T ++ (sumB sm).take 4) <+: encA cs (v, s, li) ∧ Jx (T ++ (sumB sm).take 4) W3 from ⟨by rw [HT.out]; exact prefix_app (List.take_prefix _ _), by have := hx3; rw [List.append_assoc] at this; exact this⟩)
      clear hx3 hm3 hy y0 s0
      gi_wp2
      refine bodyPost_ret (results_none rfl _ _ _) rfl ?_
      exact ⟨⟨_, rfl⟩, .inr ⟨_, HX.out.1, HX.out.2⟩⟩
  ·obtain rfl : i = 4 := by omega
   have HX := Lib.hid (show J (encA cs (v, s, li)) wr by rw [HT.out]; exact HU1.out)
   gi_wp2
   go_end0
   exact ⟨⟨_, rfl⟩, .inl ⟨_, rfl, HX.out⟩⟩
end Go.Proofs.YtnkgchmkmhdcaaaGreatDoor
namespace Go.Proofs.YtnkgchmkmhdcaaaGreatDoor
open Go.RowKit Go.Shelf
attribute [local go_sem] Oper.semAt_some
set_option maxRecDepth 100000 in
theorem gbytes_any (A : Option Addr) (n c : Nat) (v s : Int) (I : Option Addr) (m d : Nat) (w : World) :
  Calls Tryz.prog 131 #[.slice A n c, .agg #[.int .i64 v, .int .i64 s, .slice I m d]] w fun e w' => e = .returned (.func (.func 189) #[] #[.pointer (some ⟨w.heap.size, 0, none⟩), .pointer (some ⟨w.heap.size + 1, 0, none⟩)]) ∧
   w' = (w.alloc (.cells #[.slice A n c] 32)).alloc (.cells #[.int .i64 v, .int .i64 s, .slice I m d] 30) := by
 go_enter Tryz.func131, Tryz.ntmps131
 go_wp2
 go_ret
 exact ⟨rfl, rfl⟩
theorem wrap64_step (k : Nat) : wrap64 (wrap64 (k : Int) + 1) = wrap64 (((k + 1 : Nat)) : Int) := by
 unfold wrap64
 rw [show ((k : Int) + 9223372036854775808) % 18446744073709551616 - 9223372036854775808 + 1 + 9223372036854775808 = ((k : Int) + 9223372036854775808) % 18446744073709551616 + 1 from by
  generalize ((k : Int) + 9223372036854775808) % 18446744073709551616 = q
  omega, Int.emod_add_emod, show (k : Int) + 9223372036854775808 + 1 = ((k + 1 : Nat) : Int) + 9223372036854775808 from by omega]
theorem wrap64_zero : wrap64 ((([] : List UInt8).length : Nat) : Int) = 0 := by
 simp [wrap64]
def sizeV (cs : List Co) (b : Ba) : Int := if batE cs b = 0 then ((encA cs b).length : Int) else 0
set_option maxRecDepth 100000 in
set_option maxHeartbeats 4000000 in
theorem gsize_any (A : Option Addr) (n c : Nat) (cs : List Co) (v s : Int) (I : Option Addr) (m d : Nat) (li : List It) (w : World) (hr : Reads w w.heap.size 7 A n (cos cs)) (hn : n ≤ maxLen) (hi : ItemsAt w w.heap.size I m li) (hm : m ≤ maxLen) (hs : s ≤ 9223372036854775807) (hok : ItOk li) (hT : Tab2 w.heap.size w) :
  Calls Tryz.prog 61 #[.slice A n c, .agg #[.int .i64 v, .int .i64 s, .slice I m d]] w fun e w' => e = .returned (.tuple #[.int .i64 (sizeV cs (v, s, li)), .int .i64 (batE cs (v, s, li))]) ∧ Below w.heap.size w w' := by
 have Hr := Lib.hid hr
 have Hi := Lib.hid hi
 have HT := Lib.hid hT
 have Hok := Lib.hid hok
 have HP := Lib.hid ((Blk.new w 30 #[.int .i64 v, .int .i64 s, .slice I m d]).alloc (.cells #[.int .i64 0] 3))
 have HN := Lib.hid (Blk.new (w.alloc (.cells #[.int .i64 v, .int .i64 s, .slice I m d] 30)) 3 #[.int .i64 0])
 rw [show (w.alloc (.cells #[.int .i64 v, .int .i64 s, .slice I m d] 30)).heap.size = w.heap.size + 1 by simp] at HN
 have HB := Lib.hid (bal (bal (Below.refl w.heap.size w) (.cells #[.int .i64 v, .int .i64 s, .slice I m d] 30)) (.cells #[.int .i64 0] 3))
 clear hr hi hT hok
 refine (callsIn_wide (n := 10)).1 ?_
 refine callsIn_of_wp_marks Tryz.func61 rfl trivial ?_ rfl
 simp only [Tryz.ntmps61, List.size_toArray, List.length_cons, List.length_nil, Nat.reduceAdd, Nat.reduceSub, Array.replicate_succ, Array.replicate_zero, List.push_toArray, List.append_toArray, List.nil_append, List.cons_append]
 gi_wp2_with fail
 refine ⟨trivial, (callsIn_wide.2 (bCheck_any A n c cs v s I m d li _ (Hr.out.on HB.out) hn (Hi.out.on HB.out) hm (HT.out.on HB.out).tabs)).mono ?_⟩
 rintro e w1 ⟨rfl, hb1⟩
 have HP1 := Lib.hid (HP.out.on hb1)
 have HN1 := Lib.hid (HN.out.on hb1)
 have HB1 := Lib.hid (bon HB.out hb1)
 have n0 := HN1.out.cell 0
 have f0 := HN1.out.frozen 0
 have p0 := HP1.out.cell 0
 have p1 := HP1.out.cell 1
 have p2 := HP1.out.cell 2
 clear hb1 HP HN HB
 by_cases hE : batE cs (v, s, li) = 0
 ·have hf := (fits_iff _ _).1 hE
  have hsv : sizeV cs (v, s, li) = ((encA cs (v, s, li)).length : Int) := by unfold sizeV; rw [if_pos hE]
  have hle := hf.enc_le
  have Hf := Lib.hid hf
  have Hsv := Lib.hid hsv
  have HE0 := Lib.hid hE
  rw [hE]
  clear hE hf hsv
  gi_wp2_with fail
  refine ⟨trivial, (callsIn_wide.2 (gbytes_any A n c v s I m d _)).mono ?_⟩
  rintro e w2 ⟨rfl, hw2⟩
  have HC2 := Lib.hid (show Blk w2 w1.heap.size 32 #[.slice A n c] by rw [hw2]; exact (Blk.new _ _ _).alloc _)
  have HD2 := Lib.hid (show Blk w2 (w1.heap.size + 1) 30 #[.int .i64 v, .int .i64 s, .slice I m d] by
   rw [hw2]
   have := Blk.new (w1.alloc (.cells #[.slice A n c] 32)) 30 #[.int .i64 v, .int .i64 s, .slice I m d]
   rwa [show (w1.alloc (.cells #[.slice A n c] 32)).heap.size = w1.heap.size + 1 by simp] at this)
  have hb2 : Below w1.heap.size w1 w2 := by rw [hw2]; exact bal (bal (Below.refl _ _) _) _
  have HN2 := Lib.hid (HN1.out.on hb2)
  have HB2 := Lib.hid (bon HB1.out hb2)
  clear n0 f0 p0 p1 p2 hw2 hb2 HP1 HN1
  gi_wp2_with fail
  have hb02 := HB2.out.size
  have hz1 : w.heap.size + 1 < w2.heap.size := HN2.out.lt
  refine wpIn_rangeFunc_B (n := 10) (by decide) (gf := 189) (lb := #[.pointer (some ⟨w1.heap.size, 0, none⟩), .pointer (some ⟨w1.heap.size + 1, 0, none⟩)]) rfl (fun args w => callFunc_in Tryz.func189 (by kernel_rfl) (by kernel_rfl) args w)
   (bytes1_seq 9 w.heap.size w1.heap.size (w1.heap.size + 1) A n c cs v s I m d li w2 hb02 HC2.out HD2.out (Hr.out.below HB2.out) (Hi.out.below HB2.out) Hf.out Hok.out hs (HT.out.keep HB2.out)) (Below.refl _ _) (fun _ => rfl) hb02
   (fun pre W => Blk W (w.heap.size + 1) 3 #[.int .i64 (wrap64 ((pre.length : Nat) : Int))] ∧ Below w.heap.size w W) (fun _ _ _ => False)
   (fun s A A' h hb => ⟨h.1.belowL hb hz1, h.2.trans (hb.mono hb02)⟩) (fun _ _ _ _ h _ => h) ⟨by rw [wrap64_zero]; exact HN2.out, HB2.out⟩ ?a1 ?assign ?body ?done ?stop
  case assign =>
   intro l x W K hK
   gi_wp2
   exact hK
  case body =>
   rintro l pre x W ⟨hI, hIb⟩ hWs
   have c0 := hI.cell 0
   have f0 := hI.frozen 0
   have Hnx := Lib.hid (hI.set_ 0 (.int .i64 (wrap64 (((pre ++ [x]).length : Nat) : Int))))
   have hwr : wrap64 (wrap64 ((pre.length : Nat) : Int) + 1) = wrap64 (((pre ++ [x]).length : Nat) : Int) := by
    rw [List.length_append]
    exact wrap64_step pre.length
   have Hwr := Lib.hid hwr
   have HIb := Lib.hid hIb
   clear hI hIb hwr
   gi_wp2
   rw [Hwr.out]
   have hn2 := Hnx.out
   simp only [List.setIfInBounds_toArray, List.set_cons_zero] at hn2
   exact ⟨(Mid.refl _ _ _).setCell (p := ⟨w.heap.size + 1, 0, none⟩) (by show w.heap.size ≤ w.heap.size + 1; omega) (.inl hz1) _, hn2, HIb.out.setCell (p := ⟨w.heap.size + 1, 0, none⟩) (by show w.heap.size ≤ w.heap.size + 1; omega) _⟩
  case done =>
   rintro D xs W hD rfl ⟨hI, hIb⟩ hK
   rw [show wrap64 (((encA cs (v, s, li)).length : Nat) : Int) = (((encA cs (v, s, li)).length : Nat) : Int) by unfold wrap64; omega, ← Hsv.out] at hI
   obtain ⟨sv, hsz⟩ : ∃ sv, sizeV cs (v, s, li) = sv := ⟨_, rfl⟩
   have Hsz := Lib.hid hsz
   rw [hsz] at hI
   clear hsz
   have c0 := hI.cell 0
   have f0 := hI.frozen 0
   have HI2 := hI.set_ 0 (.int .i64 sv)
   simp only [List.setIfInBounds_toArray, List.set_cons_zero] at HI2
   have HI2 := Lib.hid HI2
   have HIb := Lib.hid (hIb.setCell (p := ⟨w.heap.size + 1, 0, none⟩) (by show w.heap.size ≤ w.heap.size + 1; omega) (.int .i64 sv))
   have HK := Lib.hid (show (W.setCell ⟨w.heap.size + 1, 0, none⟩ (.int .i64 sv)).heap[D]? = some (.deferred (some [])) from (Below.heap_setCell W ⟨w.heap.size + 1, 0, none⟩ _ D (by show D ≠ w.heap.size + 1; omega)).trans hK)
   clear hI hIb hK
   gi_wp2
   refine ⟨by simp, .inl ⟨_, _, rfl, run_takeDeferred HK.out, ?_⟩⟩
   have hDl : D < (W.setCell ⟨w.heap.size + 1, 0, none⟩ (.int .i64 sv)).heap.size := (Array.getElem?_eq_some_iff.1 HK.out).1
   have hpb := put_below (W.setCell ⟨w.heap.size + 1, 0, none⟩ (.int .i64 sv)) D (.deferred none) w2.heap.size (by omega) hD
   have k0 := (HI2.out.belowL hpb hz1).cell 0
   refine ⟨.tuple #[.int .i64 sv, .int .i64 0], by rw [results_cell_tmp rfl]; simp [go_sem, k0], by rw [Hsz.out, HE0.out], HIb.out.trans (hpb.mono hb02)⟩
  case stop =>
   rintro D c pre W _ _ h _
   exact h.elim
 ·have hE2 : (batE cs (v, s, li) != 0) = true := by simpa using hE
  have Hsv := Lib.hid (show sizeV cs (v, s, li) = 0 by unfold sizeV; rw [if_neg hE])
  obtain ⟨E, hEE⟩ : ∃ E, batE cs (v, s, li) = E := ⟨_, rfl⟩
  rw [hEE] at hE2 ⊢
  have HEE := Lib.hid hEE
  have hN2 := HN1.out.set_ 0 (.int .i64 0)
  simp only [List.setIfInBounds_toArray, List.set_cons_zero] at hN2
  have k0 := hN2.cell 0
  have HB2 := Lib.hid (HB1.out.setCell (p := ⟨w.heap.size + 1, 0, none⟩) (by show w.heap.size ≤ w.heap.size + 1; omega) (.int .i64 0))
  clear hE hEE hN2
  gi_wp2
  refine ⟨.tuple #[.int .i64 0, .int .i64 E], by rw [results_cell_tmp rfl]; simp [go_sem, k0], ?_⟩
  rw [Hsv.out, HEE.out]
  exact ⟨rfl, HB2.out⟩
end Go.Proofs.YtnkgchmkmhdcaaaGreatDoor
namespace Go.Proofs.YtnkgchmkmhdcaaaGreatDoor
open Go.RowKit Go.Shelf
attribute [local go_sem] Oper.semAt_some
def whereV (cs : List Co) (b : Ba) (xs : List UInt8) : Int := if batE cs b = 0 then ((lcp (encA cs b) xs : Nat) : Int) else 0
set_option maxRecDepth 100000 in
set_option maxHeartbeats 4000000 in
theorem gwhere_any (A : Option Addr) (n c : Nat) (cs : List Co) (v s : Int) (I : Option Addr) (m d : Nat) (li : List It) (X : Option Addr) (xn xc : Nat) (xs : List UInt8) (w : World) (hr : Reads w w.heap.size 7 A n (cos cs)) (hn : n ≤ maxLen) (hi : ItemsAt w w.heap.size I m li) (hm : m ≤ maxLen) (hs : s ≤ 9223372036854775807) (hok : ItOk li)
  (hx : Reads w w.heap.size 1 X xn (u8s xs)) (hxn : xn ≤ maxLen) (hT : Tab2 w.heap.size w) :
  Calls Tryz.prog 63 #[.slice A n c, .agg #[.int .i64 v, .int .i64 s, .slice I m d], .slice X xn xc] w fun e w' => e = .returned (.tuple #[.int .i64 (whereV cs (v, s, li) xs), .int .i64 (batE cs (v, s, li))]) ∧ Below w.heap.size w w' := by
 have Hr := Lib.hid hr
 have Hi := Lib.hid hi
 have HT := Lib.hid hT
 have Hok := Lib.hid hok
 have Hx := Lib.hid hx
 have HP := Lib.hid (((Blk.new w 30 #[.int .i64 v, .int .i64 s, .slice I m d]).alloc (.cells #[.slice X xn xc] 35)).alloc (.cells #[.int .i64 0] 3))
 have HX := Lib.hid ((Blk.new (w.alloc (.cells #[.int .i64 v, .int .i64 s, .slice I m d] 30)) 35 #[.slice X xn xc]).alloc (.cells #[.int .i64 0] 3))
 rw [show (w.alloc (.cells #[.int .i64 v, .int .i64 s, .slice I m d] 30)).heap.size = w.heap.size + 1 by simp] at HX
 have HN := Lib.hid (Blk.new ((w.alloc (.cells #[.int .i64 v, .int .i64 s, .slice I m d] 30)).alloc (.cells #[.slice X xn xc] 35)) 3 #[.int .i64 0])
 rw [show ((w.alloc (.cells #[.int .i64 v, .int .i64 s, .slice I m d] 30)).alloc (.cells #[.slice X xn xc] 35)).heap.size = w.heap.size + 2 by simp] at HN
 have HB := Lib.hid (bal (bal (bal (Below.refl w.heap.size w) (.cells #[.int .i64 v, .int .i64 s, .slice I m d] 30)) (.cells #[.slice X xn xc] 35)) (.cells #[.int .i64 0] 3))
 clear hr hi hT hok hx
 refine (callsIn_wide (n := 10)).1 ?_
 refine callsIn_of_wp_marks Tryz.func63 rfl trivial ?_ rfl
 simp only [Tryz.ntmps63, List.size_toArray, List.length_cons, List.length_nil, Nat.reduceAdd, Nat.reduceSub, Array.replicate_succ, Array.replicate_zero, List.push_toArray, List.append_toArray, List.nil_append, List.cons_append]
 gi_wp2_with fail
 refine ⟨trivial, (callsIn_wide.2 (bCheck_any A n c cs v s I m d li _ (Hr.out.on HB.out) hn (Hi.out.on HB.out) hm (HT.out.on HB.out).tabs)).mono ?_⟩
 rintro e w1 ⟨rfl, hb1⟩
 have HP1 := Lib.hid (HP.out.on hb1)
 have HX1 := Lib.hid (HX.out.on hb1)
 have HN1 := Lib.hid (HN.out.on hb1)
 have HB1 := Lib.hid (bon HB.out hb1)
 have n0 := HN1.out.cell 0
 have f0 := HN1.out.frozen 0
 have p0 := HP1.out.cell 0
 have p1 := HP1.out.cell 1
 have p2 := HP1.out.cell 2
 clear hb1 HP HN HX HB
 by_cases hE : batE cs (v, s, li) = 0
 ·have hf := (fits_iff _ _).1 hE
  have hsv : whereV cs (v, s, li) xs = ((lcp (encA cs (v, s, li)) xs : Nat) : Int) := by unfold whereV; rw [if_pos hE]
  have hle := hf.enc_le
  have Hf := Lib.hid hf
  have Hsv := Lib.hid hsv
  have HE0 := Lib.hid hE
  rw [hE]
  clear hE hf hsv
  gi_wp2_with fail
  refine ⟨trivial, (callsIn_wide.2 (gbytes_any A n c v s I m d _)).mono ?_⟩
  rintro e w2 ⟨rfl, hw2⟩
  have HC2 := Lib.hid (show Blk w2 w1.heap.size 32 #[.slice A n c] by rw [hw2]; exact (Blk.new _ _ _).alloc _)
  have HD2 := Lib.hid (show Blk w2 (w1.heap.size + 1) 30 #[.int .i64 v, .int .i64 s, .slice I m d] by
   rw [hw2]
   have := Blk.new (w1.alloc (.cells #[.slice A n c] 32)) 30 #[.int .i64 v, .int .i64 s, .slice I m d]
   rwa [show (w1.alloc (.cells #[.slice A n c] 32)).heap.size = w1.heap.size + 1 by simp] at this)
  have hb2 : Below w1.heap.size w1 w2 := by rw [hw2]; exact bal (bal (Below.refl _ _) _) _
  have HN2 := Lib.hid (HN1.out.on hb2)
  have HX2 := Lib.hid (HX1.out.on hb2)
  have HB2 := Lib.hid (bon HB1.out hb2)
  clear n0 f0 p0 p1 p2 hw2 hb2 HP1 HN1 HX1
  gi_wp2_with fail
  have hb02 := HB2.out.size
  have hz1 : w.heap.size + 2 < w2.heap.size := HN2.out.lt
  have hxl : xs.length = xn := by have := Hx.out.1; simpa [u8s] using this
  refine wpIn_rangeFunc_B (n := 10) (by decide) (gf := 189) (lb := #[.pointer (some ⟨w1.heap.size, 0, none⟩), .pointer (some ⟨w1.heap.size + 1, 0, none⟩)]) rfl (fun args w => callFunc_in Tryz.func189 (by kernel_rfl) (by kernel_rfl) args w)
   (bytes1_seq 9 w.heap.size w1.heap.size (w1.heap.size + 1) A n c cs v s I m d li w2 hb02 HC2.out HD2.out (Hr.out.below HB2.out) (Hi.out.below HB2.out) Hf.out Hok.out hs (HT.out.keep HB2.out)) (Below.refl _ _) (fun _ => rfl) hb02
   (fun pre W => lcp pre xs = pre.length ∧ Blk W (w.heap.size + 2) 3 #[.int .i64 (pre.length : Int)] ∧ Blk W (w.heap.size + 1) 35 #[.slice X xn xc] ∧ Below w.heap.size w W)
   (fun cd pre W => cd = .exit 0 ∧ lcp pre xs < pre.length ∧ Blk W (w.heap.size + 2) 3 #[.int .i64 ((lcp pre xs : Nat) : Int)] ∧ Below w.heap.size w W)
   (fun s A A' h hb => ⟨h.1, h.2.1.belowL hb hz1, h.2.2.1.belowL hb (by omega), h.2.2.2.trans (hb.mono hb02)⟩) (fun cd s A A' h hb => ⟨h.1, h.2.1, h.2.2.1.belowL hb hz1, h.2.2.2.trans (hb.mono hb02)⟩)
   ⟨by cases xs <;> rfl, HN2.out, HX2.out, HB2.out⟩ ?a1 ?assign ?body ?done ?stop
  case assign =>
   intro l x W K hK
   gi_wp2
   exact hK
  case body =>
   rintro l pre x W ⟨hpre, hI, hX, hIb⟩ hWs
   have c0 := hI.cell 0
   have f0 := hI.frozen 0
   have x0 := hX.cell 0
   have hlw := lcp_whole pre xs x hpre
   have hl2 := lcp_le2 pre xs
   rw [hpre] at hl2
   have Hpre := Lib.hid hpre
   have HIb := Lib.hid hIb
   have HI := Lib.hid hI
   have HX := Lib.hid hX
   clear hpre hIb hI hX
   obtain ⟨i, hi⟩ : ∃ i, pre.length = i := ⟨_, rfl⟩
   have Hi2 := Lib.hid hi
   rw [hi] at c0 hlw hl2 HI
   clear hi
   by_cases hq : i = xn
   ·have e0 : ((i : Int) == (xn : Int)) = true := by simp [hq]
    have hout : xs[i]? = none := List.getElem?_eq_none (by omega)
    rw [hout, if_neg (by simp)] at hlw
    have Hlw := Lib.hid hlw
    clear hlw hout hq
    gi_wp2
    exact ⟨Mid.refl _ _ _, rfl, by rw [Hlw.out, List.length_append, Hi2.out]; simp, by rw [Hlw.out]; exact HI.out, HIb.out⟩
   ·have e0 : ((i : Int) == (xn : Int)) = false := by simp; omega
    have hib : i < xs.length := by omega
    obtain ⟨ad, hX, -, hcell⟩ := (Hx.out.below HIb.out).2 (by omega)
    have hc := hcell i (.int .u8 ((xs[i]).toNat : Int)) (by simp [u8s, hib])
    subst hX
    have hbi : decide ((i : Int) < (xn : Int)) = true := by simp; omega
    by_cases hxe : xs[i] = x
    ·have e1 : ((((xs[i]).toNat : Nat) : Int) != ((x.toNat : Nat) : Int)) = false := by rw [hxe]; simp
     rw [List.getElem?_eq_getElem hib, hxe, if_pos rfl] at hlw
     have Hlw := Lib.hid hlw
     have Hnx := Lib.hid (HI.out.set_ 0 (.int .i64 (((i + 1 : Nat)) : Int)))
     have hwr : wrap64 ((i : Int) + 1) = ((i + 1 : Nat) : Int) := by have := hxn; unfold maxLen at this; unfold wrap64; omega
     have Hwr := Lib.hid hwr
     have Hhq := Lib.hid hq
     clear hlw hxe hwr hq
     gi_wp2
     rw [Hwr.out]
     have hn2 := Hnx.out
     simp only [List.setIfInBounds_toArray, List.set_cons_zero] at hn2
     exact ⟨(Mid.refl _ _ _).setCell (p := ⟨w.heap.size + 2, 0, none⟩) (by show w.heap.size ≤ w.heap.size + 2; omega) (.inl hz1) _, by rw [Hlw.out, List.length_append, Hi2.out]; rfl, by rw [List.length_append, Hi2.out]; exact hn2,
      HX.out.far (p := ⟨w.heap.size + 2, 0, none⟩) (by show w.heap.size + 1 ≠ w.heap.size + 2; omega) _, HIb.out.setCell (p := ⟨w.heap.size + 2, 0, none⟩) (by show w.heap.size ≤ w.heap.size + 2; omega) _⟩
    ·have e1 : ((((xs[i]).toNat : Nat) : Int) != ((x.toNat : Nat) : Int)) = true := by
      have : (xs[i]).toNat ≠ x.toNat := fun h => hxe (UInt8.toNat_inj.1 h)
      simp; omega
     rw [List.getElem?_eq_getElem hib, if_neg (by simpa using hxe)] at hlw
     have Hlw := Lib.hid hlw
     have Hhq := Lib.hid hq
     clear hlw hxe hq
     gi_wp2
     exact ⟨Mid.refl _ _ _, rfl, by rw [Hlw.out, List.length_append, Hi2.out]; simp, by rw [Hlw.out]; exact HI.out, HIb.out⟩
  case done =>
   rintro D ys W hD rfl ⟨hpre, hI, hX, hIb⟩ hK
   obtain ⟨sv, hsz⟩ : ∃ sv, (((encA cs (v, s, li)).length : Nat) : Int) = sv := ⟨_, rfl⟩
   have Hsz := Lib.hid (show whereV cs (v, s, li) xs = sv by rw [Hsv.out, hpre]; exact hsz)
   rw [hsz] at hI
   clear hsz hX hpre
   have c0 := hI.cell 0
   have f0 := hI.frozen 0
   have HI2 := hI.set_ 0 (.int .i64 sv)
   simp only [List.setIfInBounds_toArray, List.set_cons_zero] at HI2
   have HI2 := Lib.hid HI2
   have HIb := Lib.hid (hIb.setCell (p := ⟨w.heap.size + 2, 0, none⟩) (by show w.heap.size ≤ w.heap.size + 2; omega) (.int .i64 sv))
   have HK := Lib.hid (show (W.setCell ⟨w.heap.size + 2, 0, none⟩ (.int .i64 sv)).heap[D]? = some (.deferred (some [])) from (Below.heap_setCell W ⟨w.heap.size + 2, 0, none⟩ _ D (by show D ≠ w.heap.size + 2; omega)).trans hK)
   clear hI hIb hK
   gi_wp2
   refine ⟨by simp, .inl ⟨_, _, rfl, run_takeDeferred HK.out, ?_⟩⟩
   have hDl : D < (W.setCell ⟨w.heap.size + 2, 0, none⟩ (.int .i64 sv)).heap.size := (Array.getElem?_eq_some_iff.1 HK.out).1
   have hpb := put_below (W.setCell ⟨w.heap.size + 2, 0, none⟩ (.int .i64 sv)) D (.deferred none) w2.heap.size (by omega) hD
   have k0 := (HI2.out.belowL hpb hz1).cell 0
   refine ⟨.tuple #[.int .i64 sv, .int .i64 0], by rw [results_cell_tmp rfl]; simp [go_sem, k0], by rw [Hsz.out, HE0.out], HIb.out.trans (hpb.mono hb02)⟩
  case stop =>
   rintro D cd pre W hD hpre ⟨rfl, hlt, hI, hIb⟩ hK
   obtain ⟨rest, hrest⟩ := hpre
   obtain ⟨sv, hsz⟩ : ∃ sv, ((lcp pre xs : Nat) : Int) = sv := ⟨_, rfl⟩
   have Hsz := Lib.hid (show whereV cs (v, s, li) xs = sv by rw [Hsv.out, ← hrest, lcp_stuck pre xs rest hlt]; exact hsz)
   rw [hsz] at hI
   clear hsz hrest hlt
   have c0 := hI.cell 0
   have f0 := hI.frozen 0
   have HI2 := hI.set_ 0 (.int .i64 sv)
   simp only [List.setIfInBounds_toArray, List.set_cons_zero] at HI2
   have HI2 := Lib.hid HI2
   have HIb := Lib.hid (hIb.setCell (p := ⟨w.heap.size + 2, 0, none⟩) (by show w.heap.size ≤ w.heap.size + 2; omega) (.int .i64 sv))
   have HK := Lib.hid (show (W.setCell ⟨w.heap.size + 2, 0, none⟩ (.int .i64 sv)).heap[D]? = some (.deferred (some [])) from (Below.heap_setCell W ⟨w.heap.size + 2, 0, none⟩ _ D (by show D ≠ w.heap.size + 2; omega)).trans hK)
   clear hI hIb hK
   gi_wp2
   refine ⟨by simp, .inl ⟨_, _, rfl, run_takeDeferred HK.out, ?_⟩⟩
   have hDl : D < (W.setCell ⟨w.heap.size + 2, 0, none⟩ (.int .i64 sv)).heap.size := (Array.getElem?_eq_some_iff.1 HK.out).1
   have hpb := put_below (W.setCell ⟨w.heap.size + 2, 0, none⟩ (.int .i64 sv)) D (.deferred none) w2.heap.size (by omega) hD
   have k0 := (HI2.out.belowL hpb hz1).cell 0
   refine ⟨.tuple #[.int .i64 sv, .int .i64 0], by rw [results_cell_tmp rfl]; simp [go_sem, k0], by rw [Hsz.out, HE0.out], HIb.out.trans (hpb.mono hb02)⟩
 ·have hE2 : (batE cs (v, s, li) != 0) = true := by simpa using hE
  have Hsv := Lib.hid (show whereV cs (v, s, li) xs = 0 by unfold whereV; rw [if_neg hE])
  obtain ⟨E, hEE⟩ : ∃ E, batE cs (v, s, li) = E := ⟨_, rfl⟩
  rw [hEE] at hE2 ⊢
  have HEE := Lib.hid hEE
  have hN2 := HN1.out.set_ 0 (.int .i64 0)
  simp only [List.setIfInBounds_toArray, List.set_cons_zero] at hN2
  have k0 := hN2.cell 0
  have HB2 := Lib.hid (HB1.out.setCell (p := ⟨w.heap.size + 2, 0, none⟩) (by show w.heap.size ≤ w.heap.size + 2; omega) (.int .i64 0))
  clear hE hEE hN2
  gi_wp2
  refine ⟨.tuple #[.int .i64 0, .int .i64 E], by rw [results_cell_tmp rfl]; simp [go_sem, k0], ?_⟩
  rw [Hsv.out, HEE.out]
  exact ⟨rfl, HB2.out⟩
end Go.Proofs.YtnkgchmkmhdcaaaGreatDoor
