/- Part 27 of the walks, merged: each text under its own heading. Conditions: none of its own; each lemma states what it asks. -/
import Derived.Test.YtjpjalmilfgckaaGreatDoorBk7
import Derived.Test.YtjpjalmilfgckaaGreatDoorBk26
set_option linter.unusedVariables false
set_option linter.unusedSimpArgs false
namespace Go.Proofs.YtjpjalmilfgckaaGreatDoor
open Go.RowKit
def cutTo (r : List Cl) (k : Nat) : List Cl := (r.take k).map cutc
theorem cutTo_succ {r : List Cl} {k : Nat} {c : Cl} (h : r[k]? = some c) : cutTo r (k + 1) = cutTo r k ++ [cutc c] := by
 unfold cutTo
 rw [List.take_add_one, h, List.map_append]
 rfl
theorem cutTo_all {r : List Cl} {k : Nat} (h : k = min r.length 40) : cutTo r k = cutr r := by
 unfold cutTo cutr
 congr 1
 rcases Nat.lt_or_ge r.length 40 with h1 | h1
 ·rw [List.take_of_length_le (by omega), List.take_of_length_le (by omega)]
 ·rw [show k = 40 by omega]
def cutI (l : List It) (i : Nat) : List It := (l.take i).map cuti
theorem cutI_succ {l : List It} {i : Nat} {it : It} (h : l[i]? = some it) : cutI l (i + 1) = cutI l i ++ [cuti it] := by
 unfold cutI
 rw [List.take_add_one, h, List.map_append]
 rfl
theorem cutI_all {l : List It} {i : Nat} (h : i = min l.length 30) : cutI l i = cutl l := by
 unfold cutI cutl
 congr 1
 rcases Nat.lt_or_ge l.length 30 with h1 | h1
 ·rw [List.take_of_length_le (by omega), List.take_of_length_le (by omega)]
 ·rw [show i = 30 by omega]
set_option maxRecDepth 100000 in
set_option maxHeartbeats 4000000 in
theorem cut17_any (v s : Int) (I : Option Addr) (m d : Nat) (l : List It) (w : World) (hi : ItemsAt w w.heap.size I m l) (hm : m ≤ maxLen) (hok : ItOk l) :
  Calls Tryz.prog 31 #[.agg #[.int .i64 v, .int .i64 s, .slice I m d]] w fun e w' => ∃ A k c, e = .returned (.agg #[.int .i64 v, .int .i64 s, .slice A k c]) ∧ ItemsOwn w' w.heap.size A k c (cutl l) ∧ Below w.heap.size w w' := by
 obtain ⟨j0, hj0, hk0, hj1, hk2⟩ := info_parts cell_info
 obtain ⟨i0, hi0, hl0, hi1, hl2⟩ := info_parts item_info
 have Hi := Lib.hid hi
 have Hok := Lib.hid hok
 have hm63 : m ≤ 9223372036854775807 := by simp only [maxLen] at hm; omega
 have HB := Lib.hid (bal (bal (bal (Below.refl w.heap.size w) (.cells #[.int .i64 v, .int .i64 s, .slice I m d] 30)) (.cells #[.int .i64 0, .int .i64 0, .slice none 0 0] 30)) (.cells #[.int .i64 v, .int .i64 s, .slice none 0 0] 30))
 have B1 := Lib.hid (((Blk.new w 30 #[.int .i64 v, .int .i64 s, .slice I m d]).alloc (.cells #[.int .i64 0, .int .i64 0, .slice none 0 0] 30)).alloc (.cells #[.int .i64 v, .int .i64 s, .slice none 0 0] 30))
 have B2 := Lib.hid ((Blk.new (w.alloc (.cells #[.int .i64 v, .int .i64 s, .slice I m d] 30)) 30 #[.int .i64 0, .int .i64 0, .slice none 0 0]).alloc (.cells #[.int .i64 v, .int .i64 s, .slice none 0 0] 30))
 have B3 := Lib.hid (Blk.new ((w.alloc (.cells #[.int .i64 v, .int .i64 s, .slice I m d] 30)).alloc (.cells #[.int .i64 0, .int .i64 0, .slice none 0 0] 30)) 30 #[.int .i64 v, .int .i64 s, .slice none 0 0])
 rw [show (w.alloc (.cells #[.int .i64 v, .int .i64 s, .slice I m d] 30)).heap.size = w.heap.size + 1 by simp] at B2
 rw [show ((w.alloc (.cells #[.int .i64 v, .int .i64 s, .slice I m d] 30)).alloc (.cells #[.int .i64 0, .int .i64 0, .slice none 0 0] 30)).heap.size = w.heap.size + 2 by simp] at B3
 clear hi hm hok
 go_enter Tryz.func31, Tryz.ntmps31
 go_wp2
 rw [show w.heap.size + 1 + 1 = w.heap.size + 2 from rfl]
 go_loopw [4, 5] (fun u ix wr => ∃ (i : Nat) (A4 : Option Addr) (c4 : Nat), i ≤ m ∧ i ≤ 30 ∧ u = .slice A4 i c4 ∧ ix = .int .i64 (i : Int) ∧ Hid (ItemsOwn wr w.heap.size A4 i c4 (cutI l i)) ∧ Hid (Blk wr w.heap.size 30 #[.int .i64 v, .int .i64 s, .slice I m d]) ∧ Hid (Blk wr (w.heap.size + 1) 30 #[.int .i64 0, .int .i64 0, .slice none 0 0]) ∧ Hid (Blk wr (w.heap.size + 2) 30 #[.int .i64 v, .int .i64 s, .slice none 0 0]) ∧ Hid (Below w.heap.size w wr)) (fun _ ix _ => m - (intOf ix).toNat)
 case atStart => exact ⟨0, none, 0, Nat.zero_le _, by omega, rfl, rfl, Lib.hid ItemsOwn.nil, B1, B2, B3, HB⟩
 case round =>
  clear HB B1 B2 B3
  obtain ⟨i, A4, c4, hile, hi30, rfl, rfl, HIt, B1, B2, B3, HB⟩ := hrel
  have c2 := B1.out.cell 2
  by_cases hlt : i < m ∧ i < 30
  ·obtain ⟨hlt1, hlt2⟩ := hlt
   have d1 : decide ((i : Int) < (m : Int)) = true := by simp; omega
   have d2 : decide ((i : Int) < 30) = true := by simp; omega
   have hii : (i : Int) < (m : Int) := by omega
   have hi1' : i + 1 ≤ m := hlt1
   have hi2' : i + 1 ≤ 30 := hlt2
   obtain ⟨ad, A', c', ⟨r, wt⟩, rfl, hbk, hit, h0, h1, hrow, hc1, hc2⟩ := (Hi.out.below HB.out).at_ hlt1
   simp only at h0 h1 hrow hc1
   have HR0 := Lib.hid (show ∀ w', Below wr.heap.size wr w' → w'.cell? (ad.add (i * 2)) = some (.slice A' r.length c') from fun w' h => (h.cell (World.block_lt_of_cell? _ _ h0)).trans h0)
   have HW := Lib.hid (show ∀ w', Below wr.heap.size wr w' → w'.cell? ⟨(ad.add (i * 2)).block, (ad.add (i * 2)).off + 1, none⟩ = some (.int .i64 wt) from fun w' h => (h.cell (World.block_lt_of_cell? _ _ h1)).trans h1)
   have Hrow := Lib.hid (hrow.more HB.out.size)
   have Hit := Lib.hid hit
   have hrl63 : r.length ≤ 9223372036854775807 := by simp only [maxLen] at hc2; omega
   have Hrk := Lib.hid (Hok.out _ (List.mem_of_getElem? hit)).1
   simp only at Hrk
   clear hit hrow hc1 hc2 h0 h1 hbk
   generalize hrl : r.length = rl at HR0 Hrow hrl63
   have Hrl := Lib.hid hrl
   clear hrl
   generalize wr = Wp at *
   go_wp2
   go_loopw [6, 7] (fun u jx WX => ∃ (k : Nat) (A10 : Option Addr) (c10 : Nat), k ≤ rl ∧ k ≤ 40 ∧ u = .slice A10 k c10 ∧ jx = .int .i64 (k : Int) ∧ Hid (WX.ownsRow Wp.heap.size 23 3 (.slice A10 k c10) k (cls (cutTo r k))) ∧ Hid (Below Wp.heap.size Wp WX)) (fun _ jx _ => rl - (intOf jx).toNat)
   case atStart => exact ⟨0, none, 0, Nat.zero_le _, by omega, rfl, rfl, Lib.hid (World.ownsRow_nil _ _ _ _), Lib.hid (Below.refl _ _)⟩
   case round =>
    clear c2
    obtain ⟨k, A10, c10, hk1, hk40, rfl, rfl, HO, HY⟩ := hrel
    have c2 := (B1.out.on HY.out).cell 2
    have h0 := HR0.out _ HY.out
    by_cases hkt : k < rl ∧ k < 40
    ·obtain ⟨hkt1, hkt2⟩ := hkt
     have d3 : decide ((k : Int) < (rl : Int)) = true := by simp; omega
     have d4 : decide ((k : Int) < 40) = true := by simp; omega
     have hki : (k : Int) < (rl : Int) := by omega
     have hk1' : k + 1 ≤ rl := hkt1
     have hk2' : k + 1 ≤ 40 := hkt2
     obtain ⟨ad3, u, x, sx, rfl, hbk3, hx, g0', g1', g2'⟩ := cls_at (Hrow.out.on HY.out) hkt1
     have hsz : sx.size ≤ 9223372036854775807 := by have := (Hrk.out _ (List.mem_of_getElem? hx)).2.2; simp only [maxLen] at this; omega
     obtain ⟨mn, hmn⟩ : ∃ mn : Nat, mn = min sx.size 300 := ⟨_, rfl⟩
     have hmi : min (sx.size : Int) 300 = (mn : Int) := by omega
     have hms : mn ≤ sx.size := by omega
     have Hs := Lib.hid (show cutTo r (k + 1) = cutTo r k ++ [(u, x, sx.extract 0 mn)] by rw [cutTo_succ hx, hmn]; rfl)
     have hs1 : k + 1 ≤ maxLen := by simp only [maxLen]; omega
     have hs2 : (k + 1) * 32 ≤ 70368744177664 := by omega
     clear hx hbk3 hmn
     go_wp2_with (at_builtin
                  refine wpList_append_any _ rfl (.tmp 57) (.tmp 59) 24 rfl Wp.heap.size 23 j0 (.agg #[.bool false, .int .i64 0, .string ⟨#[]⟩]) 3 32 Tryz.underlying24 hj0 hk0 hj1 hk2 rfl (by decide) A10 k c10 _ rfl (own_below HO.out (((Below.refl _ wr).alloc (Nat.le_refl _) (.cells #[.bool u, .int .i64 x, .string (sx.extract 0 mn)] 23)).alloc (by simp) (.cells #[.bool u, .int .i64 x, .string (sx.extract 0 mn)] 23))) (some ⟨_, 0, none⟩) 1 1 (cls [(u, x, sx.extract 0 mn)]) rfl (by exact reads_cellb _ _ (by simp) _ _ _) (cls_one _) hs1 hs2 (Nat.le_trans HY.out.size (by simp; omega)) ?_
                  intro A8 c8 w8 r1 r2 r3 r4 r5
                  rw [← cls_append, ← Hs.out] at r1
                  have R1 := Lib.hid r1
                  have R2 := Lib.hid r2
                  clear r1 r2 r3 r4 r5)
     have HY8 := Lib.hid (((HY.out.alloc HY.out.size (.cells #[.bool u, .int .i64 x, .string (sx.extract 0 mn)] 23)).alloc (Nat.le_trans HY.out.size (by simp)) (.cells #[.bool u, .int .i64 x, .string (sx.extract 0 mn)] 23)).trans R2.out)
     go_roundw
     case rel => exact ⟨k + 1, A8, c8, hk1', hk2', rfl, by go_num, R1, HY8⟩
     case measure => simp [intOf]; omega
    ·by_cases hkt1 : k < rl
     ·have d3 : decide ((k : Int) < (rl : Int)) = true := by simp; omega
      have d4 : decide ((k : Int) < 40) = false := by simp; omega
      have Hall := Lib.hid (cutTo_all (r := r) (k := k) (by rw [Hrl.out]; omega))
      have HLw := Lib.hid HY.out
      have HBw := Lib.hid (bon HB.out HY.out)
      have B1w := Lib.hid (B1.out.on HY.out)
      have B3w := Lib.hid (B3.out.on HY.out)
      obtain ⟨hs3, g1, g2⟩ := HIt.out.below HY.out
      have G1 := Lib.hid (own_below g1 ((Below.refl wr.heap.size wr).alloc (Nat.le_refl _) (.cells #[.slice A10 k c10, .int .i64 wt] 26)))
      have G2 := Lib.hid (RowsOwn.below g2 ((Below.refl wr.heap.size wr).alloc (Nat.le_refl _) (.cells #[.slice A10 k c10, .int .i64 wt] 26)))
      have HOr := Lib.hid (own_below (own_mono HO.out HB.out.size) ((Below.refl wr.heap.size wr).alloc (Nat.le_refl _) (.cells #[.slice A10 k c10, .int .i64 wt] 26)))
      rw [Hall.out] at HOr
      have B1a := Lib.hid (B1w.out.alloc (.cells #[.slice A10 k c10, .int .i64 wt] 26))
      have B2a := Lib.hid ((B2.out.on HY.out).alloc (.cells #[.slice A10 k c10, .int .i64 wt] 26))
      have B3a := Lib.hid (B3w.out.alloc (.cells #[.slice A10 k c10, .int .i64 wt] 26))
      have HBa := Lib.hid (bal HBw.out (.cells #[.slice A10 k c10, .int .i64 wt] 26))
      have c2 := B1w.out.cell 2
      have hw := HW.out _ HY.out
      have hsa : i + 1 ≤ maxLen := by simp only [maxLen]; omega
      have hsb : (i + 1) * 32 ≤ 70368744177664 := by omega
      have hii : (i : Int) < (m : Int) := by omega
      clear g1 g2
      go_wp2_with (at_builtin
                   refine wpList_append_any _ rfl (.tmp 61) (.tmp 70) 27 rfl w.heap.size 26 i0 (.agg #[.slice none 0 0, .int .i64 0]) 2 32 Tryz.underlying27 hi0 hl0 hi1 hl2 rfl (by decide) A4 i c4 _ rfl G1.out (some ⟨_, 0, none⟩) 1 1 (itV (A10, k, c10) (cutr r, wt)) rfl (by exact reads_item _ _ rfl (A10, k, c10) (cutr r, wt)) (itV_one _ _) hsa hsb HBa.out.size ?_
                   intro A8 c8 w8 r1 r2 r3 r4 r5
                   have R1 := Lib.hid r1
                   have R2 := Lib.hid r2
                   have R3 := Lib.hid r3
                   clear r1 r2 r3 r4 r5)
      have B18 := Lib.hid (B1a.out.apart G1.out (by decide) R3.out)
      have B28 := Lib.hid (B2a.out.apart G1.out (by decide) R3.out)
      have B38 := Lib.hid (B3a.out.apart G1.out (by decide) R3.out)
      have HB8 := Lib.hid (HBa.out.trans R2.out)
      have HI8 := Lib.hid (items_app (hd := (A10, k, c10)) (it := (cutr r, wt)) G1.out G2.out HOr.out R3.out R1.out)
      have hcs := cutI_succ Hit.out
      rw [show cuti (r, wt) = (cutr r, wt) from rfl] at hcs
      rw [← hcs] at HI8
      clear hcs
      go_roundw
      case rel => exact ⟨i + 1, A8, c8, hi1', hi2', rfl, by go_num, HI8, B18, B28, B38, HB8⟩
      case measure => simp [intOf]; omega
     ·have d3 : decide ((k : Int) < (rl : Int)) = false := by simp; omega
      have Hall := Lib.hid (cutTo_all (r := r) (k := k) (by rw [Hrl.out]; omega))
      have HLw := Lib.hid HY.out
      have HBw := Lib.hid (bon HB.out HY.out)
      have B1w := Lib.hid (B1.out.on HY.out)
      have B3w := Lib.hid (B3.out.on HY.out)
      obtain ⟨hs3, g1, g2⟩ := HIt.out.below HY.out
      have G1 := Lib.hid (own_below g1 ((Below.refl wr.heap.size wr).alloc (Nat.le_refl _) (.cells #[.slice A10 k c10, .int .i64 wt] 26)))
      have G2 := Lib.hid (RowsOwn.below g2 ((Below.refl wr.heap.size wr).alloc (Nat.le_refl _) (.cells #[.slice A10 k c10, .int .i64 wt] 26)))
      have HOr := Lib.hid (own_below (own_mono HO.out HB.out.size) ((Below.refl wr.heap.size wr).alloc (Nat.le_refl _) (.cells #[.slice A10 k c10, .int .i64 wt] 26)))
      rw [Hall.out] at HOr
      have B1a := Lib.hid (B1w.out.alloc (.cells #[.slice A10 k c10, .int .i64 wt] 26))
      have B2a := Lib.hid ((B2.out.on HY.out).alloc (.cells #[.slice A10 k c10, .int .i64 wt] 26))
      have B3a := Lib.hid (B3w.out.alloc (.cells #[.slice A10 k c10, .int .i64 wt] 26))
      have HBa := Lib.hid (bal HBw.out (.cells #[.slice A10 k c10, .int .i64 wt] 26))
      have c2 := B1w.out.cell 2
      have hw := HW.out _ HY.out
      have hsa : i + 1 ≤ maxLen := by simp only [maxLen]; omega
      have hsb : (i + 1) * 32 ≤ 70368744177664 := by omega
      have hii : (i : Int) < (m : Int) := by omega
      clear g1 g2
      go_wp2_with (at_builtin
                   refine wpList_append_any _ rfl (.tmp 61) (.tmp 70) 27 rfl w.heap.size 26 i0 (.agg #[.slice none 0 0, .int .i64 0]) 2 32 Tryz.underlying27 hi0 hl0 hi1 hl2 rfl (by decide) A4 i c4 _ rfl G1.out (some ⟨_, 0, none⟩) 1 1 (itV (A10, k, c10) (cutr r, wt)) rfl (by exact reads_item _ _ rfl (A10, k, c10) (cutr r, wt)) (itV_one _ _) hsa hsb HBa.out.size ?_
                   intro A8 c8 w8 r1 r2 r3 r4 r5
                   have R1 := Lib.hid r1
                   have R2 := Lib.hid r2
                   have R3 := Lib.hid r3
                   clear r1 r2 r3 r4 r5)
      have B18 := Lib.hid (B1a.out.apart G1.out (by decide) R3.out)
      have B28 := Lib.hid (B2a.out.apart G1.out (by decide) R3.out)
      have B38 := Lib.hid (B3a.out.apart G1.out (by decide) R3.out)
      have HB8 := Lib.hid (HBa.out.trans R2.out)
      have HI8 := Lib.hid (items_app (hd := (A10, k, c10)) (it := (cutr r, wt)) G1.out G2.out HOr.out R3.out R1.out)
      have hcs := cutI_succ Hit.out
      rw [show cuti (r, wt) = (cutr r, wt) from rfl] at hcs
      rw [← hcs] at HI8
      clear hcs
      go_roundw
      case rel => exact ⟨i + 1, A8, c8, hi1', hi2', rfl, by go_num, HI8, B18, B28, B38, HB8⟩
      case measure => simp [intOf]; omega
  ·by_cases hlt1 : i < m
   ·have d1 : decide ((i : Int) < (m : Int)) = true := by simp; omega
    have d2 : decide ((i : Int) < 30) = false := by simp; omega
    have hcl := cutI_all (l := l) (i := i) (by rw [Hi.out.len]; omega)
    rw [hcl] at HIt
    clear hcl
    have p0 := B3.out.cell 0
    have p1 := B3.out.cell 1
    have p2 := B3.out.cell 2
    have q0 := B3.out.frozen 0
    have q1 := B3.out.frozen 1
    have q2 := B3.out.frozen 2
    have r0 := B2.out.cell 0
    have r1 := B2.out.cell 1
    have r2 := B2.out.cell 2
    have s0 := B2.out.frozen 0
    have s1 := B2.out.frozen 1
    have s2 := B2.out.frozen 2
    go_wp2
    have H3a := B3.out.set_ 2 (.slice A4 i c4)
    have H2a := (((B2.out.far (p := ⟨w.heap.size + 2, 2, none⟩) (by show w.heap.size + 1 ≠ w.heap.size + 2; omega) (.slice A4 i c4)).set_ 0 (.int .i64 v)).set_ 1 (.int .i64 s)).set_ 2 (.slice A4 i c4)
    simp only [List.setIfInBounds_toArray, List.set_cons_zero, List.set_cons_succ] at H2a H3a
    have e0 := H2a.cell 0
    have e1 := H2a.cell 1
    have e2 := H2a.cell 2
    have HB2 := Lib.hid ((((HB.out.setCell (p := ⟨w.heap.size + 2, 2, none⟩) (by show w.heap.size ≤ w.heap.size + 2; omega) (.slice A4 i c4)).setCell (p := ⟨w.heap.size + 1, 0, none⟩) (by show w.heap.size ≤ w.heap.size + 1; omega) (.int .i64 v)).setCell (p := ⟨w.heap.size + 1, 1, none⟩) (by show w.heap.size ≤ w.heap.size + 1; omega) (.int .i64 s)).setCell (p := ⟨w.heap.size + 1, 2, none⟩) (by show w.heap.size ≤ w.heap.size + 1; omega) (.slice A4 i c4))
    have HIf := Lib.hid (((HIt.out.far B3.out (by decide) (by decide) 2 (.slice A4 i c4)).far (B2.out.far (p := ⟨w.heap.size + 2, 2, none⟩) (by show w.heap.size + 1 ≠ w.heap.size + 2; omega) (.slice A4 i c4)) (by decide) (by decide) 0 (.int .i64 v)).far ((B2.out.far (p := ⟨w.heap.size + 2, 2, none⟩) (by show w.heap.size + 1 ≠ w.heap.size + 2; omega) (.slice A4 i c4)).set_ 0 (.int .i64 v)) (by decide) (by decide) 1 (.int .i64 s))
    have HIg := Lib.hid (HIf.out.far (((B2.out.far (p := ⟨w.heap.size + 2, 2, none⟩) (by show w.heap.size + 1 ≠ w.heap.size + 2; omega) (.slice A4 i c4)).set_ 0 (.int .i64 v)).set_ 1 (.int .i64 s)) (by decide) (by decide) 2 (.slice A4 i c4))
    refine bodyPost_ret (v := .agg #[.int .i64 v, .int .i64 s, .slice A4 i c4]) (by simp [results, Tryz.results31, go_sem, e0, e1, e2]) rfl ?_
    exact ⟨A4, i, c4, rfl, HIg.out, HB2.out⟩
   ·have d1 : decide ((i : Int) < (m : Int)) = false := by simp; omega
    have hcl := cutI_all (l := l) (i := i) (by rw [Hi.out.len]; omega)
    rw [hcl] at HIt
    clear hcl
    have p0 := B3.out.cell 0
    have p1 := B3.out.cell 1
    have p2 := B3.out.cell 2
    have q0 := B3.out.frozen 0
    have q1 := B3.out.frozen 1
    have q2 := B3.out.frozen 2
    have r0 := B2.out.cell 0
    have r1 := B2.out.cell 1
    have r2 := B2.out.cell 2
    have s0 := B2.out.frozen 0
    have s1 := B2.out.frozen 1
    have s2 := B2.out.frozen 2
    go_wp2
    have H3a := B3.out.set_ 2 (.slice A4 i c4)
    have H2a := (((B2.out.far (p := ⟨w.heap.size + 2, 2, none⟩) (by show w.heap.size + 1 ≠ w.heap.size + 2; omega) (.slice A4 i c4)).set_ 0 (.int .i64 v)).set_ 1 (.int .i64 s)).set_ 2 (.slice A4 i c4)
    simp only [List.setIfInBounds_toArray, List.set_cons_zero, List.set_cons_succ] at H2a H3a
    have e0 := H2a.cell 0
    have e1 := H2a.cell 1
    have e2 := H2a.cell 2
    have HB2 := Lib.hid ((((HB.out.setCell (p := ⟨w.heap.size + 2, 2, none⟩) (by show w.heap.size ≤ w.heap.size + 2; omega) (.slice A4 i c4)).setCell (p := ⟨w.heap.size + 1, 0, none⟩) (by show w.heap.size ≤ w.heap.size + 1; omega) (.int .i64 v)).setCell (p := ⟨w.heap.size + 1, 1, none⟩) (by show w.heap.size ≤ w.heap.size + 1; omega) (.int .i64 s)).setCell (p := ⟨w.heap.size + 1, 2, none⟩) (by show w.heap.size ≤ w.heap.size + 1; omega) (.slice A4 i c4))
    have HIf := Lib.hid (((HIt.out.far B3.out (by decide) (by decide) 2 (.slice A4 i c4)).far (B2.out.far (p := ⟨w.heap.size + 2, 2, none⟩) (by show w.heap.size + 1 ≠ w.heap.size + 2; omega) (.slice A4 i c4)) (by decide) (by decide) 0 (.int .i64 v)).far ((B2.out.far (p := ⟨w.heap.size + 2, 2, none⟩) (by show w.heap.size + 1 ≠ w.heap.size + 2; omega) (.slice A4 i c4)).set_ 0 (.int .i64 v)) (by decide) (by decide) 1 (.int .i64 s))
    have HIg := Lib.hid (HIf.out.far (((B2.out.far (p := ⟨w.heap.size + 2, 2, none⟩) (by show w.heap.size + 1 ≠ w.heap.size + 2; omega) (.slice A4 i c4)).set_ 0 (.int .i64 v)).set_ 1 (.int .i64 s)) (by decide) (by decide) 2 (.slice A4 i c4))
    refine bodyPost_ret (v := .agg #[.int .i64 v, .int .i64 s, .slice A4 i c4]) (by simp [results, Tryz.results31, go_sem, e0, e1, e2]) rfl ?_
    exact ⟨A4, i, c4, rfl, HIg.out, HB2.out⟩
end Go.Proofs.YtjpjalmilfgckaaGreatDoor
namespace Go.Proofs.YtjpjalmilfgckaaGreatDoor
open Go.RowKit
set_option maxRecDepth 100000 in
set_option maxHeartbeats 1000000 in
theorem bfails_yes (er : Nat) (ei : Int) (hei : ei = (er : Int)) (B : Option Addr) (m cb : Nat) (xs : List UInt8) (w : World) (hx : Reads w w.heap.size 1 B m (u8s xs)) (hm : m ≤ cb) (hc : cb ≤ maxLen) (hT : Tab2 w.heap.size w) (hd : decB twoC xs = .error er) :
  Calls Tryz.prog 51 #[.slice B m cb, .int .i64 ei] w fun e w' => e = .returned (.bool true) ∧ Below w.heap.size w w' := by
 have Hx := Lib.hid hx
 have HT := Lib.hid hT
 have Hd := Lib.hid hd
 subst hei
 clear hx hT hd
 go_enter Tryz.func51, Tryz.ntmps51
 go_wp2_with fail
 with_reducible refine (two_any _).mono ?_
 rintro e w1 ⟨rfl, hr, hb1⟩
 have HB := Lib.hid hb1
 have HR := Lib.hid hr
 clear hb1 hr
 go_wp2_with fail
 with_reducible refine (bdec_any (some ⟨w.heap.size, 0, none⟩) 2 2 twoC B m cb xs w1 HR.out (by decide) (Hx.out.on HB.out) hm hc (HT.out.on HB.out)).mono ?_
 rintro e w2 ⟨hb2, hm2⟩
 rw [Hd.out] at hm2
 obtain ⟨rfl, he⟩ := hm2
 have HB := Lib.hid (bal (bon HB.out hb2) (.cells #[.int .i64 0, .int .i64 0, .slice none 0 0] 30))
 clear hb2 he HR
 go_wp2_with fail
 with_reducible refine (bsame_any 0 0 none 0 0 [] 0 0 none 0 0 [] _ (ItemsOwn.nil (base := w.heap.size)).at_ (ItemsOwn.nil (base := w.heap.size)).at_ (by decide)).mono ?_
 rintro e w3 ⟨rfl, hb3⟩
 have HB := Lib.hid (bon HB.out hb3)
 clear hb3
 rw [sameBa_self]
 go_wp2
 go_ret
 exact ⟨rfl, HB.out⟩
set_option maxRecDepth 100000 in
set_option maxHeartbeats 1000000 in
theorem brefused_yes (ei : Int) (v s : Int) (I : Option Addr) (m d : Nat) (l : List It) (w : World) (hi : ItemsAt w w.heap.size I m l) (hm : m ≤ maxLen) (hok : BaOk (v, s, l)) (hcl : ItOk l) (hT : Tab2 w.heap.size w) (hne : ei ≠ 0) (hd : batE twoC (v, s, l) = ei) :
  Calls Tryz.prog 50 #[.agg #[.int .i64 v, .int .i64 s, .slice I m d], .int .i64 ei] w fun e w' => e = .returned (.bool true) ∧ Below w.heap.size w w' := by
 have Hi := Lib.hid hi
 have HT := Lib.hid hT
 have Hd := Lib.hid hd
 have Hne := Lib.hid hne
 have Hok := Lib.hid hok
 have Hcl := Lib.hid hcl
 have HB := Lib.hid (bal (Below.refl w.heap.size w) (.cells #[.int .i64 v, .int .i64 s, .slice I m d] 30))
 have HP := Lib.hid (Blk.new w 30 #[.int .i64 v, .int .i64 s, .slice I m d])
 clear hi hT hd hne hok hcl
 go_enter Tryz.func50, Tryz.ntmps50
 go_wp2
 generalize hW : w.alloc (.cells #[.int .i64 v, .int .i64 s, .slice I m d] 30) = W1 at *
 clear hW
 have HL0 := Lib.hid (show ∀ w', Below W1.heap.size W1 w' → w'.cell? ⟨w.heap.size, 0, none⟩ = some (.int .i64 v) from fun w' h => (HP.out.on h).cell 0)
 have HL1 := Lib.hid (show ∀ w', Below W1.heap.size W1 w' → w'.cell? ⟨w.heap.size, 1, none⟩ = some (.int .i64 s) from fun w' h => (HP.out.on h).cell 1)
 have HL2 := Lib.hid (show ∀ w', Below W1.heap.size W1 w' → w'.cell? ⟨w.heap.size, 2, none⟩ = some (.slice I m d) from fun w' h => (HP.out.on h).cell 2)
 have hS : Below W1.heap.size W1 W1.drew := (Below.refl _ _).drew
 refine wp_region_keep (fun w' => Below W1.heap.size W1 w') [(1, false), (0, true), (2, true), (3, false), (4, false), (5, false), (6, false), (7, false)] (by kernel_rfl) (by kernel_rfl) (by kernel_rfl) (fun d _ _ _ _ h => by cases d <;> exact h) ?_
 refine held_pure (v := ?_) rfl rfl (by simp [Region.wanted, yielded]) hS ?_ ?_
 rotate_left
 ·intro w hw; have c0 := HL0.out w hw; have c1 := HL1.out w hw; have c2 := HL2.out w hw; clear hw; go_simp; try with_reducible rfl
 try simp only [Act.put, zpA, zpB, zpC]
 refine held_eff1 rfl (by simp [Region.wanted, yielded]) fun K hK => ?_
 go_simp
 with_reducible refine (two_any _).mono ?_
 rintro e w2 ⟨rfl, hr, hb2⟩
 have HS2 := Lib.hid (bon hS hb2)
 have HR := Lib.hid (show Reads w2 w2.heap.size 7 (some ⟨W1.heap.size, 0, none⟩) 2 (cos twoC) from hr)
 clear hr hb2
 refine held_go hK (by exact HS2.out) fun hS => ?_
 clear hK K
 try simp only [Act.put, zpA, zpB, zpC]
 refine held_eff1 rfl (by simp [Region.wanted, yielded]) fun K hK => ?_
 go_simp
 with_reducible refine (benc_any (some ⟨W1.heap.size, 0, none⟩) 2 2 twoC v s I m d l _ HR.out (by decide) (Hi.out.on (bon HB.out HS2.out)) (by exact hm) Hok.out Hcl.out (HT.out.on (bon HB.out HS2.out))).mono ?_
 rintro e w3 ⟨hb3, hm3⟩
 rw [Hd.out] at hm3
 rcases hm3 with ⟨h0, -⟩ | ⟨-, rfl⟩
 ·exact absurd h0 Hne.out
 have HS3 := Lib.hid (bon HS2.out hb3)
 clear hb3
 refine held_go hK (by exact HS3.out) fun hS => ?_
 clear hK K
 try simp only [Act.put, zpA, zpB, zpC]
 iterate 5
  refine held_pure (v := ?_) rfl rfl (by simp [Region.wanted, yielded]) hS ?_ ?_
  rotate_left
  ·intro w hw; go_simp; try with_reducible rfl
  try simp only [Act.put, zpA, zpB, zpC]
 refine held_end ?_
 have HBf := Lib.hid (bon HB.out HS3.out)
 have de : (ei == ei) = true := by simp
 go_wp2
 go_ret
 exact ⟨rfl, HBf.out⟩
end Go.Proofs.YtjpjalmilfgckaaGreatDoor
namespace Go.Proofs.YtjpjalmilfgckaaGreatDoor
open Go.RowKit
theorem Blk.readsN {w : World} {g : Nat} {t : TypeId} {cs : Array Value} (h : Blk w g t cs) (size n : Nat) (xs : List Value) (hx : cs.toList = xs) (hn : xs.length = n * size) : Reads w w.heap.size size (some ⟨g, 0, none⟩) n xs := by
 refine ⟨hn, fun _ => ⟨_, rfl, h.lt, fun j u hu => ?_⟩⟩
 have hadd : (⟨g, 0, none⟩ : Addr).add j = ⟨g, j, none⟩ := by unfold Addr.add; split <;> simp_all
 rw [hadd, h.cell]
 rw [← hx] at hu
 simpa using hu
theorem items_one {w : World} {g : Nat} {A : Option Addr} {n c : Nat} {r : List Cl} {x : Int} (hb : Blk w g 26 #[.slice A n c, .int .i64 x]) (hr : Reads w w.heap.size 3 A n (cls r)) (hn : n ≤ c) (hc : c ≤ maxLen) :
  ItemsAt w w.heap.size (some ⟨g, 0, none⟩) 1 [(r, x)] :=
 ⟨[(A, n, c)], hb.readsN 2 1 _ rfl rfl, RowsAt.nil.snoc (h := (A, n, c)) (it := (r, x)) hr hn hc⟩
def rowW : List Cl := [(false, 1, ⟨#[]⟩), (false, 0, ⟨#[97]⟩)]
def row2W : List Cl := [(false, -2, ⟨#[]⟩), (false, 0, ⟨#[97]⟩)]
def itW : List It := [(rowW, 1), (row2W, -1)]
def hdW : List UInt8 := [77, 83, 1, 3, 172, 2, 2, 2, 3, 1, 1, 97, 0, 0, 2, 1]
def xW : List UInt8 := [77, 83, 1, 3, 172, 2, 2, 2, 3, 1, 1, 97, 0, 0, 2, 1, 119, 82, 65, 129]
def yW : List UInt8 := [77, 83, 1, 0, 0, 0, 0, 254, 182, 226, 128]
theorem xW_enc : encA twoC (3, 300, itW) = xW := by kernel_rfl
theorem yW_enc : encA twoC (0, 0, []) = yW := by kernel_rfl
theorem okB_it (l : List It) (h : (l.all fun it => okB it.1 && decide (-9223372036854775808 ≤ it.2) && decide (it.2 ≤ 9223372036854775807)) = true) : ItOk l := by
 intro it hit
 have := List.all_eq_true.1 h it hit
 simp only [Bool.and_eq_true, decide_eq_true_eq] at this
 exact ⟨ok_of _ this.1.1, this.1.2, this.2⟩
theorem baOk_of {v s : Int} {l : List It} (hs : s ≤ 9223372036854775807) (h : ItOk l) : BaOk (v, s, l) := ⟨hs, fun it hit => (h it hit).2⟩
theorem itW_ok : ItOk itW := okB_it _ (by kernel_rfl)
structure WkB (w : World) (A : Option Addr) (c h : Nat) (wc : World) : Prop where
 below : Below w.heap.size w wc
 items : ItemsAt wc wc.heap.size (some ⟨w.heap.size + 2, 0, none⟩) 2 itW
 blk : Blk wc (w.heap.size + 3) 30 #[.int .i64 3, .int .i64 300, .slice (some ⟨w.heap.size + 2, 0, none⟩) 2 2]
 its_ : Blk wc (w.heap.size + 2) 26 #[.slice (some ⟨w.heap.size, 0, none⟩) 2 2, .int .i64 1, .slice (some ⟨w.heap.size + 1, 0, none⟩) 2 2, .int .i64 (-1)]
 row : Reads wc wc.heap.size 3 (some ⟨w.heap.size, 0, none⟩) 2 (cls rowW)
 x : Reads wc wc.heap.size 1 A 20 (u8s xW)
 cap : 20 ≤ c ∧ c ≤ maxLen
 head : Reads wc wc.heap.size 1 (some ⟨h, 0, none⟩) 16 (u8s hdW)
 tab : Tab2 wc.heap.size wc
theorem WkB.on {w wc w' : World} {A : Option Addr} {c h : Nat} (H : WkB w A c h wc) (hb : Below wc.heap.size wc w') : WkB w A c h w' :=
 ⟨bon H.below hb, H.items.on hb, H.blk.on hb, H.its_.on hb, H.row.on hb, H.x.on hb, H.cap, H.head.on hb, H.tab.on hb⟩
theorem WkB.al {w wc : World} {A : Option Addr} {c h : Nat} (H : WkB w A c h wc) (o : Obj) : WkB w A c h (wc.alloc o) := H.on (bal (Below.refl _ _) o)
theorem wk_mem (w : World) : ∀ W, W = (((w.alloc (.cells #[.bool false, .int .i64 1, .string ⟨#[]⟩, .bool false, .int .i64 0, .string ⟨#[97]⟩] 23)).alloc (.cells #[.bool false, .int .i64 (-2), .string ⟨#[]⟩, .bool false, .int .i64 0, .string ⟨#[97]⟩] 23)).alloc (.cells #[.slice (some ⟨w.heap.size, 0, none⟩) 2 2, .int .i64 1, .slice (some ⟨w.heap.size + 1, 0, none⟩) 2 2, .int .i64 (-1)] 26)).alloc (.cells #[.int .i64 3, .int .i64 300, .slice (some ⟨w.heap.size + 2, 0, none⟩) 2 2] 30) →
  Below w.heap.size w W ∧ ItemsAt W W.heap.size (some ⟨w.heap.size + 2, 0, none⟩) 2 itW ∧ Blk W (w.heap.size + 3) 30 #[.int .i64 3, .int .i64 300, .slice (some ⟨w.heap.size + 2, 0, none⟩) 2 2] ∧
  Blk W (w.heap.size + 2) 26 #[.slice (some ⟨w.heap.size, 0, none⟩) 2 2, .int .i64 1, .slice (some ⟨w.heap.size + 1, 0, none⟩) 2 2, .int .i64 (-1)] ∧ Reads W W.heap.size 3 (some ⟨w.heap.size, 0, none⟩) 2 (cls rowW) := by
 intro W hW
 obtain ⟨W1, h1⟩ : ∃ W1, W1 = w.alloc (.cells #[.bool false, .int .i64 1, .string ⟨#[]⟩, .bool false, .int .i64 0, .string ⟨#[97]⟩] 23) := ⟨_, rfl⟩
 obtain ⟨W2, h2⟩ : ∃ W2, W2 = W1.alloc (.cells #[.bool false, .int .i64 (-2), .string ⟨#[]⟩, .bool false, .int .i64 0, .string ⟨#[97]⟩] 23) := ⟨_, rfl⟩
 obtain ⟨W3, h3⟩ : ∃ W3, W3 = W2.alloc (.cells #[.slice (some ⟨w.heap.size, 0, none⟩) 2 2, .int .i64 1, .slice (some ⟨w.heap.size + 1, 0, none⟩) 2 2, .int .i64 (-1)] 26) := ⟨_, rfl⟩
 rw [← h1, ← h2, ← h3] at hW
 have s1 : W1.heap.size = w.heap.size + 1 := by rw [h1]; simp
 have s2 : W2.heap.size = w.heap.size + 2 := by rw [h2]; simp [s1]
 have s3 : W3.heap.size = w.heap.size + 3 := by rw [h3]; simp [s2]
 have B1 : Blk W1 w.heap.size 23 #[.bool false, .int .i64 1, .string ⟨#[]⟩, .bool false, .int .i64 0, .string ⟨#[97]⟩] := by rw [h1]; exact Blk.new _ _ _
 have B2 : Blk W2 (w.heap.size + 1) 23 #[.bool false, .int .i64 (-2), .string ⟨#[]⟩, .bool false, .int .i64 0, .string ⟨#[97]⟩] := by rw [h2, ← s1]; exact Blk.new _ _ _
 have B3 : Blk W3 (w.heap.size + 2) 26 #[.slice (some ⟨w.heap.size, 0, none⟩) 2 2, .int .i64 1, .slice (some ⟨w.heap.size + 1, 0, none⟩) 2 2, .int .i64 (-1)] := by rw [h3, ← s2]; exact Blk.new _ _ _
 have B4 : Blk W (w.heap.size + 3) 30 #[.int .i64 3, .int .i64 300, .slice (some ⟨w.heap.size + 2, 0, none⟩) 2 2] := by rw [hW, ← s3]; exact Blk.new _ _ _
 have b3 : Below W3.heap.size W3 W := by rw [hW]; exact bal (Below.refl _ _) _
 have b2 : Below W2.heap.size W2 W := bon (by rw [h3]; exact bal (Below.refl _ _) _) b3
 have b1 : Below W1.heap.size W1 W := bon (by rw [h2]; exact bal (Below.refl _ _) _) b2
 have b0 : Below w.heap.size w W := bon (by rw [h1]; exact bal (Below.refl _ _) _) b1
 have r1 := (B1.on b1).readsN 3 2 (cls rowW) rfl rfl
 have r2 := (B2.on b2).readsN 3 2 (cls row2W) rfl rfl
 refine ⟨b0, ⟨[(some ⟨w.heap.size, 0, none⟩, 2, 2), (some ⟨w.heap.size + 1, 0, none⟩, 2, 2)], (B3.on b3).readsN 2 2 _ rfl rfl, ?_⟩, B4, B3.on b3, r1⟩
 exact (RowsAt.nil.snoc (h := (some ⟨w.heap.size, 0, none⟩, 2, 2)) (it := (rowW, 1)) r1 (Nat.le_refl 2) (show 2 ≤ maxLen by decide)).snoc (h := (some ⟨w.heap.size + 1, 0, none⟩, 2, 2)) (it := (row2W, -1)) r2 (Nat.le_refl 2) (show 2 ≤ maxLen by decide)
theorem decW1 : decB twoC [] = .error 3 := by kernel_rfl
theorem decW2 : decB twoC [0, 0, 0, 0] = .error 171 := by kernel_rfl
theorem decW3 : decB twoC ([77, 83, 2] ++ sumB (crcS [77, 83, 2])) = .error 171 := by kernel_rfl
theorem decW4 : decB twoC ([77, 83, 1] ++ sumB (crcS [77, 83, 1])) = .error 3 := by kernel_rfl
theorem decW5 : decB twoC ((hdW ++ [0]) ++ sumB (crcS (hdW ++ [0]))) = .error 30 := by kernel_rfl
theorem decW6 : decB twoC (xW.set 19 193) = .error 170 := by kernel_rfl
theorem decW7 : decB twoC xW = .ok (3, 300, itW) := by kernel_rfl
theorem pkW : pkV (batD xW) = (0, 3, 300, 2) := by kernel_rfl
set_option maxRecDepth 100000 in
set_option maxHeartbeats 4000000 in
theorem bworks_yes (w : World) (hT : Tab2 w.heap.size w) : Calls Tryz.prog 16 #[] w fun e w' => e = .returned (.bool true) ∧ Below w.heap.size w w' := by
 have HT := Lib.hid hT
 have Hm := Lib.hid (wk_mem w)
 obtain ⟨i0, hi0, hz0, hz1, hz2⟩ := info_parts u8_info
 clear hT
 go_enter Tryz.func16, Tryz.ntmps16
 go_wp2
 rw [show w.heap.size + 1 + 1 + 1 = w.heap.size + 3 from rfl, show w.heap.size + 1 + 1 = w.heap.size + 2 from rfl]
 generalize hW : ((((w.alloc (.cells #[.bool false, .int .i64 1, .string ⟨#[]⟩, .bool false, .int .i64 0, .string ⟨#[97]⟩] 23)).alloc (.cells #[.bool false, .int .i64 (-2), .string ⟨#[]⟩, .bool false, .int .i64 0, .string ⟨#[97]⟩] 23)).alloc (.cells #[.slice (some ⟨w.heap.size, 0, none⟩) 2 2, .int .i64 1, .slice (some ⟨w.heap.size + 1, 0, none⟩) 2 2, .int .i64 (-1)] 26)).alloc (.cells #[.int .i64 3, .int .i64 300, .slice (some ⟨w.heap.size + 2, 0, none⟩) 2 2] 30)) = W
 obtain ⟨m1, m2, m3, m4, m5⟩ := Hm.out W hW.symm
 have M1 := Lib.hid m1
 have M2 := Lib.hid m2
 have M3 := Lib.hid m3
 have M4 := Lib.hid m4
 have M5 := Lib.hid m5
 have HTW := Lib.hid (HT.out.on m1)
 clear m1 m2 m3 m4 m5 hW Hm
 have HL0 := Lib.hid (show ∀ w', Below W.heap.size W w' → w'.cell? ⟨w.heap.size + 3, 0, none⟩ = some (.int .i64 3) from fun w' h => (M3.out.on h).cell 0)
 have HL1 := Lib.hid (show ∀ w', Below W.heap.size W w' → w'.cell? ⟨w.heap.size + 3, 1, none⟩ = some (.int .i64 300) from fun w' h => (M3.out.on h).cell 1)
 have HL2 := Lib.hid (show ∀ w', Below W.heap.size W w' → w'.cell? ⟨w.heap.size + 3, 2, none⟩ = some (.slice (some ⟨w.heap.size + 2, 0, none⟩) 2 2) from fun w' h => (M3.out.on h).cell 2)
 have hS : Below W.heap.size W W.drew := (Below.refl _ _).drew
 refine wp_region_keep (fun w' => Below W.heap.size W w') [(1, false), (0, true), (2, true), (3, false), (4, false), (5, false), (6, false), (7, false)] (by kernel_rfl) (by kernel_rfl) (by kernel_rfl) (fun d _ _ _ _ h => by cases d <;> exact h) ?_
 refine held_pure (v := ?_) rfl rfl (by simp [Region.wanted, yielded]) hS ?_ ?_
 rotate_left
 ·intro w hw; have c0 := HL0.out w hw; have c1 := HL1.out w hw; have c2 := HL2.out w hw; clear hw; go_simp; try with_reducible rfl
 try simp only [Act.put, zpA, zpB, zpC]
 refine held_eff1 rfl (by simp [Region.wanted, yielded]) fun K hK => ?_
 go_simp
 with_reducible refine (two_any _).mono ?_
 rintro e w2 ⟨rfl, hr, hb2⟩
 have HS2 := Lib.hid (bon hS hb2)
 have HR := Lib.hid (show Reads w2 w2.heap.size 7 (some ⟨W.heap.size, 0, none⟩) 2 (cos twoC) from hr)
 clear hr hb2
 refine held_go hK (by exact HS2.out) fun hS => ?_
 clear hK K
 try simp only [Act.put, zpA, zpB, zpC]
 refine held_eff1 rfl (by simp [Region.wanted, yielded]) fun K hK => ?_
 go_simp
 with_reducible refine (benc_any (some ⟨W.heap.size, 0, none⟩) 2 2 twoC 3 300 (some ⟨w.heap.size + 2, 0, none⟩) 2 2 itW _ HR.out (by decide) (M2.out.on HS2.out) (by decide) (baOk_of (by decide) itW_ok) itW_ok (HTW.out.on HS2.out)).mono ?_
 rw [xW_enc]
 rintro e w3 ⟨hb3, ⟨-, Ax, cx, rfl, ho⟩ | ⟨h0, -⟩⟩
 case inr => exact absurd (by kernel_rfl) h0
 have HX := Lib.hid (own_reads ho)
 have HCx := Lib.hid (own_caps ho)
 have HS3 := Lib.hid (bon HS2.out hb3)
 clear hb3 ho
 rw [show xW.length = 20 from rfl] at *
 refine held_go hK (by exact HS3.out) fun hS => ?_
 clear hK K
 try simp only [Act.put, zpA, zpB, zpC]
 iterate 5
  refine held_pure (v := ?_) rfl rfl (by simp [Region.wanted, yielded]) hS ?_ ?_
  rotate_left
  ·intro w hw; go_simp; try with_reducible rfl
  try simp only [Act.put, zpA, zpB, zpC]
 refine held_end ?_
 have HK := Lib.hid (show ∀ w', Below w3.heap.size w3 w' → ∀ h, Reads w' w'.heap.size 1 (some ⟨h, 0, none⟩) 16 (u8s hdW) → WkB w Ax cx h w' from fun w' hb h hh => by
  have hWw := bon HS3.out hb
  exact ⟨bon M1.out hWw, M2.out.on hWw, M3.out.on hWw, M4.out.on hWw, M5.out.on hWw, HX.out.on hb, HCx.out, hh, HTW.out.on hWw⟩)
 clear M1 M2 M3 M4 M5 HS2 HR HL0 HL1 HL2 hS HX HCx HTW
 go_wp2_with fail
 have H := Lib.hid (HK.out _ (bal (Below.refl w3.heap.size w3) (.cells #[.int .u8 77, .int .u8 83, .int .u8 1, .int .u8 3, .int .u8 172, .int .u8 2, .int .u8 2, .int .u8 2, .int .u8 3, .int .u8 1, .int .u8 1, .int .u8 97, .int .u8 0, .int .u8 0, .int .u8 2, .int .u8 1] 5)) w3.heap.size (by exact reads_lit _ _ _ _ _ _ rfl rfl rfl))
 clear HK
 with_reducible refine (summed_any (some ⟨w3.heap.size, 0, none⟩) 16 16 hdW _ H.out.head (by decide) H.out.tab.ctab).mono ?_
 rintro e w4 ⟨A4, c4, rfl, -, -, q3, q4⟩
 have H := Lib.hid (H.out.on q4)
 have HQ := Lib.hid (own_reads q3)
 clear q3 q4
 go_wp2_with fail
 with_reducible refine (eq_yes Ax A4 20 cx 20 c4 xW (hdW ++ sumB (crcS hdW)) _ H.out.x HQ.out (by kernel_rfl)).mono ?_
 rintro e w5 ⟨rfl, rfl⟩
 clear HQ
 generalize w3.heap.size = hh at *
 go_wp2_with fail
 with_reducible refine (two_any _).mono ?_
 rintro e w6 ⟨rfl, hr, hb⟩
 have H := Lib.hid (H.out.on hb)
 have HR := Lib.hid hr
 clear hr hb
 go_wp2_with fail
 with_reducible refine (benc_any (some ⟨w4.heap.size, 0, none⟩) 2 2 twoC 0 0 none 0 0 [] _ HR.out (by decide) ItemsAt.nil (by decide) (baOk_of (by decide) (by simp [ItOk])) (by simp [ItOk]) H.out.tab).mono ?_
 rw [yW_enc]
 rintro e w7 ⟨hb7, ⟨-, Ay, cy, rfl, ho⟩ | ⟨h0, -⟩⟩
 case inr => exact absurd (by kernel_rfl) h0
 have H := Lib.hid (H.out.on hb7)
 have HY := Lib.hid (own_reads ho)
 clear hb7 ho HR
 rw [show yW.length = 11 from rfl] at *
 go_wp2_with fail
 have HY := Lib.hid (HY.out.al (.cells #[.int .u8 77, .int .u8 83, .int .u8 1, .int .u8 0, .int .u8 0, .int .u8 0, .int .u8 0] 5))
 have H := Lib.hid (H.out.al (.cells #[.int .u8 77, .int .u8 83, .int .u8 1, .int .u8 0, .int .u8 0, .int .u8 0, .int .u8 0] 5))
 with_reducible refine (summed_any (some ⟨w7.heap.size, 0, none⟩) 7 7 [77, 83, 1, 0, 0, 0, 0] _ (by exact reads_lit _ _ _ _ _ _ rfl rfl rfl) (by decide) H.out.tab.ctab).mono ?_
 rintro e w8 ⟨A8, c8, rfl, -, -, q3, q4⟩
 have H := Lib.hid (H.out.on q4)
 have HY := Lib.hid (HY.out.on q4)
 have HQ := Lib.hid (own_reads q3)
 clear q3 q4
 go_wp2_with fail
 with_reducible refine (eq_yes Ay A8 11 cy 11 c8 yW ([77, 83, 1, 0, 0, 0, 0] ++ sumB (crcS [77, 83, 1, 0, 0, 0, 0])) _ HY.out HQ.out (by kernel_rfl)).mono ?_
 rintro e w9 ⟨rfl, rfl⟩
 clear HQ HY
 have k2 := H.out.blk.cell 2
 have k0 := H.out.its_.cell 0
 go_wp2_with fail
 have H := Lib.hid (H.out.al (.cells #[.slice (some ⟨w.heap.size, 0, none⟩) 2 2, .int .i64 0] 26))
 with_reducible refine (brefused_yes 172 0 0 (some ⟨w8.heap.size, 0, none⟩) 1 1 [(rowW, 0)] _ (items_one (Blk.new _ _ _) H.out.row (Nat.le_refl 2) (show 2 ≤ maxLen by decide)) (by decide) (baOk_of (by decide) (okB_it _ (by kernel_rfl))) (okB_it _ (by kernel_rfl)) H.out.tab (by decide) (by kernel_rfl)).mono ?_
 rintro e w10 ⟨rfl, hb⟩
 have H := Lib.hid (H.out.on hb)
 clear hb k2 k0
 have k2 := H.out.blk.cell 2
 have k0 := H.out.its_.cell 0
 go_wp2_with fail
 have H := Lib.hid (H.out.al (.cells #[.slice (some ⟨w.heap.size, 0, none⟩) 1 2, .int .i64 1] 26))
 with_reducible refine (brefused_yes 100 0 0 (some ⟨w10.heap.size, 0, none⟩) 1 1 [([(false, 1, ⟨#[]⟩)], 1)] _ (items_one (Blk.new _ _ _) (show Reads _ _ 3 _ 1 (cls [(false, 1, ⟨#[]⟩)]) from H.out.row.head (k := 1) (by decide)) (show 1 ≤ 2 by decide) (show 2 ≤ maxLen by decide)) (by decide) (baOk_of (by decide) (okB_it _ (by kernel_rfl))) (okB_it _ (by kernel_rfl)) H.out.tab (by decide) (by kernel_rfl)).mono ?_
 rintro e w11 ⟨rfl, hb⟩
 have H := Lib.hid (H.out.on hb)
 clear hb k2 k0
 go_wp2_with fail
 with_reducible refine (brefused_yes 2 0 (-1) none 0 0 [] _ ItemsAt.nil (by decide) (baOk_of (by decide) (by simp [ItOk])) (by simp [ItOk]) H.out.tab (by decide) (by kernel_rfl)).mono ?_
 rintro e w12 ⟨rfl, hb⟩
 have H := Lib.hid (H.out.on hb)
 clear hb
 go_wp2_with fail
 with_reducible refine (two_any _).mono ?_
 rintro e w13 ⟨rfl, hr, hb⟩
 have H := Lib.hid (H.out.on hb)
 have HR := Lib.hid hr
 clear hr hb
 go_wp2_with fail
 with_reducible refine (bdec_any (some ⟨w12.heap.size, 0, none⟩) 2 2 twoC Ax 20 cx xW _ HR.out (by decide) H.out.x H.out.cap.1 H.out.cap.2 H.out.tab).mono ?_
 rw [decW7]
 rintro e w14 ⟨hb, I, k, d, rfl, hio⟩
 have H := Lib.hid (H.out.on hb)
 have HI := Lib.hid hio.at_
 obtain rfl : 2 = k := hio.len
 clear hb hio HR
 simp only
 have H := Lib.hid (H.out.al (.cells #[.int .i64 3, .int .i64 300, .slice I 2 d] 30))
 have k0 := H.out.blk.cell 0
 have k1 := H.out.blk.cell 1
 have k2 := H.out.blk.cell 2
 go_wp2_with fail
 with_reducible refine (bsame_any 3 300 (some ⟨w.heap.size + 2, 0, none⟩) 2 2 itW 3 300 I 2 d itW _ H.out.items (HI.out.al _) (by decide)).mono ?_
 rw [sameBa_self]
 rintro e w15 ⟨rfl, hb⟩
 have H := Lib.hid (H.out.on hb)
 clear hb k0 k1 k2 HI
 go_wp2_with fail
 with_reducible refine (bfails_yes 3 3 rfl none 0 0 [] _ Reads.none_ (by decide) (by decide) H.out.tab decW1).mono ?_
 rintro e w16 ⟨rfl, hb⟩
 have H := Lib.hid (H.out.on hb)
 clear hb
 go_wp2_with fail
 have H := Lib.hid (H.out.al (.cells #[.int .u8 0, .int .u8 0, .int .u8 0, .int .u8 0] 5))
 with_reducible refine (bfails_yes 171 171 rfl (some ⟨w16.heap.size, 0, none⟩) 4 4 [0, 0, 0, 0] _ (by exact reads_lit _ _ _ _ _ _ rfl rfl rfl) (by decide) (by decide) H.out.tab decW2).mono ?_
 rintro e w17 ⟨rfl, hb⟩
 have H := Lib.hid (H.out.on hb)
 clear hb
 go_wp2_with fail
 have H := Lib.hid (H.out.al (.cells #[.int .u8 77, .int .u8 83, .int .u8 2] 5))
 with_reducible refine (summed_any (some ⟨w17.heap.size, 0, none⟩) 3 3 [77, 83, 2] _ (by exact reads_lit _ _ _ _ _ _ rfl rfl rfl) (by decide) H.out.tab.ctab).mono ?_
 rintro e w18 ⟨A8, c8, rfl, q1, q2, q3, q4⟩
 have H := Lib.hid (H.out.on q4)
 have HQ := Lib.hid (own_reads q3)
 clear q3 q4
 go_wp2_with fail
 with_reducible refine (bfails_yes 171 171 rfl A8 7 c8 _ _ HQ.out q1 q2 H.out.tab decW3).mono ?_
 rintro e w19 ⟨rfl, hb⟩
 have H := Lib.hid (H.out.on hb)
 clear hb q1 q2 HQ
 go_wp2_with fail
 have H := Lib.hid (H.out.al (.cells #[.int .u8 77, .int .u8 83, .int .u8 1] 5))
 with_reducible refine (summed_any (some ⟨w19.heap.size, 0, none⟩) 3 3 [77, 83, 1] _ (by exact reads_lit _ _ _ _ _ _ rfl rfl rfl) (by decide) H.out.tab.ctab).mono ?_
 rintro e w20 ⟨A8, c8, rfl, q1, q2, q3, q4⟩
 have H := Lib.hid (H.out.on q4)
 have HQ := Lib.hid (own_reads q3)
 clear q3 q4
 go_wp2_with fail
 with_reducible refine (bfails_yes 3 3 rfl A8 7 c8 _ _ HQ.out q1 q2 H.out.tab decW4).mono ?_
 rintro e w21 ⟨rfl, hb⟩
 have H := Lib.hid (H.out.on hb)
 clear hb q1 q2 HQ
 go_wp2_with fail
 with_reducible refine (copyBytes_any Ax 20 cx xW _ H.out.x (by decide)).mono ?_
 rintro e w22 ⟨A9, c9, rfl, q1, q2, q3, q4⟩
 obtain ⟨g, rfl, hg, hg2, hcell, hfz⟩ := own_at q3 (by decide)
 have c1 := hcell 19 (.int .u8 129) (by kernel_rfl)
 have f1 := hfz 19
 have o9 := own_set q3 19 (by decide) (.int .u8 193)
 have H9 := Lib.hid (own_reads (show World.ownsRow _ _ _ 1 _ 20 (u8s (xW.set 19 193)) from o9))
 have H := Lib.hid (H.out.on (q4.setCell (p := ⟨g, 19, none⟩) hg (.int .u8 193)))
 clear hg hg2 hcell hfz o9 q3 q4
 go_wp2_with fail
 clear c1 f1
 have hbx : bits BinOp.xor IntKind.u8 129 64 = 193 := by kernel_rfl
 rw [hbx]
 clear hbx
 generalize w22.setCell ⟨g, 19, none⟩ (.int .u8 193) = w23 at *
 with_reducible refine (bpeek_any Ax 20 cx xW _ H.out.x H.out.cap.1 H.out.cap.2 H.out.tab).mono ?_
 rw [pkW]
 rintro e w24 ⟨rfl, hb⟩
 have H := Lib.hid (H.out.on hb)
 have H9 := Lib.hid (H9.out.on hb)
 clear hb
 simp only
 go_wp2_with fail
 with_reducible refine (copyBytes_any (some ⟨hh, 0, none⟩) 16 16 hdW _ H.out.head (by decide)).mono ?_
 rintro e w25 ⟨A25, c25, rfl, p1, p2, p3, p4⟩
 have HP := Lib.hid p4
 have HO := Lib.hid p3
 have hsz := p4.size
 clear p1 p2 p3 p4
 have hs1 : 16 + 1 ≤ maxLen := by decide
 have hs2 : (16 + 1) * 1 ≤ 70368744177664 := by decide
 go_wp2_with (at_builtin
              refine wpList_append_any _ rfl (.tmp 142) (.tmp 143) 35 rfl w24.heap.size 5 i0 (.int .u8 0) 1 1 Tryz.underlying35 hi0 hz0 hz1 hz2 rfl (by decide) A25 16 c25 _ rfl (HO.out.alloc _) (some ⟨_, 0, none⟩) 1 1 (u8s [0]) rfl (by exact reads_lit _ _ _ _ _ _ rfl rfl rfl) (u8s_one _) hs1 hs2 (by simp; omega) ?_
              intro A8 c8 w8 r1 r2 r3 r4 r5
              rw [← u8s_append] at r1
              have R1 := Lib.hid (own_reads r1)
              have R2 := Lib.hid ((bal HP.out _).trans r2)
              clear r1 r2 r3 r4 r5)
 have H := Lib.hid (H.out.on R2.out)
 have H9 := Lib.hid (H9.out.on R2.out)
 clear R2 HP HO hsz hs1 hs2
 with_reducible refine (summed_any A8 17 c8 (hdW ++ [0]) _ R1.out (by decide) H.out.tab.ctab).mono ?_
 rintro e w26 ⟨A26, c26, rfl, p1, p2, p3, p4⟩
 have H := Lib.hid (H.out.on p4)
 have H9 := Lib.hid (H9.out.on p4)
 have HQ := Lib.hid (own_reads p3)
 clear p3 p4 R1
 go_wp2_with fail
 with_reducible refine (bfails_yes 30 30 rfl A26 21 c26 _ _ HQ.out p1 p2 H.out.tab decW5).mono ?_
 rintro e w27 ⟨rfl, hb⟩
 have H := Lib.hid (H.out.on hb)
 have H9 := Lib.hid (H9.out.on hb)
 clear hb p1 p2 HQ
 go_wp2_with fail
 with_reducible refine (bfails_yes 170 170 rfl (some ⟨g, 0, none⟩) 20 c9 _ _ H9.out q1 q2 H.out.tab decW6).mono ?_
 rintro e w28 ⟨rfl, hb⟩
 have H := Lib.hid (H.out.on hb)
 clear hb q1 q2 H9
 go_wp2
 go_ret
 exact ⟨rfl, H.out.below⟩
end Go.Proofs.YtjpjalmilfgckaaGreatDoor
namespace Go.Proofs.YtjpjalmilfgckaaGreatDoor
def waitsB (md : Region.Mode) (ops : Array Oper) (k i : Nat) : Bool := match ops[k]? with
 | some o => o.after.any fun e => Region.binds md e && e.on == i
 | none => false
theorem not_waits {md : Region.Mode} {ops : Array Oper} {listed : Array Bool} {j i : Nat} (hj : j ∈ Region.ready md ops listed) (hi : listed.getD i true = false) : waitsB md ops j i = false := by
 obtain ⟨-, o, ho, hall⟩ := mem_ready.1 hj
 unfold waitsB
 rw [ho]
 simp only
 rw [Bool.eq_false_iff]
 intro h
 obtain ⟨e, he, hb⟩ := Array.any_eq_true'.1 h
 simp only [Bool.and_eq_true, beq_iff_eq] at hb
 have h1 := hall e he hb.1
 rw [hb.2] at h1
 rcases Nat.lt_or_ge i listed.size with h' | h'
 ·simp [h'] at hi h1
  rw [hi] at h1
  cases h1
 ·simp [Array.getElem?_eq_none h'] at h1
section
variable {P : Program} {md : Region.Mode} {ops : Array Oper} {Q : Exit → Act → World → Prop} {S S2 : World → Prop}
def usedUp (md : Region.Mode) (ops : Array Oper) (T : List Nat) (listed : Array Bool) : Prop := ∀ i ∈ T, ∃ k, listed.getD k false = true ∧ waitsB md ops k i = true
def wpAnyM (P : Program) (md : Region.Mode) (ops : Array Oper) (Q : Exit → Act → World → Prop) (S : World → Prop) (T : List Nat) : Nat → Array Bool → Act → World → Prop
 | 0, listed, a, w => Region.ready md ops listed = [] ∧ Q .normal a w
 | fuel + 1, listed, a, w => (usedUp md ops T listed ∧ wpAny P md ops Q (fuel + 1) listed a w) ∨
  ((Region.ready md ops listed = [] → Q .normal a w) ∧ ∀ i ∈ Region.ready md ops listed, wpOp P ops Q i (fun a' w' => S w' ∧ wpAnyM P md ops Q S T fuel (listed.setIfInBounds i true) a' w') a w)
theorem wpAny_of_phase {T : List Nat} : ∀ (fuel : Nat) (listed : Array Bool) (a : Act) (w : World), wpAnyM P md ops Q S T fuel listed a w → wpAny P md ops Q fuel listed a w
 | 0, _, _, _, h => h
 | _ + 1, _, _, _, .inl h => h.2
 | fuel + 1, _, _, _, .inr h => ⟨h.1, fun i hi => wpOp_mono (fun a' w' h' => wpAny_of_phase fuel _ a' w' h'.2) (h.2 i hi)⟩
theorem wpAnyM_first {T : List Nat} {i : Nat} {oi : Oper} {v : Value} (hi : ops[i]? = some oi) (hT : i ∈ T) (hs : Region.noSelect ops = true) (hQ : ∀ c a w, Q (.panic c) (a.put oi.dst v) w → Q (.panic c) a w) :
  ∀ (fuel : Nat) (listed : Array Bool) (a : Act) (w : World),
   (∀ j oj, ops[j]? = some oj → j ≠ i → listed.getD j true = false → (∀ e ∈ oj.after, Region.binds md e = true → e.on ≠ i) → oi.apart ops oj = true) →
   (∀ k, listed.getD k false = true → waitsB md ops k i = false) → i ∈ Region.ready md ops listed → YieldsIf P ops S oi v a → S w →
   wpAnyM P md ops Q S T fuel (listed.setIfInBounds i true) (a.put oi.dst v) w → wpAnyM P md ops Q S T (fuel + 1) listed a w := by
 have hsel := Region.noSelect_spec hs
 intro fuel
 induction fuel with
 | zero =>
  intro listed a w _ _ hr hy hS H
  refine .inr ⟨fun h => absurd (h ▸ hr) (by simp), fun j hj => ?_⟩
  by_cases hji : j = i
  ·subst hji
   exact hy.wpOp hi hS ⟨hS, H⟩
  ·exact absurd (H.1 ▸ ready_mono hj hji) (by simp)
 | succ fuel ih =>
  intro listed a w hfree hno hr hy hS H
  have hun := (mem_ready.1 hr).1
  refine .inr ⟨fun h => absurd (h ▸ hr) (by simp), fun j hj => ?_⟩
  by_cases hji : j = i
  ·subst hji
   exact hy.wpOp hi hS ⟨hS, H⟩
  ·rcases H with ⟨H, -⟩ | H
   ·exfalso
    obtain ⟨k, hk, hw⟩ := H i hT
    by_cases hki : i = k
    ·subst hki
     rw [not_waits hr hun] at hw
     cases hw
    ·rw [getD_set_ne false hki] at hk
     rw [hno k hk] at hw
     cases hw
   ·have h1 := H.2 j (ready_mono hj hji)
    have hjw := not_waits hj hun
    obtain ⟨hjun, oj, hoj, -⟩ := mem_ready.1 hj
    have hnot : ∀ e ∈ oj.after, Region.binds md e = true → e.on ≠ i := fun e he hb heq => by
     unfold waitsB at hjw
     rw [hoj] at hjw
     have : (oj.after.any fun e => Region.binds md e && e.on == i) = true := Array.any_eq_true'.2 ⟨e, he, by simp [hb, heq]⟩
     simp only at hjw
     rw [this] at hjw
     cases hjw
    have h2 := wpOp_putIf hoj (hfree j oj hoj hji hjun hnot) (fun cs b => hsel i oi cs b hi) (fun cs b => hsel j oj cs b hoj) hQ hy h1
    refine wpOp_mono (fun a' w' h3 => ⟨h3.2.1, ih (listed.setIfInBounds j true) a' w' (fun k ok hk hki hku hkn => ?_) (fun k hk => ?_) (ready_mono hr (Ne.symm hji)) h3.1 h3.2.1 ?_⟩) h2
    ·refine hfree k ok hk hki ?_ hkn
     by_cases hjk : j = k
     ·subst hjk; exact hjun
     ·rw [getD_set_ne true hjk] at hku; exact hku
    ·by_cases hjk : j = k
     ·subst hjk; exact hjw
     ·rw [getD_set_ne false hjk] at hk; exact hno k hk
    ·rw [Array.setIfInBounds_comm _ _ hji]
     exact h3.2.2
def wpPhase (P : Program) (ops : Array Oper) (Q : Exit → Act → World → Prop) (S : World → Prop) (X : Act → World → Prop) : List (Nat × Bool) → Act → World → Prop
 | [], a, w => X a w
 | (i, true) :: rest, a, w => ∃ o, ops[i]? = some o ∧ ∀ K : Act → World → Prop, (∀ a w, S w → wpPhase P ops Q S X rest a w → K a w) → if Region.wanted o (yielded ops a.tmps) then o.wp P a w K Q else K (a.put o.dst undef) w
 | (i, false) :: rest, a, w => ∃ o v, ops[i]? = some o ∧ YieldsIf P ops S o v a ∧ S w ∧ wpPhase P ops Q S X rest (a.put o.dst v) w
variable {X : Act → World → Prop}
theorem phase_pure {i : Nat} {o : Oper} {d : Tmp} {rest : List (Nat × Bool)} {a : Act} {w : World} {v : Value} (ho : ops[i]? = some o) (hd : o.dst = some d) (hw : Region.wanted o (yielded ops a.tmps) = true) (hS : S w)
  (hy : ∀ w, S w → (execOp a.eval o).run P w = .ok (.value v) w) (h : wpPhase P ops Q S X rest { tmps := a.tmps.setIfInBounds d v, defers := a.defers } w) : wpPhase P ops Q S X ((i, false) :: rest) a w :=
 ⟨o, v, ho, .inl ⟨hw, hy⟩, hS, by rw [hd]; exact h⟩
theorem phase_eff1 {i : Nat} {o : Oper} {rest : List (Nat × Bool)} {a : Act} {w : World} (ho : ops[i]? = some o) (hw : Region.wanted o (yielded ops a.tmps) = true)
  (h : ∀ K : Act → World → Prop, (∀ a w, S w → wpPhase P ops Q S X rest a w → K a w) → o.wp P a w K Q) : wpPhase P ops Q S X ((i, true) :: rest) a w :=
 ⟨o, ho, fun K hK => by rw [if_pos hw]; exact h K hK⟩
theorem phase_end {a : Act} {w : World} (h : X a w) : wpPhase P ops Q S X [] a w := h
def phaseB (md : Region.Mode) (ops : Array Oper) (T : List Nat) (l2 : List (Nat × Bool)) : List (Nat × Bool) → Array Bool → Bool
 | [], listed => (T.all fun i => (List.range ops.size).any fun k => listed.getD k false && waitsB md ops k i) && orderB md ops l2 listed
 | (i, true) :: rest, listed => Region.ready md ops listed == [i] && phaseB md ops T l2 rest (listed.setIfInBounds i true)
 | (i, false) :: rest, listed => T.contains i && Region.free md ops listed i && (Region.ready md ops listed).contains i && ((List.range ops.size).all fun k => !(listed.getD k false) || !(waitsB md ops k i)) && phaseB md ops T l2 rest (listed.setIfInBounds i true)
theorem waits_lt {k i : Nat} (h : waitsB md ops k i = true) : k < ops.size := by
 unfold waitsB at h
 split at h
 ·rename_i o ho
  exact (Array.getElem?_eq_some_iff.1 ho).1
 ·cases h
theorem wpAnyM_of_phase {T : List Nat} {l2 : List (Nat × Bool)} (hl2 : 0 < l2.length) (hs : Region.noSelect ops = true) (hQ : ∀ d v c a w, Q (.panic c) (Act.put a d v) w → Q (.panic c) a w) :
  ∀ (l : List (Nat × Bool)) (fuel : Nat) (listed : Array Bool) (a : Act) (w : World), l.length + l2.length ≤ fuel → phaseB md ops T l2 l listed = true → wpPhase P ops Q S (wpHeld P ops Q S2 l2) l a w → wpAnyM P md ops Q S T fuel listed a w := by
 intro l
 induction l with
 | nil =>
  intro fuel listed a w hf ho h
  obtain ⟨fuel, rfl⟩ : ∃ f, fuel = f + 1 := ⟨fuel - 1, by simp at hf; omega⟩
  simp only [phaseB, Bool.and_eq_true] at ho
  refine .inl ⟨fun i hi => ?_, wpAny_of_held _ _ _ _ (wpAnyH_of_held hs hQ l2 (fuel + 1) listed a w (by simp at hf; omega) ho.2 h)⟩
  have h1 := List.all_eq_true.1 ho.1 i hi
  obtain ⟨k, -, hk⟩ := List.any_eq_true.1 h1
  simp only [Bool.and_eq_true] at hk
  exact ⟨k, hk.1, hk.2⟩
 | cons x rest ih =>
  intro fuel listed a w hf ho h
  obtain ⟨i, b⟩ := x
  simp only [List.length_cons] at hf
  obtain ⟨fuel, rfl⟩ : ∃ f, fuel = f + 1 := ⟨fuel - 1, by omega⟩
  cases b with
  | true =>
   simp only [phaseB, Bool.and_eq_true, beq_iff_eq] at ho
   obtain ⟨o, hoi, hl⟩ := h
   refine .inr ⟨fun h0 => absurd (ho.1.symm.trans h0) (by simp), fun j hj => ?_⟩
   rw [ho.1] at hj
   obtain rfl : j = i := by simpa using hj
   unfold wpOp
   simp only [hoi]
   have := hl (fun a' w' => S w' ∧ wpAnyM P md ops Q S T fuel (listed.setIfInBounds j true) a' w') (fun a w hS h => ⟨hS, ih fuel _ a w (by omega) ho.2 h⟩)
   split at this
   ·rename_i hw
    simp only [hw, if_true]
    exact .inl this
   ·rename_i hw
    simp only [hw, if_false, Bool.false_eq_true]
    exact this
  | false =>
   simp only [phaseB, Bool.and_eq_true] at ho
   obtain ⟨⟨⟨⟨h1, h2⟩, h3⟩, h4⟩, h5⟩ := ho
   obtain ⟨o, v, hoi, hy, hS, hl⟩ := h
   refine wpAnyM_first hoi (by simpa using h1) hs (fun c a w => hQ _ _ c a w) fuel listed a w (Region.free_spec hoi h2) (fun k hk => ?_) (by simpa using h3) hy hS (ih fuel _ _ w (by omega) h5 hl)
   rcases hw : waitsB md ops k i with _ | _
   ·rfl
   ·have := List.all_eq_true.1 h4 k (List.mem_range.2 (waits_lt hw))
    rw [hk, hw] at this
    cases this
theorem wp_region_phase (S : World → Prop) (T : List Nat) (l : List (Nat × Bool)) (S2 : World → Prop) (l2 : List (Nat × Bool)) {id : Nat} {a : Act} {w : World} (hm : P.follows .mixedOrders = true) (hs : Region.noSelect ops = true)
  (ho : (Nat.blt 0 l2.length && l.length + l2.length == ops.size && phaseB .any ops T l2 l (Array.replicate ops.size false)) = true)
  (hQ : ∀ d v c a w, Q (.panic c) (Act.put a d v) w → Q (.panic c) a w)
  (h : wpPhase P ops Q S (wpHeld P ops Q S2 l2) l a w.drew) : (Code.region id ops true).wp P Q a w := by
 simp only [Bool.and_eq_true, beq_iff_eq] at ho
 exact wp_region_any hm (wpAny_of_phase _ _ _ _ (wpAnyM_of_phase (T := T) (by have := ho.1.1; simpa [Nat.blt_eq] using this) hs hQ l ops.size _ a _ (by omega) ho.2 h))
end
end Go.Proofs.YtjpjalmilfgckaaGreatDoor
