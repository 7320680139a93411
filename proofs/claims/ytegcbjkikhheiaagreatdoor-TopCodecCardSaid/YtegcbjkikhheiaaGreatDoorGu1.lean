/- Part 1 of the walks, merged: each text under its own heading. Conditions: none of its own; each lemma states what it asks. -/
import Derived.Test.YtegcbjkikhheiaaGreatDoorGm23
set_option linter.unusedVariables false
set_option linter.unusedSimpArgs false
namespace Go.Proofs.YtegcbjkikhheiaaGreatDoor
open Go.RowKit
set_option maxRecDepth 100000 in
set_option maxHeartbeats 4000000 in
theorem small_any (v s : Int) (I : Option Addr) (m d : Nat) (l : List It) (w : World) (hi : ItemsAt w w.heap.size I m l) (hm : m ≤ maxLen) (hok : ItOk l) :
    Calls Tryz.prog 13 #[.agg #[.int .i64 v, .int .i64 s, .slice I m d]] w fun e w' => ∃ A k c, e = .returned (.agg #[.int .i64 v, .int .i64 s, .slice A k c]) ∧ ItemsOwn w' w.heap.size A k c (cutl l) ∧ Below w.heap.size w w' := by
  obtain ⟨j0, hj0, hk0, hj1, hk2⟩ := info_parts cell_info
  obtain ⟨i0, hi0, hl0, hi1, hl2⟩ := info_parts item_info
  have Hi := Lib.hid hi
  have Hok := Lib.hid hok
  have hm63 : m ≤ 9223372036854775807 := by simp only [maxLen] at hm; omega
  have HB := Lib.hid (bal (bal (bal (Below.refl w.heap.size w) (.cells #[.int .i64 v, .int .i64 s, .slice I m d] 25)) (.cells #[.int .i64 0, .int .i64 0, .slice none 0 0] 25)) (.cells #[.int .i64 v, .int .i64 s, .slice none 0 0] 25))
  have B1 := Lib.hid (((Blk.new w 25 #[.int .i64 v, .int .i64 s, .slice I m d]).alloc (.cells #[.int .i64 0, .int .i64 0, .slice none 0 0] 25)).alloc (.cells #[.int .i64 v, .int .i64 s, .slice none 0 0] 25))
  have B2 := Lib.hid ((Blk.new (w.alloc (.cells #[.int .i64 v, .int .i64 s, .slice I m d] 25)) 25 #[.int .i64 0, .int .i64 0, .slice none 0 0]).alloc (.cells #[.int .i64 v, .int .i64 s, .slice none 0 0] 25))
  have B3 := Lib.hid (Blk.new ((w.alloc (.cells #[.int .i64 v, .int .i64 s, .slice I m d] 25)).alloc (.cells #[.int .i64 0, .int .i64 0, .slice none 0 0] 25)) 25 #[.int .i64 v, .int .i64 s, .slice none 0 0])
  rw [show (w.alloc (.cells #[.int .i64 v, .int .i64 s, .slice I m d] 25)).heap.size = w.heap.size + 1 by simp] at B2
  rw [show ((w.alloc (.cells #[.int .i64 v, .int .i64 s, .slice I m d] 25)).alloc (.cells #[.int .i64 0, .int .i64 0, .slice none 0 0] 25)).heap.size = w.heap.size + 2 by simp] at B3
  clear hi hm hok
  go_enter Tryz.func13, Tryz.ntmps13
  go_wp2
  rw [show w.heap.size + 1 + 1 = w.heap.size + 2 from rfl]
  go_loopw [4, 5] (fun u ix wr => ∃ (i : Nat) (A4 : Option Addr) (c4 : Nat), i ≤ m ∧ i ≤ 30 ∧ u = .slice A4 i c4 ∧ ix = .int .i64 (i : Int) ∧ Hid (ItemsOwn wr w.heap.size A4 i c4 (cutI l i)) ∧ Hid (Blk wr w.heap.size 25 #[.int .i64 v, .int .i64 s, .slice I m d]) ∧ Hid (Blk wr (w.heap.size + 1) 25 #[.int .i64 0, .int .i64 0, .slice none 0 0]) ∧ Hid (Blk wr (w.heap.size + 2) 25 #[.int .i64 v, .int .i64 s, .slice none 0 0]) ∧ Hid (Below w.heap.size w wr)) (fun _ ix _ => m - (intOf ix).toNat)
  case atStart => exact ⟨0, none, 0, Nat.zero_le _, by omega, rfl, rfl, Lib.hid ItemsOwn.nil, B1, B2, B3, HB⟩
  case round =>
    clear HB B1 B2 B3
    obtain ⟨i, A4, c4, hile, hi30, rfl, rfl, HIt, B1, B2, B3, HB⟩ := hrel
    have c2 := B1.out.cell 2
    by_cases hlt : i < m ∧ i < 30
    · obtain ⟨hlt1, hlt2⟩ := hlt
      have d1 : decide ((i : Int) < (m : Int)) = true := by simp; omega
      have d2 : decide ((i : Int) < 30) = true := by simp; omega
      have hii : (i : Int) < (m : Int) := by omega
      have hi1' : i + 1 ≤ m := hlt1
      have hi2' : i + 1 ≤ 30 := hlt2
      obtain ⟨ad, A', c', ⟨r, wt⟩, rfl, hbk, hit, h0, h1, hrow, hc1, hc2⟩ := (Hi.out.below HB.out).at_ hlt1
      simp only at h0 h1 hrow hc1
      have HR0 := Lib.hid (show ∀ w', Below wr.heap.size wr w' → w'.cell? (ad.add (i * 2)) = some (.slice A' r.length c') from fun w' h => (h.cell (World.block_lt_of_cell? _ _ h0)).trans h0)
      have HW := Lib.hid (show ∀ w', Below wr.heap.size wr w' → w'.cell? ⟨(ad.add (i * 2)).block, (ad.add (i * 2)).off + 1, none⟩ = some (.int .i64 wt) from fun w' h => (h.cell (World.block_lt_of_cell? _ _ h1)).trans h1)
      have Hrow := Lib.hid (hrow.more HB.out.size)
      have Hit := Lib.hid hit
      have hrl63 : r.length ≤ 9223372036854775807 := by simp only [maxLen] at hc2; omega
      have Hrk := Lib.hid (Hok.out _ (List.mem_of_getElem? hit)).1
      simp only at Hrk
      clear hit hrow hc1 hc2 h0 h1 hbk
      generalize hrl : r.length = rl at HR0 Hrow hrl63
      have Hrl := Lib.hid hrl
      clear hrl
      generalize wr = Wp at *
      go_wp2
      go_loopw [6, 7] (fun u jx WX => ∃ (k : Nat) (A10 : Option Addr) (c10 : Nat), k ≤ rl ∧ k ≤ 40 ∧ u = .slice A10 k c10 ∧ jx = .int .i64 (k : Int) ∧ Hid (WX.ownsRow Wp.heap.size 53 3 (.slice A10 k c10) k (cls (cutTo r k))) ∧ Hid (Below Wp.heap.size Wp WX)) (fun _ jx _ => rl - (intOf jx).toNat)
      case atStart => exact ⟨0, none, 0, Nat.zero_le _, by omega, rfl, rfl, Lib.hid (World.ownsRow_nil _ _ _ _), Lib.hid (Below.refl _ _)⟩
      case round =>
        clear c2
        obtain ⟨k, A10, c10, hk1, hk40, rfl, rfl, HO, HY⟩ := hrel
        have c2 := (B1.out.on HY.out).cell 2
        have h0 := HR0.out _ HY.out
        by_cases hkt : k < rl ∧ k < 40
        · obtain ⟨hkt1, hkt2⟩ := hkt
          have d3 : decide ((k : Int) < (rl : Int)) = true := by simp; omega
          have d4 : decide ((k : Int) < 40) = true := by simp; omega
          have hki : (k : Int) < (rl : Int) := by omega
          have hk1' : k + 1 ≤ rl := hkt1
          have hk2' : k + 1 ≤ 40 := hkt2
          obtain ⟨ad3, u, x, sx, rfl, hbk3, hx, g0', g1', g2'⟩ := cls_at (Hrow.out.on HY.out) hkt1
          have hsz : sx.size ≤ 9223372036854775807 := by have := (Hrk.out _ (List.mem_of_getElem? hx)).2.2; simp only [maxLen] at this; omega
          obtain ⟨mn, hmn⟩ : ∃ mn : Nat, mn = min sx.size 300 := ⟨_, rfl⟩
          have hmi : min (sx.size : Int) 300 = (mn : Int) := by omega
          have hms : mn ≤ sx.size := by omega
          have Hs := Lib.hid (show cutTo r (k + 1) = cutTo r k ++ [(u, x, sx.extract 0 mn)] by rw [cutTo_succ hx, hmn]; rfl)
          have hs1 : k + 1 ≤ maxLen := by simp only [maxLen]; omega
          have hs2 : (k + 1) * 32 ≤ 70368744177664 := by omega
          clear hx hbk3 hmn
          go_wp2_with (at_builtin
                       refine wpList_append_any _ rfl (.tmp 57) (.tmp 59) 54 rfl Wp.heap.size 53 j0 (.agg #[.bool false, .int .i64 0, .string ⟨#[]⟩]) 3 32 Tryz.underlying54 hj0 hk0 hj1 hk2 rfl (by decide) A10 k c10 _ rfl (own_below HO.out (((Below.refl _ wr).alloc (Nat.le_refl _) (.cells #[.bool u, .int .i64 x, .string (sx.extract 0 mn)] 53)).alloc (by simp) (.cells #[.bool u, .int .i64 x, .string (sx.extract 0 mn)] 53))) (some ⟨_, 0, none⟩) 1 1 (cls [(u, x, sx.extract 0 mn)]) rfl (by exact reads_cellb _ _ (by simp) _ _ _) (cls_one _) hs1 hs2 (Nat.le_trans HY.out.size (by simp; omega)) ?_
                       intro A8 c8 w8 r1 r2 r3 r4 r5
                       rw [← cls_append, ← Hs.out] at r1
                       have R1 := Lib.hid r1
                       have R2 := Lib.hid r2
                       clear r1 r2 r3 r4 r5)
          have HY8 := Lib.hid (((HY.out.alloc HY.out.size (.cells #[.bool u, .int .i64 x, .string (sx.extract 0 mn)] 53)).alloc (Nat.le_trans HY.out.size (by simp)) (.cells #[.bool u, .int .i64 x, .string (sx.extract 0 mn)] 53)).trans R2.out)
          go_roundw
          case rel => exact ⟨k + 1, A8, c8, hk1', hk2', rfl, by go_num, R1, HY8⟩
          case measure => simp [intOf]; omega
        · by_cases hkt1 : k < rl
          · have d3 : decide ((k : Int) < (rl : Int)) = true := by simp; omega
            have d4 : decide ((k : Int) < 40) = false := by simp; omega
            have Hall := Lib.hid (cutTo_all (r := r) (k := k) (by rw [Hrl.out]; omega))
            have HLw := Lib.hid HY.out
            have HBw := Lib.hid (bon HB.out HY.out)
            have B1w := Lib.hid (B1.out.on HY.out)
            have B3w := Lib.hid (B3.out.on HY.out)
            obtain ⟨hs3, g1, g2⟩ := HIt.out.below HY.out
            have G1 := Lib.hid (own_below g1 ((Below.refl wr.heap.size wr).alloc (Nat.le_refl _) (.cells #[.slice A10 k c10, .int .i64 wt] 56)))
            have G2 := Lib.hid (RowsOwn.below g2 ((Below.refl wr.heap.size wr).alloc (Nat.le_refl _) (.cells #[.slice A10 k c10, .int .i64 wt] 56)))
            have HOr := Lib.hid (own_below (own_mono HO.out HB.out.size) ((Below.refl wr.heap.size wr).alloc (Nat.le_refl _) (.cells #[.slice A10 k c10, .int .i64 wt] 56)))
            rw [Hall.out] at HOr
            have B1a := Lib.hid (B1w.out.alloc (.cells #[.slice A10 k c10, .int .i64 wt] 56))
            have B2a := Lib.hid ((B2.out.on HY.out).alloc (.cells #[.slice A10 k c10, .int .i64 wt] 56))
            have B3a := Lib.hid (B3w.out.alloc (.cells #[.slice A10 k c10, .int .i64 wt] 56))
            have HBa := Lib.hid (bal HBw.out (.cells #[.slice A10 k c10, .int .i64 wt] 56))
            have c2 := B1w.out.cell 2
            have hw := HW.out _ HY.out
            have hsa : i + 1 ≤ maxLen := by simp only [maxLen]; omega
            have hsb : (i + 1) * 32 ≤ 70368744177664 := by omega
            have hii : (i : Int) < (m : Int) := by omega
            clear g1 g2
            go_wp2_with (at_builtin
                         refine wpList_append_any _ rfl (.tmp 61) (.tmp 70) 23 rfl w.heap.size 56 i0 (.agg #[.slice none 0 0, .int .i64 0]) 2 32 Tryz.underlying23 hi0 hl0 hi1 hl2 rfl (by decide) A4 i c4 _ rfl G1.out (some ⟨_, 0, none⟩) 1 1 (itV (A10, k, c10) (cutr r, wt)) rfl (by exact reads_item _ _ rfl (A10, k, c10) (cutr r, wt)) (itV_one _ _) hsa hsb HBa.out.size ?_
                         intro A8 c8 w8 r1 r2 r3 r4 r5
                         have R1 := Lib.hid r1
                         have R2 := Lib.hid r2
                         have R3 := Lib.hid r3
                         clear r1 r2 r3 r4 r5)
            have B18 := Lib.hid (B1a.out.apart G1.out (by decide) R3.out)
            have B28 := Lib.hid (B2a.out.apart G1.out (by decide) R3.out)
            have B38 := Lib.hid (B3a.out.apart G1.out (by decide) R3.out)
            have HB8 := Lib.hid (HBa.out.trans R2.out)
            have HI8 := Lib.hid (items_app (hd := (A10, k, c10)) (it := (cutr r, wt)) G1.out G2.out HOr.out R3.out R1.out)
            have hcs := cutI_succ Hit.out
            rw [show cuti (r, wt) = (cutr r, wt) from rfl] at hcs
            rw [← hcs] at HI8
            clear hcs
            go_roundw
            case rel => exact ⟨i + 1, A8, c8, hi1', hi2', rfl, by go_num, HI8, B18, B28, B38, HB8⟩
            case measure => simp [intOf]; omega
          · have d3 : decide ((k : Int) < (rl : Int)) = false := by simp; omega
            have Hall := Lib.hid (cutTo_all (r := r) (k := k) (by rw [Hrl.out]; omega))
            have HLw := Lib.hid HY.out
            have HBw := Lib.hid (bon HB.out HY.out)
            have B1w := Lib.hid (B1.out.on HY.out)
            have B3w := Lib.hid (B3.out.on HY.out)
            obtain ⟨hs3, g1, g2⟩ := HIt.out.below HY.out
            have G1 := Lib.hid (own_below g1 ((Below.refl wr.heap.size wr).alloc (Nat.le_refl _) (.cells #[.slice A10 k c10, .int .i64 wt] 56)))
            have G2 := Lib.hid (RowsOwn.below g2 ((Below.refl wr.heap.size wr).alloc (Nat.le_refl _) (.cells #[.slice A10 k c10, .int .i64 wt] 56)))
            have HOr := Lib.hid (own_below (own_mono HO.out HB.out.size) ((Below.refl wr.heap.size wr).alloc (Nat.le_refl _) (.cells #[.slice A10 k c10, .int .i64 wt] 56)))
            rw [Hall.out] at HOr
            have B1a := Lib.hid (B1w.out.alloc (.cells #[.slice A10 k c10, .int .i64 wt] 56))
            have B2a := Lib.hid ((B2.out.on HY.out).alloc (.cells #[.slice A10 k c10, .int .i64 wt] 56))
            have B3a := Lib.hid (B3w.out.alloc (.cells #[.slice A10 k c10, .int .i64 wt] 56))
            have HBa := Lib.hid (bal HBw.out (.cells #[.slice A10 k c10, .int .i64 wt] 56))
            have c2 := B1w.out.cell 2
            have hw := HW.out _ HY.out
            have hsa : i + 1 ≤ maxLen := by simp only [maxLen]; omega
            have hsb : (i + 1) * 32 ≤ 70368744177664 := by omega
            have hii : (i : Int) < (m : Int) := by omega
            clear g1 g2
            go_wp2_with (at_builtin
                         refine wpList_append_any _ rfl (.tmp 61) (.tmp 70) 23 rfl w.heap.size 56 i0 (.agg #[.slice none 0 0, .int .i64 0]) 2 32 Tryz.underlying23 hi0 hl0 hi1 hl2 rfl (by decide) A4 i c4 _ rfl G1.out (some ⟨_, 0, none⟩) 1 1 (itV (A10, k, c10) (cutr r, wt)) rfl (by exact reads_item _ _ rfl (A10, k, c10) (cutr r, wt)) (itV_one _ _) hsa hsb HBa.out.size ?_
                         intro A8 c8 w8 r1 r2 r3 r4 r5
                         have R1 := Lib.hid r1
                         have R2 := Lib.hid r2
                         have R3 := Lib.hid r3
                         clear r1 r2 r3 r4 r5)
            have B18 := Lib.hid (B1a.out.apart G1.out (by decide) R3.out)
            have B28 := Lib.hid (B2a.out.apart G1.out (by decide) R3.out)
            have B38 := Lib.hid (B3a.out.apart G1.out (by decide) R3.out)
            have HB8 := Lib.hid (HBa.out.trans R2.out)
            have HI8 := Lib.hid (items_app (hd := (A10, k, c10)) (it := (cutr r, wt)) G1.out G2.out HOr.out R3.out R1.out)
            have hcs := cutI_succ Hit.out
            rw [show cuti (r, wt) = (cutr r, wt) from rfl] at hcs
            rw [← hcs] at HI8
            clear hcs
            go_roundw
            case rel => exact ⟨i + 1, A8, c8, hi1', hi2', rfl, by go_num, HI8, B18, B28, B38, HB8⟩
            case measure => simp [intOf]; omega
    · by_cases hlt1 : i < m
      · have d1 : decide ((i : Int) < (m : Int)) = true := by simp; omega
        have d2 : decide ((i : Int) < 30) = false := by simp; omega
        have hcl := cutI_all (l := l) (i := i) (by rw [Hi.out.len]; omega)
        rw [hcl] at HIt
        clear hcl
        have p0 := B3.out.cell 0
        have p1 := B3.out.cell 1
        have p2 := B3.out.cell 2
        have q0 := B3.out.frozen 0
        have q1 := B3.out.frozen 1
        have q2 := B3.out.frozen 2
        have r0 := B2.out.cell 0
        have r1 := B2.out.cell 1
        have r2 := B2.out.cell 2
        have s0 := B2.out.frozen 0
        have s1 := B2.out.frozen 1
        have s2 := B2.out.frozen 2
        go_wp2
        have H3a := B3.out.set_ 2 (.slice A4 i c4)
        have H2a := (((B2.out.far (p := ⟨w.heap.size + 2, 2, none⟩) (by show w.heap.size + 1 ≠ w.heap.size + 2; omega) (.slice A4 i c4)).set_ 0 (.int .i64 v)).set_ 1 (.int .i64 s)).set_ 2 (.slice A4 i c4)
        simp only [List.setIfInBounds_toArray, List.set_cons_zero, List.set_cons_succ] at H2a H3a
        have e0 := H2a.cell 0
        have e1 := H2a.cell 1
        have e2 := H2a.cell 2
        have HB2 := Lib.hid ((((HB.out.setCell (p := ⟨w.heap.size + 2, 2, none⟩) (by show w.heap.size ≤ w.heap.size + 2; omega) (.slice A4 i c4)).setCell (p := ⟨w.heap.size + 1, 0, none⟩) (by show w.heap.size ≤ w.heap.size + 1; omega) (.int .i64 v)).setCell (p := ⟨w.heap.size + 1, 1, none⟩) (by show w.heap.size ≤ w.heap.size + 1; omega) (.int .i64 s)).setCell (p := ⟨w.heap.size + 1, 2, none⟩) (by show w.heap.size ≤ w.heap.size + 1; omega) (.slice A4 i c4))
        have HIf := Lib.hid (((HIt.out.far B3.out (by decide) (by decide) 2 (.slice A4 i c4)).far (B2.out.far (p := ⟨w.heap.size + 2, 2, none⟩) (by show w.heap.size + 1 ≠ w.heap.size + 2; omega) (.slice A4 i c4)) (by decide) (by decide) 0 (.int .i64 v)).far ((B2.out.far (p := ⟨w.heap.size + 2, 2, none⟩) (by show w.heap.size + 1 ≠ w.heap.size + 2; omega) (.slice A4 i c4)).set_ 0 (.int .i64 v)) (by decide) (by decide) 1 (.int .i64 s))
        have HIg := Lib.hid (HIf.out.far (((B2.out.far (p := ⟨w.heap.size + 2, 2, none⟩) (by show w.heap.size + 1 ≠ w.heap.size + 2; omega) (.slice A4 i c4)).set_ 0 (.int .i64 v)).set_ 1 (.int .i64 s)) (by decide) (by decide) 2 (.slice A4 i c4))
        refine bodyPost_ret (v := .agg #[.int .i64 v, .int .i64 s, .slice A4 i c4]) (by simp [results, Tryz.results13, go_sem, e0, e1, e2]) rfl ?_
        exact ⟨A4, i, c4, rfl, HIg.out, HB2.out⟩
      · have d1 : decide ((i : Int) < (m : Int)) = false := by simp; omega
        have hcl := cutI_all (l := l) (i := i) (by rw [Hi.out.len]; omega)
        rw [hcl] at HIt
        clear hcl
        have p0 := B3.out.cell 0
        have p1 := B3.out.cell 1
        have p2 := B3.out.cell 2
        have q0 := B3.out.frozen 0
        have q1 := B3.out.frozen 1
        have q2 := B3.out.frozen 2
        have r0 := B2.out.cell 0
        have r1 := B2.out.cell 1
        have r2 := B2.out.cell 2
        have s0 := B2.out.frozen 0
        have s1 := B2.out.frozen 1
        have s2 := B2.out.frozen 2
        go_wp2
        have H3a := B3.out.set_ 2 (.slice A4 i c4)
        have H2a := (((B2.out.far (p := ⟨w.heap.size + 2, 2, none⟩) (by show w.heap.size + 1 ≠ w.heap.size + 2; omega) (.slice A4 i c4)).set_ 0 (.int .i64 v)).set_ 1 (.int .i64 s)).set_ 2 (.slice A4 i c4)
        simp only [List.setIfInBounds_toArray, List.set_cons_zero, List.set_cons_succ] at H2a H3a
        have e0 := H2a.cell 0
        have e1 := H2a.cell 1
        have e2 := H2a.cell 2
        have HB2 := Lib.hid ((((HB.out.setCell (p := ⟨w.heap.size + 2, 2, none⟩) (by show w.heap.size ≤ w.heap.size + 2; omega) (.slice A4 i c4)).setCell (p := ⟨w.heap.size + 1, 0, none⟩) (by show w.heap.size ≤ w.heap.size + 1; omega) (.int .i64 v)).setCell (p := ⟨w.heap.size + 1, 1, none⟩) (by show w.heap.size ≤ w.heap.size + 1; omega) (.int .i64 s)).setCell (p := ⟨w.heap.size + 1, 2, none⟩) (by show w.heap.size ≤ w.heap.size + 1; omega) (.slice A4 i c4))
        have HIf := Lib.hid (((HIt.out.far B3.out (by decide) (by decide) 2 (.slice A4 i c4)).far (B2.out.far (p := ⟨w.heap.size + 2, 2, none⟩) (by show w.heap.size + 1 ≠ w.heap.size + 2; omega) (.slice A4 i c4)) (by decide) (by decide) 0 (.int .i64 v)).far ((B2.out.far (p := ⟨w.heap.size + 2, 2, none⟩) (by show w.heap.size + 1 ≠ w.heap.size + 2; omega) (.slice A4 i c4)).set_ 0 (.int .i64 v)) (by decide) (by decide) 1 (.int .i64 s))
        have HIg := Lib.hid (HIf.out.far (((B2.out.far (p := ⟨w.heap.size + 2, 2, none⟩) (by show w.heap.size + 1 ≠ w.heap.size + 2; omega) (.slice A4 i c4)).set_ 0 (.int .i64 v)).set_ 1 (.int .i64 s)) (by decide) (by decide) 2 (.slice A4 i c4))
        refine bodyPost_ret (v := .agg #[.int .i64 v, .int .i64 s, .slice A4 i c4]) (by simp [results, Tryz.results13, go_sem, e0, e1, e2]) rfl ?_
        exact ⟨A4, i, c4, rfl, HIg.out, HB2.out⟩
end Go.Proofs.YtegcbjkikhheiaaGreatDoor
