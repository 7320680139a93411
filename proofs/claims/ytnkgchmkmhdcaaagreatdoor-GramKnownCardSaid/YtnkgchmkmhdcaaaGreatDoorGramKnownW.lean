/- The closed law GramKnown, walked. Conditions: none of its own; each lemma states what it asks. -/
import Derived.Test.YtnkgchmkmhdcaaaGreatDoorGk30
set_option linter.unusedVariables false
set_option linter.unusedSimpArgs false
namespace Go.Proofs.YtnkgchmkmhdcaaaGreatDoor
open Go.RowKit
theorem co_nil : CoOk [] := by simp [CoOk]
theorem it_nil : ItOk [] := by simp [ItOk]
theorem twoG_ok : CoOk twoG := by
  intro c hc
  simp only [twoG, List.mem_cons, List.not_mem_nil, or_false] at hc
  rcases hc with rfl | rfl <;> simp
/-- What the inmost loop keeps. -/
structure GnK (W0 : World) (k nl gt gb i : Nat) (A : Option Addr) (c : Nat) (wr : World) : Prop where
  below : Below W0.heap.size W0 wr
  tblk : Blk wr gt 45 #[.int .i64 0, .string ⟨#[]⟩, .int .i64 ((k : Int) + 1), .bool (nl == 1), .bool false, .int .i64 0, .string ⟨#[]⟩]
  box : Blk wr gb 30 #[.int .i64 300, .int .i64 9223372036854775807, .slice A i c]
  items : ItemsOwn wr W0.heap.size A i c (itK k nl i)
theorem GnK.on {W0 wr w' : World} {k nl gt gb i c : Nat} {A : Option Addr} (h : GnK W0 k nl gt gb i A c wr) (hb : Below wr.heap.size wr w') : GnK W0 k nl gt gb i A c w' :=
  ⟨bon h.below hb, h.tblk.on hb, h.box.on hb, h.items.below hb⟩
theorem GnK.cols {W0 wr : World} {k nl gt gb i c : Nat} {A : Option Addr} (h : GnK W0 k nl gt gb i A c wr) : Reads wr wr.heap.size 7 (some ⟨gt, 0, none⟩) 1 (cos (coK k nl)) := h.tblk.readsN 7 1 _ rfl rfl
set_option maxRecDepth 100000 in
set_option maxHeartbeats 8000000 in
theorem gramKnown_walk (w : World) (hT : Tab2 w.heap.size w) : Calls Tryz.prog 4 #[] w fun e w' => e = .returned (.bool true) ∧ Below w.heap.size w w' := by
  obtain ⟨i0, hi0, hl0, hi1, hl2⟩ := info_parts item_info
  have Hm := Lib.hid (kn_mem w hT)
  clear hT
  go_enter Tryz.func4, Tryz.ntmps4
  go_wp2
  rw [show w.heap.size + 1 + 1 + 1 + 1 + 1 = w.heap.size + 5 from rfl, show w.heap.size + 1 + 1 + 1 + 1 = w.heap.size + 4 from rfl, show w.heap.size + 1 + 1 + 1 = w.heap.size + 3 from rfl, show w.heap.size + 1 + 1 = w.heap.size + 2 from rfl]
  generalize hW : (((((w.alloc (.cells #[.bool false, .int .i64 0, .string ⟨#[]⟩, .bool false, .int .i64 1, .string ⟨#[]⟩, .bool false, .int .i64 0, .string ⟨#[]⟩] 23)).alloc (.cells #[.bool false, .int .i64 (-2147483648), .string ⟨#[]⟩, .bool false, .int .i64 2147483647, .string ⟨#[]⟩, .bool false, .int .i64 64, .string ⟨#[]⟩] 23)).alloc (.cells #[.bool false, .int .i64 (-9223372036854775808), .string ⟨#[]⟩, .bool false, .int .i64 9223372036854775807, .string ⟨#[]⟩, .bool false, .int .i64 (-64), .string ⟨#[]⟩] 23)).alloc (.cells #[.bool false, .int .i64 0, .string ⟨#[98]⟩, .bool false, .int .i64 0, .string ⟨#[]⟩, .bool false, .int .i64 0, .string ⟨#[98]⟩] 23)).alloc (.cells #[.bool false, .int .i64 0, .string ⟨#[255, 0]⟩, .bool false, .int .i64 0, .string ⟨#[]⟩, .bool false, .int .i64 0, .string ⟨#[98]⟩] 23)).alloc (.cells #[.slice (some ⟨w.heap.size, 0, none⟩) 3 3, .slice (some ⟨w.heap.size + 1, 0, none⟩) 3 3, .slice (some ⟨w.heap.size + 2, 0, none⟩) 3 3, .slice (some ⟨w.heap.size + 3, 0, none⟩) 3 3, .slice (some ⟨w.heap.size + 4, 0, none⟩) 3 3] 24) = W
  have H := Lib.hid (Hm.out W hW.symm)
  clear hW Hm
  go_loopw [2] (fun kv wr => ∃ k : Nat, k ≤ 5 ∧ kv = .int .i64 ((k + 1 : Nat) : Int) ∧ Hid (KnK w wr)) (fun kv _ => 6 - (intOf kv).toNat)
  case atStart => exact ⟨0, by omega, rfl, H⟩
  case round =>
    clear H
    obtain ⟨k, hk, rfl, H⟩ := hrel
    by_cases hk5 : k < 5
    · have d1 : decide (((k + 1 : Nat) : Int) < 6) = true := by simp; omega
      generalize wr = Wk at *
      go_wp2
      rw [show ((k + 1 : Nat) : Int) = (k : Int) + 1 from rfl]
      rw [show decide ((k : Int) + 1 < 6) = true from by simp; omega]
      go_loopw [3] (fun nv wr => ∃ nl : Nat, nl ≤ 2 ∧ nv = .int .i64 (nl : Int) ∧ Hid (KnK w wr)) (fun nv _ => 2 - (intOf nv).toNat)
      case atStart => exact ⟨0, by omega, rfl, H⟩
      case round =>
        clear H
        obtain ⟨nl, hnl, rfl, H⟩ := hrel
        by_cases hn2 : nl < 2
        · have d2 : decide ((nl : Int) < 2) = true := by simp; omega
          have hnb : ((nl : Int) == 1) = (nl == 1) := by
            rcases (show nl = 0 ∨ nl = 1 by omega) with rfl | rfl <;> rfl
          go_wp2
          generalize wr = W0 at *
          have HG := Lib.hid (show GnK W0 k nl W0.heap.size (W0.heap.size + 1) 0 none 0 ((W0.alloc (.cells #[.int .i64 0, .string ⟨#[]⟩, .int .i64 ((k : Int) + 1), .bool (nl == 1), .bool false, .int .i64 0, .string ⟨#[]⟩] 45)).alloc (.cells #[.int .i64 300, .int .i64 9223372036854775807, .slice none 0 0] 30)) from
            ⟨bal (bal (Below.refl _ _) _) _, (Blk.new _ _ _).alloc _, by
              have := Blk.new (W0.alloc (.cells #[.int .i64 0, .string ⟨#[]⟩, .int .i64 ((k : Int) + 1), .bool (nl == 1), .bool false, .int .i64 0, .string ⟨#[]⟩] 45)) 30 #[.int .i64 300, .int .i64 9223372036854775807, .slice none 0 0]
              rwa [show (W0.alloc (.cells #[.int .i64 0, .string ⟨#[]⟩, .int .i64 ((k : Int) + 1), .bool (nl == 1), .bool false, .int .i64 0, .string ⟨#[]⟩] 45)).heap.size = W0.heap.size + 1 by simp] at this, ItemsOwn.nil⟩)
          generalize (W0.alloc (.cells #[.int .i64 0, .string ⟨#[]⟩, .int .i64 ((k : Int) + 1), .bool (nl == 1), .bool false, .int .i64 0, .string ⟨#[]⟩] 45)).alloc (.cells #[.int .i64 300, .int .i64 9223372036854775807, .slice none 0 0] 30) = W2 at *
          obtain ⟨gb, hgb⟩ : ∃ gb, gb = W0.heap.size + 1 := ⟨_, rfl⟩
          obtain ⟨gt, hgt⟩ : ∃ gt, gt = W0.heap.size := ⟨_, rfl⟩
          rw [← hgb, ← hgt] at HG
          rw [← hgb, ← hgt]
          have hgtb : gt ≠ gb := by omega
          have hgb0 : W0.heap.size ≤ gb := by omega
          clear hgb hgt
          go_loopw [6] (fun iv wr => ∃ (i : Nat) (A9 : Option Addr) (c9 : Nat), i ≤ 20 ∧ iv = .int .i64 (i : Int) ∧ Hid (GnK W0 k nl gt gb i A9 c9 wr)) (fun iv _ => 20 - (intOf iv).toNat)
          case atStart => exact ⟨0, none, 0, by omega, rfl, HG⟩
          case round =>
            clear HG
            obtain ⟨i, A9, c9, hi, rfl, HG⟩ := hrel
            by_cases hi20 : i < 20
            · have d3 : decide ((i : Int) < 20) = true := by simp; omega
              obtain ⟨j, hj⟩ : ∃ j, j = i % 3 := ⟨_, rfl⟩
              have hj3 : j < 3 := by omega
              have hji : (i : Int) % 3 = (j : Int) := by omega
              have Hj := Lib.hid hj
              have HK := Lib.hid (H.out.on HG.out.below)
              have hd0 := HK.out.head hk5
              obtain ⟨q0, q1, q2⟩ := HK.out.cell hk5 hj3
              obtain ⟨u, x, st, hcl⟩ : ∃ u x st, cellG k j = (u, x, st) := ⟨_, _, _, rfl⟩
              rw [hcl] at q0 q1 q2
              simp only at q0 q1 q2
              have Hcl := Lib.hid hcl
              clear hj hcl
              have hcase : (nl = 1 ∧ i % 4 = 1) ∨ (nl = 1 ∧ i % 4 ≠ 1) ∨ nl = 0 := by omega
              rcases hcase with ⟨h1, h4⟩ | ⟨h1, h4⟩ | h1
              have t1 : (nl == 1) = true := by simpa using h1
              have t2 : ((i : Int) % 4 == 1) = true := by simp; omega
              have H1 := Lib.hid (And.intro h1 h4)
              clear h1 h4
              go_wp2
              have CB := Lib.hid (Blk.new wr 23 #[.bool true, .int .i64 0, .string ⟨#[]⟩])
              have HGw := Lib.hid (HG.out.on (bal (Below.refl _ _) (.cells #[.bool true, .int .i64 0, .string ⟨#[]⟩] 23)))
              generalize wr.alloc (.cells #[.bool true, .int .i64 0, .string ⟨#[]⟩] 23) = W9 at *
              obtain ⟨u2, x2, s2, hc2, hck⟩ : ∃ u2 x2 s2, Blk W9 wr.heap.size 23 #[.bool u2, .int .i64 x2, .string s2] ∧ cellK k nl i = (u2, x2, s2) := ⟨_, _, _, CB.out, by unfold cellK; rw [if_pos H1.out]⟩
              have CB2 := Lib.hid hc2
              have Hck := Lib.hid hck
              clear CB hc2 hck
              clear H1 t1 t2
              rotate_left
              have t1 : (nl == 1) = true := by simpa using h1
              have t2 : ((i : Int) % 4 == 1) = false := by simp; omega
              have H1 := Lib.hid (And.intro h1 h4)
              clear h1 h4
              go_wp2
              have CB := Lib.hid (Blk.new wr 23 #[.bool u, .int .i64 x, .string st])
              have HGw := Lib.hid (HG.out.on (bal (Below.refl _ _) (.cells #[.bool u, .int .i64 x, .string st] 23)))
              generalize wr.alloc (.cells #[.bool u, .int .i64 x, .string st] 23) = W9 at *
              obtain ⟨u2, x2, s2, hc2, hck⟩ : ∃ u2 x2 s2, Blk W9 wr.heap.size 23 #[.bool u2, .int .i64 x2, .string s2] ∧ cellK k nl i = (u2, x2, s2) := ⟨_, _, _, CB.out, by unfold cellK; rw [if_neg (fun h => H1.out.2 h.2), ← Hj.out, Hcl.out]⟩
              have CB2 := Lib.hid hc2
              have Hck := Lib.hid hck
              clear CB hc2 hck
              clear H1 t1 t2
              rotate_left
              have t1 : (nl == 1) = false := by simp; omega
              have H1 := Lib.hid h1
              clear h1
              go_wp2
              have CB := Lib.hid (Blk.new wr 23 #[.bool u, .int .i64 x, .string st])
              have HGw := Lib.hid (HG.out.on (bal (Below.refl _ _) (.cells #[.bool u, .int .i64 x, .string st] 23)))
              generalize wr.alloc (.cells #[.bool u, .int .i64 x, .string st] 23) = W9 at *
              obtain ⟨u2, x2, s2, hc2, hck⟩ : ∃ u2 x2 s2, Blk W9 wr.heap.size 23 #[.bool u2, .int .i64 x2, .string s2] ∧ cellK k nl i = (u2, x2, s2) := ⟨_, _, _, CB.out, by unfold cellK; rw [if_neg (fun h => by have := H1.out; omega), ← Hj.out, Hcl.out]⟩
              have CB2 := Lib.hid hc2
              have Hck := Lib.hid hck
              clear CB hc2 hck
              clear H1 t1
              rotate_left
              all_goals
                obtain ⟨gc, hgc⟩ : ∃ gc, gc = wr.heap.size := ⟨_, rfl⟩
                rw [← hgc] at CB2 ⊢
                have Hgc := Lib.hid hgc
                clear hgc
                have hS : Blk W9.drew gb 30 #[.int .i64 300, .int .i64 9223372036854775807, .slice A9 i c9] ∧ Blk W9.drew gc 23 #[.bool u2, .int .i64 x2, .string s2] := ⟨HGw.out.box, CB2.out⟩
                have HGw0 := Lib.hid HGw.out.below.size
                have HLb := Lib.hid (show ∀ w' : World, (Blk w' gb 30 #[.int .i64 300, .int .i64 9223372036854775807, .slice A9 i c9] ∧ Blk w' gc 23 #[.bool u2, .int .i64 x2, .string s2]) → w'.cell? ⟨gb, 2, none⟩ = some (.slice A9 i c9) from fun w' h => h.1.cell 2)
                have HC0 := Lib.hid (show ∀ w' : World, (Blk w' gb 30 #[.int .i64 300, .int .i64 9223372036854775807, .slice A9 i c9] ∧ Blk w' gc 23 #[.bool u2, .int .i64 x2, .string s2]) → w'.cell? ⟨gc, 0, none⟩ = some (.bool u2) from fun w' h => h.2.cell 0)
                have HC1 := Lib.hid (show ∀ w' : World, (Blk w' gb 30 #[.int .i64 300, .int .i64 9223372036854775807, .slice A9 i c9] ∧ Blk w' gc 23 #[.bool u2, .int .i64 x2, .string s2]) → w'.cell? ⟨gc, 1, none⟩ = some (.int .i64 x2) from fun w' h => h.2.cell 1)
                have HC2 := Lib.hid (show ∀ w' : World, (Blk w' gb 30 #[.int .i64 300, .int .i64 9223372036854775807, .slice A9 i c9] ∧ Blk w' gc 23 #[.bool u2, .int .i64 x2, .string s2]) → w'.cell? ⟨gc, 2, none⟩ = some (.string s2) from fun w' h => h.2.cell 2)
                refine wp_region_keep (fun w' => Blk w' gb 30 #[.int .i64 300, .int .i64 9223372036854775807, .slice A9 i c9] ∧ Blk w' gc 23 #[.bool u2, .int .i64 x2, .string s2]) [(0, false), (1, false), (2, false), (4, false), (5, false), (6, false), (7, false), (8, false), (9, false), (10, false), (3, true), (11, false), (12, true), (13, true), (14, false)] (by kernel_rfl) (by kernel_rfl) (by kernel_rfl) (fun d _ _ _ _ h => by cases d <;> exact h) ?_
                refine held_pure (v := ?_) rfl rfl (by simp [Region.wanted, yielded]) hS ?_ ?_
                rotate_left
                · intro w hw; go_simp; try with_reducible rfl
                try simp only [Act.put, List.setIfInBounds_toArray, List.set_cons_succ, List.set_cons_zero]
                refine held_pure (v := ?_) rfl rfl (by simp [Region.wanted, yielded]) hS ?_ ?_
                rotate_left
                · intro w hw; have c0 := HLb.out w hw; clear hw; go_simp; try with_reducible rfl
                try simp only [Act.put, List.setIfInBounds_toArray, List.set_cons_succ, List.set_cons_zero]
                refine held_pure (v := ?_) rfl rfl (by simp [Region.wanted, yielded]) hS ?_ ?_
                rotate_left
                · intro w hw; have c0 := HC0.out w hw; have c1 := HC1.out w hw; have c2 := HC2.out w hw; clear hw; go_simp; try with_reducible rfl
                try simp only [Act.put, List.setIfInBounds_toArray, List.set_cons_succ, List.set_cons_zero]
                refine held_pure (v := ?_) rfl rfl (by simp [Region.wanted, yielded]) hS ?_ ?_
                rotate_left
                · intro w hw; go_simp; try with_reducible rfl
                try simp only [Act.put, List.setIfInBounds_toArray, List.set_cons_succ, List.set_cons_zero]
                refine held_pure (v := ?_) rfl rfl (by simp [Region.wanted, yielded]) hS ?_ ?_
                rotate_left
                · intro w hw; go_simp; try with_reducible rfl
                try simp only [Act.put, List.setIfInBounds_toArray, List.set_cons_succ, List.set_cons_zero]
                refine held_pure (v := ?_) rfl rfl (by simp [Region.wanted, yielded]) hS ?_ ?_
                rotate_left
                · intro w hw; go_simp; try with_reducible rfl
                try simp only [Act.put, List.setIfInBounds_toArray, List.set_cons_succ, List.set_cons_zero]
                refine held_pure (v := ?_) rfl rfl (by simp [Region.wanted, yielded]) hS ?_ ?_
                rotate_left
                · intro w hw; go_simp; try with_reducible rfl
                try simp only [Act.put, List.setIfInBounds_toArray, List.set_cons_succ, List.set_cons_zero]
                refine held_pure (v := ?_) rfl rfl (by simp [Region.wanted, yielded]) hS ?_ ?_
                rotate_left
                · intro w hw; go_simp; try with_reducible rfl
                try simp only [Act.put, List.setIfInBounds_toArray, List.set_cons_succ, List.set_cons_zero]
                refine held_pure (v := ?_) rfl rfl (by simp [Region.wanted, yielded]) hS ?_ ?_
                rotate_left
                · intro w hw; go_simp; try with_reducible rfl
                try simp only [Act.put, List.setIfInBounds_toArray, List.set_cons_succ, List.set_cons_zero]
                refine held_pure (v := ?_) rfl rfl (by simp [Region.wanted, yielded]) hS ?_ ?_
                rotate_left
                · intro w hw; go_simp; rw [sh_run i hi20 w]; rfl
                try simp only [Act.put, List.setIfInBounds_toArray, List.set_cons_succ, List.set_cons_zero]
                clear HLb HC0 HC1 HC2
                obtain ⟨w9z, hwz⟩ : ∃ w9z, w9z = W9.heap.size := ⟨_, rfl⟩
                have HGw := Lib.hid (HGw.out.on (show Below W9.heap.size W9 (W9.alloc (.cells #[.bool u2, .int .i64 x2, .string s2] 23)).drew from (bal (Below.refl _ _) _).drew))
                have HRo := Lib.hid (show (W9.alloc (.cells #[.bool u2, .int .i64 x2, .string s2] 23)).drew.ownsRow W0.heap.size 23 3 (.slice (some ⟨W9.heap.size, 0, none⟩) 1 1) 1 (cls [(u2, x2, s2)]) from own_cell1 W9 W0.heap.size HGw0.out u2 x2 s2)
                have HS1 := Lib.hid (show Blk (W9.alloc (.cells #[.bool u2, .int .i64 x2, .string s2] 23)).drew gb 30 #[.int .i64 300, .int .i64 9223372036854775807, .slice A9 i c9] ∧ Blk (W9.alloc (.cells #[.bool u2, .int .i64 x2, .string s2] 23)).drew gc 23 #[.bool u2, .int .i64 x2, .string s2] from ⟨HGw.out.box, CB2.out.alloc _⟩)
                refine held_eff1 rfl (by simp [Region.wanted, yielded]) fun K hK => ?_
                go_simp
                refine held_go hK (by exact HS1.out) fun hS => ?_
                clear hK K
                try simp only [Act.put, List.setIfInBounds_toArray, List.set_cons_succ, List.set_cons_zero]
                rw [← hwz] at HRo ⊢
                clear hwz
                generalize (W9.alloc (.cells #[.bool u2, .int .i64 x2, .string s2] 23)).drew = W10 at *
                refine held_pure (v := ?_) rfl rfl (by simp [Region.wanted, yielded]) hS ?_ ?_
                rotate_left
                · intro w hw; go_simp; try with_reducible rfl
                try simp only [Act.put, List.setIfInBounds_toArray, List.set_cons_succ, List.set_cons_zero]
                have hsa : i + 1 ≤ maxLen := by simp only [maxLen]; omega
                have hsb : (i + 1) * 32 ≤ 70368744177664 := by omega
                have HGw := Lib.hid (HGw.out.on (bal (Below.refl W10.heap.size W10) (.cells #[.slice (some ⟨w9z, 0, none⟩) 1 1, .int .i64 (wtK i)] 26)))
                have HRo := Lib.hid (own_below HRo.out (bal (Below.refl W10.heap.size W10) (.cells #[.slice (some ⟨w9z, 0, none⟩) 1 1, .int .i64 (wtK i)] 26)))
                have HRi := Lib.hid (show Reads (W10.alloc (.cells #[.slice (some ⟨w9z, 0, none⟩) 1 1, .int .i64 (wtK i)] 26)) (W10.alloc (.cells #[.slice (some ⟨w9z, 0, none⟩) 1 1, .int .i64 (wtK i)] 26)).heap.size 2 (some ⟨W10.heap.size, 0, none⟩) 1 (itV (some ⟨w9z, 0, none⟩, 1, 1) ([(u2, x2, s2)], wtK i)) from reads_item _ _ rfl (some ⟨w9z, 0, none⟩, 1, 1) ([(u2, x2, s2)], wtK i))
                have HS2 := Lib.hid (And.intro (HS1.out.1.alloc (.cells #[.slice (some ⟨w9z, 0, none⟩) 1 1, .int .i64 (wtK i)] 26)) (HS1.out.2.alloc (.cells #[.slice (some ⟨w9z, 0, none⟩) 1 1, .int .i64 (wtK i)] 26)))
                refine held_eff1 rfl (by simp [Region.wanted, yielded]) fun K hK => ?_
                go_simp
                refine held_go hK (by exact HS2.out) fun hS => ?_
                clear hK K
                try simp only [Act.put, List.setIfInBounds_toArray, List.set_cons_succ, List.set_cons_zero]
                generalize W10.alloc (.cells #[.slice (some ⟨w9z, 0, none⟩) 1 1, .int .i64 (wtK i)] 26) = W11 at *
                obtain ⟨hs3, g1, g2⟩ := HGw.out.items
                have G1 := Lib.hid g1
                have G2 := Lib.hid g2
                clear g1 g2
                refine held_eff1 rfl (by simp [Region.wanted, yielded]) fun K hK => ?_
                refine wp_append_any _ (.tmp 69) (.tmp 80) 27 rfl W0.heap.size 26 i0 (.agg #[.slice none 0 0, .int .i64 0]) 2 32 Tryz.underlying27 hi0 hl0 hi1 hl2 rfl (by decide) A9 i c9 _ rfl G1.out (some ⟨_, 0, none⟩) 1 1 (itV (some ⟨w9z, 0, none⟩, 1, 1) ([(u2, x2, s2)], wtK i)) rfl HRi.out (itV_one _ _) hsa hsb HGw.out.below.size ?_
                intro A8 c8 w8 r1 r2 r3 r4 r5
                have HI8 := Lib.hid (items_app (hd := (some ⟨w9z, 0, none⟩, 1, 1)) (it := ([(u2, x2, s2)], wtK i)) G1.out G2.out HRo.out r3 r1)
                rw [show itK k nl i ++ [([(u2, x2, s2)], wtK i)] = itK k nl (i + 1) by rw [itK_succ, Hck.out]] at HI8
                have HT8 := Lib.hid (HGw.out.tblk.apart G1.out (by decide) r3)
                have HX8 := Lib.hid (HS2.out.1.apart G1.out (by decide) r3)
                have HC8 := Lib.hid (HS2.out.2.apart G1.out (by decide) r3)
                have HB8 := Lib.hid (HGw.out.below.trans r2)
                have HS8 := Lib.hid (And.intro HX8.out HC8.out)
                clear r1 r2 r3 r4 r5
                refine held_go hK (by exact HS8.out) fun hS => ?_
                clear hK K
                try simp only [Act.put, List.setIfInBounds_toArray, List.set_cons_succ, List.set_cons_zero]
                refine held_pure (v := ?_) rfl rfl (by simp [Region.wanted, yielded]) hS ?_ ?_
                rotate_left
                · intro w hw; go_simp; try with_reducible rfl
                try simp only [Act.put, List.setIfInBounds_toArray, List.set_cons_succ, List.set_cons_zero]
                refine held_end ?_
                clear HS1 HS2 HS8 HC8 HGw HGw0 HRo HRi G1 G2 hS CB2 Hck
                have e0 := HX8.out.cell 0
                have e1 := HX8.out.cell 1
                have e2 := HX8.out.cell 2
                have f2 := HX8.out.frozen 2
                clear e0 e1 e2 f2
                have q2 := HX8.out.cell 2
                have f2 := HX8.out.frozen 2
                have HG := Lib.hid (show GnK W0 k nl gt gb (i + 1) A8 c8 (w8.setCell ⟨gb, 2, none⟩ (.slice A8 (i + 1) c8)) from
                  ⟨HB8.out.setCell (p := ⟨gb, 2, none⟩) hgb0 _, HT8.out.far (p := ⟨gb, 2, none⟩) hgtb _, by
                    have := HX8.out.set_ 2 (.slice A8 (i + 1) c8)
                    simpa only [List.setIfInBounds_toArray, List.set_cons_zero, List.set_cons_succ] using this, HI8.out.far HX8.out (by decide) (by decide) 2 _⟩)
                have e0 := HG.out.box.cell 0
                have e1 := HG.out.box.cell 1
                have e2 := HG.out.box.cell 2
                obtain ⟨hE, hok⟩ := known_fits (k := k) (nl := nl) (n := i + 1) hk5 hn2 (by omega)
                have HE0 := Lib.hid hE
                have Hok := Lib.hid hok
                have hle := ((fits_iff _ _).1 hE).enc_le
                have hkc := HG.out.items.caps
                have hi1m : i + 1 ≤ maxLen := by simp only [maxLen]; omega
                clear hE hok HX8 HT8 HB8 HI8
                go_wp2_with fail
                generalize (w8.setCell ⟨gb, 2, none⟩ (.slice A8 (i + 1) c8)) = w12 at *
                clear q2 f2
                have HK := Lib.hid (H.out.on HG.out.below)
                with_reducible refine (benc_any (some ⟨gt, 0, none⟩) 1 1 (coK k nl) 300 9223372036854775807 A8 (i + 1) c8 (itK k nl (i + 1)) _ HG.out.cols (by decide) HG.out.items.at_ hi1m (baOk_of (by decide) Hok.out) Hok.out HK.out.tab).mono ?_
                rintro e w13 ⟨hb13, ⟨-, A13, c13, rfl, o13⟩ | ⟨h0, -⟩⟩
                case inr => exact absurd HE0.out h0
                obtain ⟨xs, hxs⟩ : ∃ xs, encA (coK k nl) (300, 9223372036854775807, itK k nl (i + 1)) = xs := ⟨_, rfl⟩
                rw [hxs] at o13 hle ⊢
                obtain ⟨el, hel⟩ : ∃ el, xs.length = el := ⟨_, rfl⟩
                rw [hel] at o13 hle ⊢
                have hcc := own_caps o13
                have Hcc := Lib.hid hcc
                have HX := Lib.hid (own_reads o13)
                replace HG := Lib.hid (HG.out.on hb13)
                replace HK := Lib.hid (HK.out.on hb13)
                clear o13 hb13 hxs hel e0 e1 e2 hcc
                obtain ⟨eh, heh⟩ : ∃ eh : Nat, eh = el / 2 := ⟨_, rfl⟩
                have hehw : IntKind.i64.wrap (eh : Int) = (eh : Int) := wrap_i64 eh (by omega)
                have hehi : (el : Int).tdiv 2 = (eh : Int) := by
                  rw [heh]
                  rfl
                have hel1 : eh ≤ el := by omega
                have hehc : eh ≤ c13 := by have := Hcc.out.1; omega
                have hehci : (eh : Int) ≤ (c13 : Int) := by omega
                have hc63 : c13 ≤ 9223372036854775807 := by have := Hcc.out.2; simp only [maxLen] at this; omega
                have HXh := Lib.hid (show Reads w13 w13.heap.size 1 A13 eh (u8s (xs.take eh)) by have := HX.out.head (k := eh) hel1; rwa [Nat.mul_one, u8s_take] at this)
                have HL0 := Lib.hid (show ∀ w', Below w13.heap.size w13 w' → w'.cell? ⟨gb, 0, none⟩ = some (.int .i64 300) from fun w' h => (HG.out.on h).box.cell 0)
                have HL1 := Lib.hid (show ∀ w', Below w13.heap.size w13 w' → w'.cell? ⟨gb, 1, none⟩ = some (.int .i64 9223372036854775807) from fun w' h => (HG.out.on h).box.cell 1)
                have HL2 := Lib.hid (show ∀ w', Below w13.heap.size w13 w' → w'.cell? ⟨gb, 2, none⟩ = some (.slice A8 (i + 1) c8) from fun w' h => (HG.out.on h).box.cell 2)
                clear heh
                go_wp2
                have hS : Below w13.heap.size w13 w13.drew := (Below.refl _ _).drew
                refine wp_region_keep (fun w' => Below w13.heap.size w13 w') [(0, false), (1, false), (2, false), (3, false), (4, false), (5, false), (6, true), (7, false), (8, false), (9, false), (10, false), (11, false), (12, false), (13, false), (14, false), (15, false), (16, false), (17, true), (18, false), (19, false), (20, false), (21, false), (22, false), (23, false), (24, true), (25, false), (26, false), (27, false), (28, false), (29, false), (30, false), (31, true), (32, false), (33, false)] (by kernel_rfl) (by kernel_rfl) (by kernel_rfl) (fun d _ _ _ _ h => by cases d <;> exact h) ?_
                refine held_pure (v := ?_) rfl rfl (by simp [Region.wanted, yielded]) hS ?_ ?_
                rotate_left
                · intro w hw; go_simp; try with_reducible rfl
                try simp only [Act.put, List.setIfInBounds_toArray, List.set_cons_succ, List.set_cons_zero]
                refine held_pure (v := ?_) rfl rfl (by simp [Region.wanted, yielded]) hS ?_ ?_
                rotate_left
                · intro w hw; go_simp; try with_reducible rfl
                try simp only [Act.put, List.setIfInBounds_toArray, List.set_cons_succ, List.set_cons_zero]
                refine held_pure (v := ?_) rfl rfl (by simp [Region.wanted, yielded]) hS ?_ ?_
                rotate_left
                · intro w hw; go_simp; try with_reducible rfl
                try simp only [Act.put, List.setIfInBounds_toArray, List.set_cons_succ, List.set_cons_zero]
                refine held_pure (v := ?_) rfl rfl (by simp [Region.wanted, yielded]) hS ?_ ?_
                rotate_left
                · intro w hw; go_simp; try with_reducible rfl
                try simp only [Act.put, List.setIfInBounds_toArray, List.set_cons_succ, List.set_cons_zero]
                refine held_pure (v := ?_) rfl rfl (by simp [Region.wanted, yielded]) hS ?_ ?_
                rotate_left
                · intro w hw; have c0 := HL0.out w hw; have c1 := HL1.out w hw; have c2 := HL2.out w hw; clear hw; go_simp; try with_reducible rfl
                try simp only [Act.put, List.setIfInBounds_toArray, List.set_cons_succ, List.set_cons_zero]
                refine held_pure (v := ?_) rfl rfl (by simp [Region.wanted, yielded]) hS ?_ ?_
                rotate_left
                · intro w hw; go_simp; try with_reducible rfl
                try simp only [Act.put, List.setIfInBounds_toArray, List.set_cons_succ, List.set_cons_zero]
                refine held_eff1 rfl (by simp [Region.wanted, yielded]) fun K hK => ?_
                go_simp
                with_reducible refine (gramDoes_walk (some ⟨gt, 0, none⟩) 1 1 (coK k nl) 300 9223372036854775807 A8 (i + 1) c8 (itK k nl (i + 1)) A13 el c13 xs _ (HG.out.on hS).cols (by decide) (by decide) (coK_ok hk5) (by decide) (by decide) (HG.out.on hS).items.at_ hkc.1 hkc.2 Hok.out (HX.out.on hS) Hcc.out.1 Hcc.out.2 (HK.out.on hS).tab).mono ?_
                rintro e w14 ⟨rfl, hb⟩
                have HS := Lib.hid (bon hS hb)
                clear hb
                refine held_go hK (by exact HS.out) fun hS => ?_
                clear hK K
                try simp only [Act.put, List.setIfInBounds_toArray, List.set_cons_succ, List.set_cons_zero]
                clear HS
                refine held_pure (v := ?_) rfl rfl (by simp [Region.wanted, yielded]) hS ?_ ?_
                rotate_left
                · intro w hw; go_simp; try with_reducible rfl
                try simp only [Act.put, List.setIfInBounds_toArray, List.set_cons_succ, List.set_cons_zero]
                refine held_pure (v := ?_) rfl rfl (by simp [Region.wanted, yielded]) hS ?_ ?_
                rotate_left
                · intro w hw; go_simp; try with_reducible rfl
                try simp only [Act.put, List.setIfInBounds_toArray, List.set_cons_succ, List.set_cons_zero]
                refine held_pure (v := ?_) rfl rfl (by simp [Region.wanted, yielded]) hS ?_ ?_
                rotate_left
                · intro w hw; go_simp; try with_reducible rfl
                try simp only [Act.put, List.setIfInBounds_toArray, List.set_cons_succ, List.set_cons_zero]
                refine held_pure (v := ?_) rfl rfl (by simp [Region.wanted, yielded]) hS ?_ ?_
                rotate_left
                · intro w hw; go_simp; try with_reducible rfl
                try simp only [Act.put, List.setIfInBounds_toArray, List.set_cons_succ, List.set_cons_zero]
                refine held_pure (v := ?_) rfl rfl (by simp [Region.wanted, yielded]) hS ?_ ?_
                rotate_left
                · intro w hw; have c0 := HL0.out w hw; have c1 := HL1.out w hw; have c2 := HL2.out w hw; clear hw; go_simp; try with_reducible rfl
                try simp only [Act.put, List.setIfInBounds_toArray, List.set_cons_succ, List.set_cons_zero]
                refine held_pure (v := ?_) rfl rfl (by simp [Region.wanted, yielded]) hS ?_ ?_
                rotate_left
                · intro w hw; go_simp; try with_reducible rfl
                try simp only [Act.put, List.setIfInBounds_toArray, List.set_cons_succ, List.set_cons_zero]
                refine held_pure (v := ?_) rfl rfl (by simp [Region.wanted, yielded]) hS ?_ ?_
                rotate_left
                · intro w hw; go_simp; try with_reducible rfl
                try simp only [Act.put, List.setIfInBounds_toArray, List.set_cons_succ, List.set_cons_zero]
                refine held_pure (v := ?_) rfl rfl (by simp [Region.wanted, yielded]) hS ?_ ?_
                rotate_left
                · intro w hw; go_simp; try with_reducible rfl
                try simp only [Act.put, List.setIfInBounds_toArray, List.set_cons_succ, List.set_cons_zero]
                refine held_pure (v := ?_) rfl rfl (by simp [Region.wanted, yielded]) hS ?_ ?_
                rotate_left
                · intro w hw; go_simp; try with_reducible rfl
                try simp only [Act.put, List.setIfInBounds_toArray, List.set_cons_succ, List.set_cons_zero]
                refine held_pure (v := ?_) rfl rfl (by simp [Region.wanted, yielded]) hS ?_ ?_
                rotate_left
                · intro w hw; go_simp; try with_reducible rfl
                try simp only [Act.put, List.setIfInBounds_toArray, List.set_cons_succ, List.set_cons_zero]
                refine held_eff1 rfl (by simp [Region.wanted, yielded]) fun K hK => ?_
                go_simp
                with_reducible refine (gramDoes_walk (some ⟨gt, 0, none⟩) 1 1 (coK k nl) 300 9223372036854775807 A8 (i + 1) c8 (itK k nl (i + 1)) A13 eh c13 (xs.take eh) _ (HG.out.on hS).cols (by decide) (by decide) (coK_ok hk5) (by decide) (by decide) (HG.out.on hS).items.at_ hkc.1 hkc.2 Hok.out (HXh.out.on hS) hehc Hcc.out.2 (HK.out.on hS).tab).mono ?_
                rintro e w15 ⟨rfl, hb⟩
                have HS := Lib.hid (bon hS hb)
                clear hb
                refine held_go hK (by exact HS.out) fun hS => ?_
                clear hK K
                try simp only [Act.put, List.setIfInBounds_toArray, List.set_cons_succ, List.set_cons_zero]
                clear HS
                refine held_pure (v := ?_) rfl rfl (by simp [Region.wanted, yielded]) hS ?_ ?_
                rotate_left
                · intro w hw; go_simp; try with_reducible rfl
                try simp only [Act.put, List.setIfInBounds_toArray, List.set_cons_succ, List.set_cons_zero]
                refine held_pure (v := ?_) rfl rfl (by simp [Region.wanted, yielded]) hS ?_ ?_
                rotate_left
                · intro w hw; go_simp; try with_reducible rfl
                try simp only [Act.put, List.setIfInBounds_toArray, List.set_cons_succ, List.set_cons_zero]
                refine held_pure (v := ?_) rfl rfl (by simp [Region.wanted, yielded]) hS ?_ ?_
                rotate_left
                · intro w hw; go_simp; try with_reducible rfl
                try simp only [Act.put, List.setIfInBounds_toArray, List.set_cons_succ, List.set_cons_zero]
                refine held_pure (v := ?_) rfl rfl (by simp [Region.wanted, yielded]) hS ?_ ?_
                rotate_left
                · intro w hw; go_simp; try with_reducible rfl
                try simp only [Act.put, List.setIfInBounds_toArray, List.set_cons_succ, List.set_cons_zero]
                refine held_pure (v := ?_) rfl rfl (by simp [Region.wanted, yielded]) hS ?_ ?_
                rotate_left
                · intro w hw; have c0 := HL0.out w hw; have c1 := HL1.out w hw; have c2 := HL2.out w hw; clear hw; go_simp; try with_reducible rfl
                try simp only [Act.put, List.setIfInBounds_toArray, List.set_cons_succ, List.set_cons_zero]
                refine held_pure (v := ?_) rfl rfl (by simp [Region.wanted, yielded]) hS ?_ ?_
                rotate_left
                · intro w hw; go_simp; try with_reducible rfl
                try simp only [Act.put, List.setIfInBounds_toArray, List.set_cons_succ, List.set_cons_zero]
                refine held_eff1 rfl (by simp [Region.wanted, yielded]) fun K hK => ?_
                go_simp
                with_reducible refine (gramEncodes_walk (some ⟨gt, 0, none⟩) 1 1 (coK k nl) 300 9223372036854775807 A8 (i + 1) c8 (itK k nl (i + 1)) A13 el c13 xs _ (HG.out.on hS).cols (by decide) (by decide) (coK_ok hk5) (by decide) (by decide) (HG.out.on hS).items.at_ hkc.1 hkc.2 Hok.out (HX.out.on hS) Hcc.out.1 Hcc.out.2 (HK.out.on hS).tab).mono ?_
                rintro e w16 ⟨rfl, hb⟩
                have HS := Lib.hid (bon hS hb)
                clear hb
                refine held_go hK (by exact HS.out) fun hS => ?_
                clear hK K
                try simp only [Act.put, List.setIfInBounds_toArray, List.set_cons_succ, List.set_cons_zero]
                clear HS
                refine held_pure (v := ?_) rfl rfl (by simp [Region.wanted, yielded]) hS ?_ ?_
                rotate_left
                · intro w hw; go_simp; try with_reducible rfl
                try simp only [Act.put, List.setIfInBounds_toArray, List.set_cons_succ, List.set_cons_zero]
                refine held_pure (v := ?_) rfl rfl (by simp [Region.wanted, yielded]) hS ?_ ?_
                rotate_left
                · intro w hw; go_simp; try with_reducible rfl
                try simp only [Act.put, List.setIfInBounds_toArray, List.set_cons_succ, List.set_cons_zero]
                refine held_pure (v := ?_) rfl rfl (by simp [Region.wanted, yielded]) hS ?_ ?_
                rotate_left
                · intro w hw; go_simp; try with_reducible rfl
                try simp only [Act.put, List.setIfInBounds_toArray, List.set_cons_succ, List.set_cons_zero]
                refine held_pure (v := ?_) rfl rfl (by simp [Region.wanted, yielded]) hS ?_ ?_
                rotate_left
                · intro w hw; go_simp; try with_reducible rfl
                try simp only [Act.put, List.setIfInBounds_toArray, List.set_cons_succ, List.set_cons_zero]
                refine held_pure (v := ?_) rfl rfl (by simp [Region.wanted, yielded]) hS ?_ ?_
                rotate_left
                · intro w hw; have c0 := HL0.out w hw; have c1 := HL1.out w hw; have c2 := HL2.out w hw; clear hw; go_simp; try with_reducible rfl
                try simp only [Act.put, List.setIfInBounds_toArray, List.set_cons_succ, List.set_cons_zero]
                refine held_pure (v := ?_) rfl rfl (by simp [Region.wanted, yielded]) hS ?_ ?_
                rotate_left
                · intro w hw; go_simp; try with_reducible rfl
                try simp only [Act.put, List.setIfInBounds_toArray, List.set_cons_succ, List.set_cons_zero]
                refine held_eff1 rfl (by simp [Region.wanted, yielded]) fun K hK => ?_
                go_simp
                with_reducible refine (gramDecodes_walk (some ⟨gt, 0, none⟩) 1 1 (coK k nl) 300 9223372036854775807 A8 (i + 1) c8 (itK k nl (i + 1)) A13 el c13 xs _ (HG.out.on hS).cols (by decide) (by decide) (coK_ok hk5) (by decide) (by decide) (HG.out.on hS).items.at_ hkc.1 hkc.2 Hok.out (HX.out.on hS) Hcc.out.1 Hcc.out.2 (HK.out.on hS).tab).mono ?_
                rintro e w17 ⟨rfl, hb⟩
                have HS := Lib.hid (bon hS hb)
                clear hb
                refine held_go hK (by exact HS.out) fun hS => ?_
                clear hK K
                try simp only [Act.put, List.setIfInBounds_toArray, List.set_cons_succ, List.set_cons_zero]
                clear HS
                refine held_pure (v := ?_) rfl rfl (by simp [Region.wanted, yielded]) hS ?_ ?_
                rotate_left
                · intro w hw; go_simp; try with_reducible rfl
                try simp only [Act.put, List.setIfInBounds_toArray, List.set_cons_succ, List.set_cons_zero]
                refine held_pure (v := ?_) rfl rfl (by simp [Region.wanted, yielded]) hS ?_ ?_
                rotate_left
                · intro w hw; go_simp; try with_reducible rfl
                try simp only [Act.put, List.setIfInBounds_toArray, List.set_cons_succ, List.set_cons_zero]
                refine held_end ?_
                replace HG := Lib.hid (HG.out.on hS)
                clear HL0 HL1 HL2 HX HXh hS HK
                go_wp2
                go_roundw
                case rel => exact ⟨i + 1, A8, c8, hi20, by go_num, HG⟩
                case measure => simp [intOf]; omega
            · have d3 : decide ((i : Int) < 20) = false := by simp; omega
              go_wp2
              go_roundw
              case rel => exact ⟨nl + 1, by omega, by go_num, Lib.hid (H.out.on HG.out.below)⟩
              case measure => simp [intOf]; omega
        · have d2 : decide ((nl : Int) < 2) = false := by simp; omega
          go_wp2
          go_roundw
          case rel => exact ⟨k + 1, by omega, by go_num, H⟩
          case measure => simp [intOf]; omega
    · have d1 : decide (((k + 1 : Nat) : Int) < 6) = false := by simp; omega
      go_wp2_with fail
      with_reducible refine (gworks_yes _ H.out.tab).mono ?_
      rintro e w1 ⟨rfl, hb⟩
      replace H := Lib.hid (H.out.on hb)
      clear hb
      go_wp2_with fail
      with_reducible refine (gramDoes_walk none 0 0 [] 0 0 none 0 0 [] none 0 0 [] _ Reads.none_ (by decide) (by decide) co_nil (by decide) (by decide) ItemsAt.nil (by decide) (by decide) it_nil Reads.none_ (by decide) (by decide) H.out.tab).mono ?_
      rintro e w2 ⟨rfl, hb⟩
      replace H := Lib.hid (H.out.on hb)
      clear hb
      go_wp2_with fail
      with_reducible refine (twoG_any _).mono ?_
      rintro e w3 ⟨rfl, hr, hb⟩
      have HR := Lib.hid hr
      replace H := Lib.hid (H.out.on hb)
      clear hr hb
      go_wp2_with fail
      with_reducible refine (gramDoes_walk (some ⟨w2.heap.size, 0, none⟩) 2 2 twoG 0 (-1) none 0 0 [] none 0 0 [] _ HR.out (by decide) (by decide) twoG_ok (by decide) (by decide) ItemsAt.nil (by decide) (by decide) it_nil Reads.none_ (by decide) (by decide) H.out.tab).mono ?_
      rintro e w4 ⟨rfl, hb⟩
      replace H := Lib.hid (H.out.on hb)
      clear hb HR
      go_wp2_with fail
      with_reducible refine (twoG_any _).mono ?_
      rintro e w5 ⟨rfl, hr, hb⟩
      have HR := Lib.hid hr
      replace H := Lib.hid (H.out.on hb)
      clear hr hb
      go_wp2_with fail
      have HL := Lib.hid (show Reads (w5.alloc (.cells #[.int .u8 77, .int .u8 83, .int .u8 1, .int .u8 0, .int .u8 0, .int .u8 0, .int .u8 0, .int .u8 1, .int .u8 2, .int .u8 3, .int .u8 4] 5)) (w5.alloc (.cells #[.int .u8 77, .int .u8 83, .int .u8 1, .int .u8 0, .int .u8 0, .int .u8 0, .int .u8 0, .int .u8 1, .int .u8 2, .int .u8 3, .int .u8 4] 5)).heap.size 1 (some ⟨w5.heap.size, 0, none⟩) 11 (u8s [77, 83, 1, 0, 0, 0, 0, 1, 2, 3, 4]) from reads_lit _ _ _ _ _ _ rfl rfl rfl)
      with_reducible refine (gramDoes_walk (some ⟨w4.heap.size, 0, none⟩) 2 2 twoG 0 0 none 0 0 [] (some ⟨w5.heap.size, 0, none⟩) 11 11 [77, 83, 1, 0, 0, 0, 0, 1, 2, 3, 4] _ (HR.out.al _) (by decide) (by decide) twoG_ok (by decide) (by decide) ItemsAt.nil (by decide) (by decide) it_nil HL.out (by decide) (by decide) (H.out.al _).tab).mono ?_
      rintro e w6 ⟨rfl, hb⟩
      replace H := Lib.hid ((H.out.al _).on hb)
      go_wp2
      go_ret
      exact ⟨rfl, H.out.below⟩
end Go.Proofs.YtnkgchmkmhdcaaaGreatDoor
