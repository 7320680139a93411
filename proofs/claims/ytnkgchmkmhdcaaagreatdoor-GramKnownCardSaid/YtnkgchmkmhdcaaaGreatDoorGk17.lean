/- Part 17 of the walks, merged: each text under its own heading. Conditions: none of its own; each lemma states what it asks. -/
import Derived.Test.YtnkgchmkmhdcaaaGreatDoorGk11
import Derived.Test.YtnkgchmkmhdcaaaGreatDoorGk14
import Derived.Test.YtnkgchmkmhdcaaaGreatDoorGk15
import Derived.Test.YtnkgchmkmhdcaaaGreatDoorGk16
import Derived.Deep.Fields
import Derived.Lib.LaidIn
import Derived.Lib.LaidU8T
import GoSem.PinnedTables
set_option linter.unusedVariables false
set_option linter.unusedSimpArgs false
namespace Go.Proofs.YtnkgchmkmhdcaaaGreatDoor
open Go.RowKit
theorem col_info : (Tryz.prog.info? 45).map (fun i => (i.zero, i.size, i.bytes)) = some (some (.agg #[.int .i64 0, .string ⟨#[]⟩, .int .i64 0, .bool false, .bool false, .int .i64 0, .string ⟨#[]⟩]), 7, 72) := by kernel_rfl
set_option maxRecDepth 100000 in
set_option maxHeartbeats 400000 in
theorem copyCols_any (A : Option Addr) (n c : Nat) (l : List Co) (w : World) (hr : Reads w w.heap.size 7 A n (cos l)) (hn : n ≤ 1048576) :
  Calls Tryz.prog 100 #[.slice A n c] w fun e w' => ∃ A' c', e = .returned (.slice A' n c') ∧ n ≤ c' ∧ c' ≤ maxLen ∧ w'.ownsRow w.heap.size 45 7 (.slice A' n c') n (cos l) ∧ Below w.heap.size w w' := by
 obtain ⟨i0, hi0, hz0, hz1, hz2⟩ := info_parts col_info
 go_enter Tryz.func100, Tryz.ntmps100
 go_wp2_with (at_builtin
              refine wpList_append_any _ rfl (.tmp 4) (.tmp 5) 32 rfl w.heap.size 45 i0 (.agg #[.int .i64 0, .string ⟨#[]⟩, .int .i64 0, .bool false, .bool false, .int .i64 0, .string ⟨#[]⟩]) 7 72 Tryz.underlying32 hi0 hz0 hz1 hz2 rfl (by decide) none 0 0 [] rfl (World.ownsRow_nil _ _ _ _) A n c (cos l) rfl hr (cos_one l) (by simp only [maxLen]; omega) (by omega) (Nat.le_refl _) ?_
              intro A2 c2 w2 hown2 hb2 hg2 hc2 hm2
              simp only [Nat.zero_add, List.nil_append] at hown2 hc2)
 go_ret
 exact ⟨A2, c2, by simp, hc2, hm2, hown2, hb2⟩
set_option maxRecDepth 100000 in
set_option maxHeartbeats 1000000 in
theorem rmayC_any (A : Option Addr) (n c : Nat) (cs : List Co) (w : World) (hr : Reads w w.heap.size 7 A n (cos cs)) (hn : n ≤ maxLen) :
  Calls Tryz.prog 126 #[.slice A n c] w fun e w' => e = .returned (.bool (mayCs cs)) ∧ Below w.heap.size w w' := by
 have Hr := Lib.hid hr
 have Hl := Lib.hid (cos_len hr)
 have hn63 : n ≤ 9223372036854775807 := by simp only [maxLen] at hn; omega
 clear hr hn
 go_enter Tryz.func126, Tryz.ntmps126
 go_wp2
 go_loopw [3] (fun i wr => ∃ k : Nat, k ≤ n ∧ i = .int .i64 (k : Int) ∧ Hid (∀ j c, j < k → cs[j]? = some c → oddC c = false) ∧ Hid (Below w.heap.size w wr)) (fun i _ => n - (intOf i).toNat)
 case atStart => exact ⟨0, Nat.zero_le _, rfl, Lib.hid (fun j c h => by omega), Lib.hid (Below.refl _ _)⟩
 case round =>
  obtain ⟨k, hk, rfl, HN, HB⟩ := hrel
  by_cases hlt : k < n
  ·obtain ⟨ad, co, rfl, hbk, hco, hat⟩ := cos_at (Hr.out.below HB.out) hlt
   have h2 := hat.c2
   have h3 := hat.c3
   have Hco := Lib.hid hco
   have hki : (k : Int) < (n : Int) := by omega
   clear hco hat
   go_wp2_with fail
   with_reducible refine (rmay_any co.2.2.1 co.2.2.2.1 _).mono ?_
   rintro e w1 ⟨rfl, hb1⟩
   have HB2 := Lib.hid (bon HB.out hb1)
   clear hb1 h2 h3 hbk
   cases hm : mayK co.2.2.1 with
   | true =>
    have HN2 := Lib.hid (show ∀ j c, j < k + 1 → cs[j]? = some c → oddC c = false from fun j c hj hc => by
     rcases Nat.lt_or_ge j k with h | h
     ·exact HN.out j c h hc
     ·obtain rfl : j = k := by omega
      rw [Hco.out] at hc
      cases hc
      simp [oddC, hm])
    clear hm
    go_wp2
    go_roundw
    case rel => exact ⟨k + 1, by omega, by go_num, HN2, HB2⟩
    case measure => simp [intOf]; omega
   | false =>
    have HE := Lib.hid (show mayCs cs = false by
     have h1 : cs.any oddC = true := List.any_eq_true.2 ⟨co, List.mem_of_getElem? Hco.out, by simp [oddC, hm]⟩
     rw [mayCs_eq, h1]
     simp)
    clear hm
    go_wp2
    go_ret
    exact ⟨by rw [HE.out]; rfl, HB2.out⟩
  ·obtain rfl : n = k := by omega
   have HE := Lib.hid (show mayCs cs = decide (1 ≤ n ∧ n ≤ 32) by
    have h1 : cs.any oddC = false := by
     rw [List.any_eq_false]
     intro c hc
     obtain ⟨j, hj⟩ := List.getElem?_of_mem hc
     have := HN.out j c (by have := (List.getElem?_eq_some_iff.1 hj).1; rw [Hl.out] at this; exact this) hj
     simp [this]
    rw [mayCs_eq, h1, Hl.out]
    simp)
   by_cases h1 : 1 ≤ n
   ·by_cases h2 : n ≤ 32
    ·have d1 : decide ((1 : Int) ≤ (n : Int)) = true := by simp; omega
     have d2 : decide ((n : Int) ≤ 32) = true := by simp; omega
     have HE := Lib.hid (show mayCs cs = true by rw [HE.out]; simp [h1, h2])
     go_wp2
     go_ret
     exact ⟨by rw [HE.out]; rfl, HB.out⟩
    ·have d1 : decide ((1 : Int) ≤ (n : Int)) = true := by simp; omega
     have d2 : decide ((n : Int) ≤ 32) = false := by simp; omega
     have HE := Lib.hid (show mayCs cs = false by rw [HE.out]; simp [h2])
     go_wp2
     go_ret
     exact ⟨by rw [HE.out]; rfl, HB.out⟩
   ·have d1 : decide ((1 : Int) ≤ (n : Int)) = false := by simp; omega
    have HE := Lib.hid (show mayCs cs = false by rw [HE.out]; simp [h1])
    go_wp2
    go_ret
    exact ⟨by rw [HE.out]; rfl, HB.out⟩
set_option maxRecDepth 100000 in
set_option maxHeartbeats 1000000 in
theorem rrow_any (A : Option Addr) (n c : Nat) (cs : List Co) (B : Option Addr) (m d : Nat) (r : List Cl) (w : World) (hr : Reads w w.heap.size 7 A n (cos cs)) (hr2 : Reads w w.heap.size 3 B m (cls r)) (hm : m ≤ maxLen) (hok : ClOk r) :
  Calls Tryz.prog 138 #[.slice A n c, .slice B m d] w fun e w' => e = .returned (.int .i64 (rowE cs r)) ∧ Below w.heap.size w w' := by
 have Hr := Lib.hid hr
 have Hr2 := Lib.hid hr2
 have Hok := Lib.hid hok
 have Hlc := Lib.hid (cos_len hr)
 have Hlr := Lib.hid (cls_len hr2)
 have hm63 : m ≤ 9223372036854775807 := by simp only [maxLen] at hm; omega
 clear hr hr2 hok hm
 by_cases hmn : n = m
 ·have HEr := Lib.hid (show rowE cs r = cellsE cs r by unfold rowE; rw [if_pos (by rw [Hlr.out, Hlc.out, hmn])])
  subst hmn
  go_enter Tryz.func138, Tryz.ntmps138
  go_wp2
  go_loopw [5] (fun i wr => ∃ k : Nat, k ≤ n ∧ i = .int .i64 (k : Int) ∧ Hid (cellsE cs r = cellsE (cs.drop k) (r.drop k)) ∧ Hid (Below w.heap.size w wr)) (fun i _ => n - (intOf i).toNat)
  case atStart => exact ⟨0, Nat.zero_le _, rfl, Lib.hid rfl, Lib.hid (Below.refl _ _)⟩
  case round =>
   obtain ⟨k, hk, rfl, HE, HB⟩ := hrel
   by_cases hlt : k < n
   ·obtain ⟨ad, co, rfl, hbk, hco, hat⟩ := cos_at (Hr.out.below HB.out) hlt
    obtain ⟨ad2, u, x, s, rfl, hbk2, hx, g0, g1, g2⟩ := cls_at (Hr2.out.below HB.out) hlt
    have h2 := hat.c2
    have h3 := hat.c3
    have HD := Lib.hid (cellsE_drop cs r k co (u, x, s) hco hx)
    have Hx9 := Hok.out (u, x, s) (List.mem_of_getElem? hx)
    have Hx9 := Lib.hid (show K9 x from ⟨Hx9.1, Hx9.2.1⟩)
    have hki : (k : Int) < (n : Int) := by omega
    have HL2 := Lib.hid (show ∀ w', Below wr.heap.size wr w' → w'.cell? ⟨(ad.add (k * 7)).block, (ad.add (k * 7)).off + 2, none⟩ = some (.int .i64 co.2.2.1) from fun w' h => (h.cell (p := ⟨(ad.add (k * 7)).block, (ad.add (k * 7)).off + 2, none⟩) (World.block_lt_of_cell? _ _ h2)).trans h2)
    have HL3 := Lib.hid (show ∀ w', Below wr.heap.size wr w' → w'.cell? ⟨(ad.add (k * 7)).block, (ad.add (k * 7)).off + 2 + 1, none⟩ = some (.bool co.2.2.2.1) from fun w' h => (h.cell (p := ⟨(ad.add (k * 7)).block, (ad.add (k * 7)).off + 3, none⟩) (World.block_lt_of_cell? _ _ h3)).trans h3)
    have HV0 := Lib.hid (show ∀ w', Below wr.heap.size wr w' → w'.cell? (ad2.add (k * 3)) = some (.bool u) from fun w' h => (h.cell (World.block_lt_of_cell? _ _ g0)).trans g0)
    have HV1 := Lib.hid (show ∀ w', Below wr.heap.size wr w' → w'.cell? ⟨(ad2.add (k * 3)).block, (ad2.add (k * 3)).off + 1, none⟩ = some (.int .i64 x) from fun w' h => (h.cell (World.block_lt_of_cell? _ _ g1)).trans g1)
    have HV2 := Lib.hid (show ∀ w', Below wr.heap.size wr w' → w'.cell? ⟨(ad2.add (k * 3)).block, (ad2.add (k * 3)).off + 2, none⟩ = some (.string s) from fun w' h => (h.cell (World.block_lt_of_cell? _ _ g2)).trans g2)
    clear hco hat hx h2 h3 g0 g1 g2 hbk hbk2
    go_wp2
    have hS : Below wr.heap.size wr wr.drew := (Below.refl _ _).drew
    generalize hk7 : ad.add (k * 7) = ak at *
    refine wp_region_keep (fun w' => Below wr.heap.size wr w') [(0, false), (1, false), (2, false), (3, false), (4, false), (5, false), (6, false), (7, false), (8, false), (9, true), (10, false)] (by kernel_rfl) (by kernel_rfl) (by kernel_rfl) (fun d _ _ _ _ h => by cases d <;> exact h) ?_
    iterate 4
     refine held_pure (v := ?_) rfl rfl (by simp [Region.wanted, yielded]) hS ?_ ?_
     rotate_left
     ·intro w hw; go_simp; try with_reducible rfl
     try simp only [Act.put, zpA, zpB, zpC]
    refine held_pure (v := ?_) rfl rfl (by simp [Region.wanted, yielded]) hS ?_ ?_
    rotate_left
    ·intro w hw; have c0 := HL2.out w hw; have c1 := HL3.out w hw; clear hw; go_simp; try with_reducible rfl
    try simp only [Act.put, zpA, zpB, zpC]
    iterate 3
     refine held_pure (v := ?_) rfl rfl (by simp [Region.wanted, yielded]) hS ?_ ?_
     rotate_left
     ·intro w hw; go_simp; try with_reducible rfl
     try simp only [Act.put, zpA, zpB, zpC]
    refine held_pure (v := ?_) rfl rfl (by simp [Region.wanted, yielded]) hS ?_ ?_
    rotate_left
    ·intro w hw; have c0 := HV0.out w hw; have c1 := HV1.out w hw; have c2 := HV2.out w hw; clear hw; go_simp; try with_reducible rfl
    try simp only [Act.put, zpA, zpB, zpC]
    refine held_eff1 rfl (by simp [Region.wanted, yielded]) fun K hK => ?_
    go_simp
    with_reducible refine (rcheck_any3 co.2.2.1 co.2.2.2.1 u x s _ Hx9.out).mono ?_
    rintro e w5 ⟨rfl, hb5⟩
    have HB5 := Lib.hid (bon HB.out (bon hS hb5))
    refine held_go hK (by exact bon hS hb5) fun hS => ?_
    clear hK K
    try simp only [Act.put, zpA, zpB, zpC]
    clear hb5
    refine held_pure (v := ?_) rfl rfl (by simp [Region.wanted, yielded]) hS ?_ ?_
    rotate_left
    ·intro w hw; go_simp; try with_reducible rfl
    try simp only [Act.put, zpA, zpB, zpC]
    refine held_end ?_
    clear hS
    by_cases hz : checkE co.2.2.1 co.2.2.2.1 (u, x, s) = 0
    ·have HE2 := Lib.hid (show cellsE cs r = cellsE (cs.drop (k + 1)) (r.drop (k + 1)) by rw [HE.out, HD.out, if_pos hz])
     generalize checkE co.2.2.1 co.2.2.2.1 (u, x, s) = E0 at hz ⊢
     subst hz
     go_wp2
     go_roundw
     case rel => exact ⟨k + 1, by omega, by go_num, HE2, HB5⟩
     case measure => simp [intOf]; omega
    ·have HE2 := Lib.hid (show checkE co.2.2.1 co.2.2.2.1 (u, x, s) = rowE cs r by rw [HEr.out, HE.out, HD.out, if_neg hz])
     rw [HE2.out] at hz ⊢
     have hzb : (rowE cs r != 0) = true := by simpa using hz
     clear hz
     go_wp2
     go_ret
     exact ⟨rfl, HB5.out⟩
   ·obtain rfl : n = k := by omega
    have HE2 := Lib.hid (show rowE cs r = 0 by rw [HEr.out, HE.out]; have := cellsE_end cs r; rw [Hlr.out] at this; exact this)
    go_wp2
    go_ret
    exact ⟨by rw [HE2.out]; rfl, HB.out⟩
 ·have HE := Lib.hid (show rowE cs r = 100 by unfold rowE; rw [if_neg (by rw [Hlr.out, Hlc.out]; omega)])
  have db : ((m : Int) != (n : Int)) = true := by simp; omega
  have db2 : (m != n) = true := by simp; omega
  go_enter Tryz.func138, Tryz.ntmps138
  go_wp2
  go_ret
  exact ⟨by rw [HE.out]; rfl, Below.refl _ _⟩
end Go.Proofs.YtnkgchmkmhdcaaaGreatDoor
namespace Go.Proofs.YtnkgchmkmhdcaaaGreatDoor
open Go.RowKit
set_option maxRecDepth 100000 in
set_option maxHeartbeats 2000000 in
theorem rcheck17_any (A : Option Addr) (n c : Nat) (cs : List Co) (v s : Int) (I : Option Addr) (m d : Nat) (l : List It) (w : World) (hr : Reads w w.heap.size 7 A n (cos cs)) (hn : n ≤ maxLen) (hi : ItemsAt w w.heap.size I m l) (hm : m ≤ maxLen) (hok : ItOk l) :
  Calls Tryz.prog 101 #[.slice A n c, .agg #[.int .i64 v, .int .i64 s, .slice I m d]] w fun e w' => e = .returned (.int .i64 (batE cs (v, s, l))) ∧ Below w.heap.size w w' := by
 have Hr := Lib.hid hr
 have Hi := Lib.hid hi
 have Hok := Lib.hid hok
 have Hl := Lib.hid hi.len
 have Hn := Lib.hid hn
 have Hm := Lib.hid hm
 have hm63 : m ≤ 9223372036854775807 := by simp only [maxLen] at hm; omega
 have B1 := Lib.hid (Blk.new w 30 #[.int .i64 v, .int .i64 s, .slice I m d])
 have HB := Lib.hid ((Below.refl _ w).alloc (Nat.le_refl _) (.cells #[.int .i64 v, .int .i64 s, .slice I m d] 30))
 clear hr hi hok hn hm
 go_enter Tryz.func101, Tryz.ntmps101
 go_wp2_with fail
 with_reducible refine (rmayC_any A n c cs _ (Hr.out.on HB.out) Hn.out).mono ?_
 rintro e w1 ⟨rfl, hb1⟩
 have B1 := Lib.hid (B1.out.on hb1)
 have HB := Lib.hid (bon HB.out hb1)
 clear hb1
 have c0 := B1.out.cell 0
 have c1 := B1.out.cell 1
 have c2 := B1.out.cell 2
 by_cases hb : baB cs (v, s, l) = true
 ·have hbb := hb
  unfold baB at hbb
  simp only [Bool.and_eq_true, decide_eq_true_eq] at hbb
  obtain ⟨hmay, hv0, hv1, hs0⟩ := hbb
  have HE0 := Lib.hid (show batE cs (v, s, l) = if 1048576 < l.length then 5 else itemsE cs l by unfold batE; rw [if_pos hb])
  rw [hmay]
  have d1 : decide (v < 0) = false := by simpa using hv0
  have d2 : decide (2147483647 < v) = false := by simpa using hv1
  have d3 : decide (s < 0) = false := by simpa using hs0
  clear hmay hb
  by_cases hM : m ≤ 1048576
  ·have d4 : decide ((1048576 : Int) < (m : Int)) = false := by simp; omega
   have d5 : decide (1048576 < m) = false := by simp; omega
   have HE0 := Lib.hid (show batE cs (v, s, l) = itemsE cs l by rw [HE0.out, if_neg (by rw [Hl.out]; omega)])
   go_wp2
   clear c0 c1 c2 d1 d2 d3 hv0 hv1 hs0
   go_loopw [5] (fun i wr => ∃ k : Nat, k ≤ m ∧ i = .int .i64 (k : Int) ∧ Hid (itemsE cs l = itemsE cs (l.drop k)) ∧ Hid (Blk wr w.heap.size 30 #[.int .i64 v, .int .i64 s, .slice I m d]) ∧ Hid (Below w.heap.size w wr)) (fun i _ => m - (intOf i).toNat)
   case atStart => exact ⟨0, Nat.zero_le _, rfl, Lib.hid rfl, B1, HB⟩
   case round =>
    obtain ⟨k, hk, rfl, HE, BL, HL⟩ := hrel
    have c2 := BL.out.cell 2
    by_cases hlt : k < m
    ·obtain ⟨ad, A', c', it, rfl, hbk, hit, h0, h1, hrow, hc1, hc2⟩ := (Hi.out.below HL.out).at_ hlt
     have HD := Lib.hid (itemsE_drop cs l k it hit)
     have Hrow := Lib.hid (hrow.more HL.out.size)
     have Hc := Lib.hid (Nat.le_trans hc1 hc2)
     have HitK := Lib.hid (Hok.out it (List.mem_of_getElem? hit)).1
     have hki : (k : Int) < (m : Int) := by omega
     have hlt1 := World.block_lt_of_cell? _ _ h1
     clear hit hrow hc1 hc2
     generalize hrl : it.1.length = rl at *
     clear hrl
     go_wp2_with fail
     with_reducible refine (rrow_any A n c cs A' rl c' it.1 _ (Hr.out.on HL.out) Hrow.out Hc.out HitK.out).mono ?_
     rintro e w3 ⟨rfl, hb3⟩
     have HB3 := Lib.hid (bon HL.out hb3)
     have B3 := Lib.hid (BL.out.on hb3)
     have h1' := (hb3.cell (p := ⟨(ad.add (k * 2)).block, (ad.add (k * 2)).off + 1, none⟩) hlt1).trans h1
     clear hb3 h0 h1 hbk c2
     by_cases hz : rowE cs it.1 = 0
     ·have HD := Lib.hid (show itemsE cs (l.drop k) = if it.2 = 0 then 172 else itemsE cs (l.drop (k + 1)) by rw [HD.out, if_pos hz])
      generalize rowE cs it.1 = E0 at hz ⊢
      subst hz
      have c2 := B3.out.cell 2
      by_cases hw0 : it.2 = 0
      ·have HX := Lib.hid (show batE cs (v, s, l) = 172 by rw [HE0.out, HE.out, HD.out, if_pos hw0])
       generalize it.2 = W0 at *
       subst hw0
       go_wp2
       go_ret
       exact ⟨by rw [HX.out]; rfl, HB3.out⟩
      ·have HX := Lib.hid (show itemsE cs l = itemsE cs (l.drop (k + 1)) by rw [HE.out, HD.out, if_neg hw0])
       have dw : (it.2 == 0) = false := by simpa using hw0
       generalize it.2 = W0 at *
       clear hw0
       go_wp2
       go_roundw
       case rel => exact ⟨k + 1, by omega, by go_num, HX, B3, HB3⟩
       case measure => simp [intOf]; omega
     ·have HX := Lib.hid (show rowE cs it.1 = batE cs (v, s, l) by rw [HE0.out, HE.out, HD.out, if_neg hz])
      rw [HX.out] at hz ⊢
      have hzb : (batE cs (v, s, l) != 0) = true := by simpa using hz
      clear hz
      go_wp2
      go_ret
      exact ⟨rfl, HB3.out⟩
    ·obtain rfl : m = k := by omega
     have HE1 := Lib.hid (show batE cs (v, s, l) = 0 by rw [HE0.out, HE.out, List.drop_of_length_le (by rw [Hl.out]; exact Nat.le_refl _)]; rfl)
     go_wp2
     go_ret
     exact ⟨by rw [HE1.out]; rfl, HL.out⟩
  ·have d4 : decide ((1048576 : Int) < (m : Int)) = true := by simp; omega
   have d5 : decide (1048576 < m) = true := by simp; omega
   have HE1 := Lib.hid (show batE cs (v, s, l) = 5 by rw [HE0.out, if_pos (by rw [Hl.out]; omega)])
   go_wp2
   go_ret
   exact ⟨by rw [HE1.out]; rfl, HB.out⟩
 ·have HE1 := Lib.hid (show batE cs (v, s, l) = 2 by unfold batE; rw [if_neg hb])
  unfold baB at hb
  simp only [Bool.and_eq_true, decide_eq_true_eq] at hb
  cases hmay : mayCs cs with
  | false =>
   clear hb hmay
   go_wp2
   go_ret
   exact ⟨by rw [HE1.out]; rfl, HB.out⟩
  | true =>
   by_cases hv0 : 0 ≤ v
   ·have d1 : decide (v < 0) = false := by simpa using hv0
    by_cases hv1 : v ≤ 2147483647
    ·have d2 : decide (2147483647 < v) = false := by simpa using hv1
     have hs0 : ¬ 0 ≤ s := fun h => hb ⟨hmay, hv0, hv1, h⟩
     have d3 : decide (s < 0) = true := by simpa using hs0
     clear hb hmay hv0 hv1 hs0
     go_wp2
     go_ret
     exact ⟨by rw [HE1.out]; rfl, HB.out⟩
    ·have d2 : decide (2147483647 < v) = true := by simpa using hv1
     clear hb hmay hv0 hv1
     go_wp2
     go_ret
     exact ⟨by rw [HE1.out]; rfl, HB.out⟩
   ·have d1 : decide (v < 0) = true := by simpa using hv0
    clear hb hmay hv0
    go_wp2
    go_ret
    exact ⟨by rw [HE1.out]; rfl, HB.out⟩
set_option maxRecDepth 100000 in
set_option maxHeartbeats 1000000 in
theorem eqItems_any (A B : Option Addr) (n c m d : Nat) (l1 l2 : List It) (w : World) (h1 : ItemsAt w w.heap.size A n l1) (h2 : ItemsAt w w.heap.size B m l2) (hn : n ≤ maxLen) :
  Calls Tryz.prog 67 #[.slice A n c, .slice B m d] w fun e w' => e = .returned (.bool (decide (l1 = l2))) ∧ Below w.heap.size w w' := by
 have H1 := Lib.hid h1
 have H2 := Lib.hid h2
 have Hl1 := Lib.hid h1.len
 have Hl2 := Lib.hid h2.len
 have hn63 : n ≤ 9223372036854775807 := by simp only [maxLen] at hn; omega
 clear h1 h2 hn
 by_cases hnm : m = n
 ·subst hnm
  go_enter Tryz.func67, Tryz.ntmps67
  go_wp2
  go_loopw [5] (fun i wr => ∃ j : Nat, j ≤ m ∧ i = .int .i64 (j : Int) ∧ Hid (l1.take j = l2.take j) ∧ Hid (Below w.heap.size w wr)) (fun i _ => m - (intOf i).toNat)
  case atStart => exact ⟨0, Nat.zero_le _, rfl, Lib.hid rfl, Lib.hid (Below.refl _ _)⟩
  case round =>
   obtain ⟨j, hj, rfl, Htk, HB⟩ := hrel
   by_cases hlt : j < m
   ·obtain ⟨ad, A', c', it, rfl, hbk, hx, a0, a1, r1, rc1, rc2⟩ := (H1.out.below HB.out).at_ hlt
    obtain ⟨ad', A'', c'', it', rfl, hbk', hx', b0, b1, r2, -, -⟩ := (H2.out.below HB.out).at_ hlt
    have HA0 := Lib.hid (show ∀ w', Below wr.heap.size wr w' → w'.cell? (ad.add (j * 2)) = some (.slice A' it.1.length c') from fun w' h => (h.cell (World.block_lt_of_cell? _ _ a0)).trans a0)
    have HA1 := Lib.hid (show ∀ w', Below wr.heap.size wr w' → w'.cell? ⟨(ad.add (j * 2)).block, (ad.add (j * 2)).off + 1, none⟩ = some (.int .i64 it.2) from fun w' h => (h.cell (World.block_lt_of_cell? _ _ a1)).trans a1)
    have HB0 := Lib.hid (show ∀ w', Below wr.heap.size wr w' → w'.cell? (ad'.add (j * 2)) = some (.slice A'' it'.1.length c'') from fun w' h => (h.cell (World.block_lt_of_cell? _ _ b0)).trans b0)
    have HB1 := Lib.hid (show ∀ w', Below wr.heap.size wr w' → w'.cell? ⟨(ad'.add (j * 2)).block, (ad'.add (j * 2)).off + 1, none⟩ = some (.int .i64 it'.2) from fun w' h => (h.cell (World.block_lt_of_cell? _ _ b1)).trans b1)
    have R1 := Lib.hid (r1.more HB.out.size)
    have R2 := Lib.hid (r2.more HB.out.size)
    have Hrc := Lib.hid (Nat.le_trans rc1 rc2)
    have Hx := Lib.hid hx
    have Hx' := Lib.hid hx'
    have hji : (j : Int) < (m : Int) := by omega
    have hS : Below wr.heap.size wr wr.drew := (Below.refl _ _).drew
    clear hx hx' hbk hbk' r1 r2 rc1 rc2 a0 a1 b0 b1
    obtain ⟨r, v⟩ := it
    obtain ⟨r', v'⟩ := it'
    simp only at HA0 HA1 HB0 HB1 R1 R2 Hrc
    generalize r.length = rl at *
    generalize r'.length = rl' at *
    go_wp2
    by_cases hv : v = v'
    ·subst hv
     have dv : (v != v) = false := by simp
     refine wp_region_keep (fun w' => Below wr.heap.size wr w') [(0, false), (1, false), (2, false), (3, false), (4, false), (5, false), (6, false), (7, false), (8, false), (9, false), (10, false), (11, false), (12, false), (13, false), (14, false), (15, false), (16, false), (17, false), (18, false), (19, false), (20, false), (21, false), (22, true), (23, false), (24, false)] (by kernel_rfl) (by kernel_rfl) (by kernel_rfl) (fun d _ _ _ _ h => by cases d <;> exact h) ?_
     iterate 4
      refine held_pure (v := ?_) rfl rfl (by simp [Region.wanted, yielded]) hS ?_ ?_
      rotate_left
      ·intro w hw; go_simp; try with_reducible rfl
      try simp only [Act.put, zpA, zpB, zpC]
     refine held_pure (v := ?_) rfl rfl (by simp [Region.wanted, yielded]) hS ?_ ?_
     rotate_left
     ·intro w hw; have c0 := HA1.out w hw; clear hw; go_simp; try with_reducible rfl
     try simp only [Act.put, zpA, zpB, zpC]
     iterate 4
      refine held_pure (v := ?_) rfl rfl (by simp [Region.wanted, yielded]) hS ?_ ?_
      rotate_left
      ·intro w hw; go_simp; try with_reducible rfl
      try simp only [Act.put, zpA, zpB, zpC]
     refine held_pure (v := ?_) rfl rfl (by simp [Region.wanted, yielded]) hS ?_ ?_
     rotate_left
     ·intro w hw; have c0 := HB1.out w hw; clear hw; go_simp; try with_reducible rfl
     try simp only [Act.put, zpA, zpB, zpC]
     iterate 6
      refine held_pure (v := ?_) rfl rfl (by simp [Region.wanted, yielded]) hS ?_ ?_
      rotate_left
      ·intro w hw; go_simp; try with_reducible rfl
      try simp only [Act.put, zpA, zpB, zpC]
     refine held_pure (v := ?_) rfl rfl (by simp [Region.wanted, yielded]) hS ?_ ?_
     rotate_left
     ·intro w hw; have c0 := HA0.out w hw; clear hw; go_simp; try with_reducible rfl
     try simp only [Act.put, zpA, zpB, zpC]
     iterate 4
      refine held_pure (v := ?_) rfl rfl (by simp [Region.wanted, yielded]) hS ?_ ?_
      rotate_left
      ·intro w hw; go_simp; try with_reducible rfl
      try simp only [Act.put, zpA, zpB, zpC]
     refine held_pure (v := ?_) rfl rfl (by simp [Region.wanted, yielded]) hS ?_ ?_
     rotate_left
     ·intro w hw; have c0 := HB0.out w hw; clear hw; go_simp; try with_reducible rfl
     try simp only [Act.put, zpA, zpB, zpC]
     refine held_eff1 rfl (by simp [Region.wanted, yielded]) fun K hK => ?_
     go_simp
     with_reducible refine (eqRow_any A' A'' rl c' rl' c'' r r' _ (R1.out.on hS) (R2.out.on hS) Hrc.out).mono ?_
     rintro e w5 ⟨rfl, hb5⟩
     have HB5 := Lib.hid (bon HB.out (bon hS hb5))
     refine held_go hK (by exact bon hS hb5) fun hS => ?_
     clear hK K
     try simp only [Act.put, zpA, zpB, zpC]
     clear hb5
     iterate 2
      refine held_pure (v := ?_) rfl rfl (by simp [Region.wanted, yielded]) hS ?_ ?_
      rotate_left
      ·intro w hw; go_simp; try with_reducible rfl
      try simp only [Act.put, zpA, zpB, zpC]
     refine held_end ?_
     clear hS
     by_cases hc : r = r'
     ·have Htk2 := Lib.hid (show l1.take (j + 1) = l2.take (j + 1) by rw [List.take_add_one, List.take_add_one, Hx.out, Hx'.out, Htk.out, hc])
      rw [decide_eq_true hc]
      clear hc
      go_wp2
      go_roundw
      case rel => exact ⟨j + 1, by omega, by go_num, Htk2, HB5⟩
      case measure => simp [intOf]; omega
     ·have Hne := Lib.hid (show decide (l1 = l2) = false from decide_eq_false (fun h => hc (by subst h; have := Option.some.inj (Hx.out.symm.trans Hx'.out); cases this; rfl)))
      rw [decide_eq_false hc]
      clear hc
      go_wp2
      go_ret
      exact ⟨by rw [Hne.out]; rfl, HB5.out⟩
    ·have dv : (v != v') = true := by simpa using hv
     have Hne := Lib.hid (show decide (l1 = l2) = false from decide_eq_false (fun h => hv (by subst h; have := Option.some.inj (Hx.out.symm.trans Hx'.out); cases this; rfl)))
     clear hv
     refine wp_region_keep (fun w' => Below wr.heap.size wr w') [(0, false), (1, false), (2, false), (3, false), (4, false), (5, false), (6, false), (7, false), (8, false), (9, false), (10, false), (11, false), (12, false), (13, false), (14, false), (15, false), (16, false), (17, false), (18, false), (19, false), (20, false), (21, false), (22, false), (23, false), (24, false)] (by kernel_rfl) (by kernel_rfl) (by kernel_rfl) (fun d _ _ _ _ h => by cases d <;> exact h) ?_
     iterate 4
      refine held_pure (v := ?_) rfl rfl (by simp [Region.wanted, yielded]) hS ?_ ?_
      rotate_left
      ·intro w hw; go_simp; try with_reducible rfl
      try simp only [Act.put, zpA, zpB, zpC]
     refine held_pure (v := ?_) rfl rfl (by simp [Region.wanted, yielded]) hS ?_ ?_
     rotate_left
     ·intro w hw; have c0 := HA1.out w hw; clear hw; go_simp; try with_reducible rfl
     try simp only [Act.put, zpA, zpB, zpC]
     iterate 4
      refine held_pure (v := ?_) rfl rfl (by simp [Region.wanted, yielded]) hS ?_ ?_
      rotate_left
      ·intro w hw; go_simp; try with_reducible rfl
      try simp only [Act.put, zpA, zpB, zpC]
     refine held_pure (v := ?_) rfl rfl (by simp [Region.wanted, yielded]) hS ?_ ?_
     rotate_left
     ·intro w hw; have c0 := HB1.out w hw; clear hw; go_simp; try with_reducible rfl
     try simp only [Act.put, zpA, zpB, zpC]
     iterate 2
      refine held_pure (v := ?_) rfl rfl (by simp [Region.wanted, yielded]) hS ?_ ?_
      rotate_left
      ·intro w hw; go_simp; try with_reducible rfl
      try simp only [Act.put, zpA, zpB, zpC]
     refine held_off rfl rfl (by simp [Region.wanted, yielded, undef]) hS ?_
     simp only [Act.put, zpA, zpB, zpC]
     refine held_off rfl rfl (by simp [Region.wanted, yielded, undef]) hS ?_
     simp only [Act.put, zpA, zpB, zpC]
     refine held_off rfl rfl (by simp [Region.wanted, yielded, undef]) hS ?_
     simp only [Act.put, zpA, zpB, zpC]
     refine held_off rfl rfl (by simp [Region.wanted, yielded, undef]) hS ?_
     simp only [Act.put, zpA, zpB, zpC]
     refine held_off rfl rfl (by simp [Region.wanted, yielded, undef]) hS ?_
     simp only [Act.put, zpA, zpB, zpC]
     refine held_off rfl rfl (by simp [Region.wanted, yielded, undef]) hS ?_
     simp only [Act.put, zpA, zpB, zpC]
     refine held_off rfl rfl (by simp [Region.wanted, yielded, undef]) hS ?_
     simp only [Act.put, zpA, zpB, zpC]
     refine held_off rfl rfl (by simp [Region.wanted, yielded, undef]) hS ?_
     simp only [Act.put, zpA, zpB, zpC]
     refine held_off rfl rfl (by simp [Region.wanted, yielded, undef]) hS ?_
     simp only [Act.put, zpA, zpB, zpC]
     refine held_off rfl rfl (by simp [Region.wanted, yielded, undef]) hS ?_
     simp only [Act.put, zpA, zpB, zpC]
     refine held_off rfl rfl (by simp [Region.wanted, yielded, undef]) hS ?_
     simp only [Act.put, zpA, zpB, zpC]
     refine held_off rfl rfl (by simp [Region.wanted, yielded, undef]) hS ?_
     simp only [Act.put, zpA, zpB, zpC]
     refine held_pure (v := ?_) rfl rfl (by simp [Region.wanted, yielded]) hS ?_ ?_
     rotate_left
     ·intro w hw; go_simp; try with_reducible rfl
     try simp only [Act.put, zpA, zpB, zpC]
     refine held_end ?_
     have HB5 := Lib.hid (bon HB.out hS)
     clear hS
     go_wp2
     go_ret
     exact ⟨by rw [Hne.out]; rfl, HB5.out⟩
   ·obtain rfl : m = j := by omega
    have He := Lib.hid (show decide (l1 = l2) = true by
     have := Htk.out
     rw [List.take_of_length_le (by rw [Hl1.out]; exact Nat.le_refl _), List.take_of_length_le (by rw [Hl2.out]; exact Nat.le_refl _)] at this
     exact decide_eq_true this)
    go_wp2
    go_ret
    exact ⟨by rw [He.out]; rfl, HB.out⟩
 ·have hne2 : ((n : Int) != (m : Int)) = true := by simp; omega
  have hne3 : (n != m) = true := by simp; omega
  have Hne := Lib.hid (show decide (l1 = l2) = false from decide_eq_false (fun h => hnm (by rw [← Hl1.out, ← Hl2.out, h])))
  go_enter Tryz.func67, Tryz.ntmps67
  go_wp2
  go_ret
  exact ⟨by rw [Hne.out]; rfl, Below.refl _ _⟩
end Go.Proofs.YtnkgchmkmhdcaaaGreatDoor
namespace Go.Proofs.YtnkgchmkmhdcaaaGreatDoor
open Go.RowKit
theorem intsB_le (l : List Cl) : (intsB l).length ≤ 10 * l.length := by
 induction l with
 | nil => simp [intsB]
 | cons c l ih =>
  have := leb_le (zig c.2.1)
  simp only [intsB, List.flatMap_cons, List.length_append, List.length_cons] at *
  omega
theorem rawsB_le (l : List Cl) (h : ∀ c ∈ l, c.2.2.size ≤ 1024) : (rawsB l).length ≤ 1034 * l.length := by
 induction l with
 | nil => simp [rawsB]
 | cons c l ih =>
  have h1 := leb_le c.2.2.size
  have h2 := h c (by simp)
  have h3 := ih (fun x hx => h x (by simp [hx]))
  have h4 : c.2.2.data.toList.length = c.2.2.size := by rw [Array.length_toList]; rfl
  simp only [rawsB, List.flatMap_cons, List.length_append, List.length_cons] at *
  omega
theorem putB_leB (k : Int) (nl : Bool) (l : List Cl) (hk : mayK k = true) (ha : allC k nl l = true) : (putB k nl l []).length ≤ 10 + 1046 * l.length := by
 have hs := some_sizes hk ha
 have hl : (someC l).length ≤ l.length := List.length_filter_le _ _
 have h1 : ((if nl then packL (l.map fun c => !c.1) else [] : List UInt8)).length ≤ l.length := by
  split
  ·have := packL_le (l.map fun c => !c.1)
   simpa using this
  ·simp
 have h2 : (bareB k (someC l)).length ≤ 10 + 1044 * l.length := by
  unfold bareB
  split
  ·have := packL_le ((someC l).map fun c => c.2.1 == 1)
   simp only [List.length_map] at this
   omega
  ·split
   ·have := putD_le ((someC l).map fun c => c.2.2) (fun s hs2 => by
     obtain ⟨c, hc, rfl⟩ := List.mem_map.1 hs2
     exact hs c hc)
    simp only [List.length_map] at this
    omega
   ·split
    ·have := rawsB_le (someC l) hs
     omega
    ·have := intsB_le (someC l)
     omega
 unfold putB
 simp only [List.nil_append, List.length_append]
 omega
theorem Fits.colB_le {cs : List Co} {b : Ba} (h : Fits cs b) (k : Nat) : (colB cs b.2.2 k).length ≤ 10 + 1046 * b.2.2.length := by
 unfold colB
 split
 ·rename_i c hc
  have := putB_leB c.2.2.1 c.2.2.2.1 (colC b.2.2 k) (mayCs_at h.may hc) (h.col hc)
  simpa [colC] using this
 ·simp
theorem Fits.colsB_le {cs : List Co} {b : Ba} (h : Fits cs b) (j : Nat) : (colsB cs b.2.2 j).length ≤ j * (10 + 1046 * b.2.2.length) := by
 induction j with
 | zero => simp [colsB]
 | succ j ih =>
  have := h.colB_le j
  rw [colsB_succ, List.length_append, Nat.succ_mul]
  omega
theorem headB_le (v s : Int) (n : Nat) : (headB v s n).length ≤ 33 := by
 have h1 := leb_le v.toNat
 have h2 := leb_le s.toNat
 have h3 := leb_le n
 simp only [headB, List.length_append, List.length_cons, List.length_nil]
 omega
theorem wsB_le (l : List It) : (wsB l).length ≤ 10 * l.length := by
 induction l with
 | nil => simp [wsB]
 | cons c l ih =>
  have := leb_le (zig c.2)
  simp only [wsB, List.flatMap_cons, List.length_append, List.length_cons] at *
  omega
theorem mayCs_len {cs : List Co} (h : mayCs cs = true) : 1 ≤ cs.length ∧ cs.length ≤ 32 := by
 unfold mayCs at h
 simp only [Bool.and_eq_true, decide_eq_true_eq] at h
 exact h.1
def preB (cs : List Co) (b : Ba) (j : Nat) : List UInt8 := headB b.1 b.2.1 b.2.2.length ++ colsB cs b.2.2 j
theorem preB_zero (cs : List Co) (b : Ba) : preB cs b 0 = headB b.1 b.2.1 b.2.2.length := by simp [preB, colsB]
theorem preB_succ (cs : List Co) (b : Ba) (j : Nat) (c : Co) (h : cs[j]? = some c) : preB cs b (j + 1) = putB c.2.2.1 c.2.2.2.1 (colC b.2.2 j) (preB cs b j) := by
 unfold preB
 rw [colsB_succ, ← List.append_assoc]
 unfold colB
 rw [h]
 unfold putB
 simp
theorem Fits.preB_le {cs : List Co} {b : Ba} (h : Fits cs b) (j : Nat) (hj : j ≤ cs.length) : (preB cs b j).length ≤ 40000000000 := by
 have h1 := h.colsB_le j
 have h2 := headB_le b.1 b.2.1 b.2.2.length
 have h3 := (mayCs_len h.may).2
 have h4 := h.rows
 have h5 : j * (10 + 1046 * b.2.2.length) ≤ 32 * (10 + 1046 * 1048576) := Nat.mul_le_mul (by omega) (by omega)
 unfold preB
 rw [List.length_append]
 omega
def preW (cs : List Co) (b : Ba) (i : Nat) : List UInt8 := preB cs b cs.length ++ wsB (b.2.2.take i)
theorem preW_zero (cs : List Co) (b : Ba) : preW cs b 0 = preB cs b cs.length := by simp [preW, wsB]
theorem preW_succ (cs : List Co) (b : Ba) (i : Nat) (it : It) (h : b.2.2[i]? = some it) : preW cs b (i + 1) = preW cs b i ++ leb (zig it.2) := by
 unfold preW wsB
 rw [List.take_add_one, h]
 simp
theorem preW_end (cs : List Co) (b : Ba) : preW cs b b.2.2.length = bodyB cs b := by
 unfold preW preB bodyB
 rw [List.take_length, List.append_assoc]
theorem Fits.preW_le {cs : List Co} {b : Ba} (h : Fits cs b) (i : Nat) : (preW cs b i).length ≤ 50000000000 := by
 have h1 := h.preB_le cs.length (Nat.le_refl _)
 have h2 := wsB_le (b.2.2.take i)
 have h3 := h.rows
 have h4 : (b.2.2.take i).length ≤ b.2.2.length := List.length_take_le' _ _
 unfold preW
 rw [List.length_append]
 omega
theorem Fits.body_le {cs : List Co} {b : Ba} (h : Fits cs b) : (bodyB cs b).length ≤ 50000000000 := by
 rw [← preW_end]
 exact h.preW_le _
theorem Fits.enc_le {cs : List Co} {b : Ba} (h : Fits cs b) : (encA cs b).length ≤ 60000000000 := by
 have := h.body_le
 rw [encA_len]
 omega
def cutc (c : Cl) : Cl := (c.1, c.2.1, c.2.2.extract 0 (min c.2.2.size 300))
def cutr (r : List Cl) : List Cl := (r.take 40).map cutc
def cuti (it : It) : It := (cutr it.1, it.2)
def cutl (l : List It) : List It := (l.take 30).map cuti
theorem cutl_len (l : List It) : (cutl l).length = min 30 l.length := by simp [cutl]
theorem cutc_idem (c : Cl) : cutc (cutc c) = cutc c := by
 obtain ⟨u, x, s⟩ := c
 simp only [cutc, Prod.mk.injEq, true_and]
 have h : (s.extract 0 (min s.size 300)).size ≤ 300 := by simp only [ByteArray.size_extract]; omega
 generalize s.extract 0 (min s.size 300) = t at h
 rw [Nat.min_eq_left h]
 apply ByteArray.ext
 simp [ByteArray.data_extract, ← ByteArray.size_data]
theorem cutr_idem (r : List Cl) : cutr (cutr r) = cutr r := by
 unfold cutr
 rw [← List.map_take, List.take_take, Nat.min_self, List.map_map]
 exact List.map_congr_left fun c _ => cutc_idem c
theorem cutl_idem (l : List It) : cutl (cutl l) = cutl l := by
 unfold cutl
 rw [← List.map_take, List.take_take, Nat.min_self, List.map_map]
 exact List.map_congr_left fun it _ => by simp [cuti, cutr_idem]
theorem cutr_ok {r : List Cl} (h : ClOk r) : ClOk (cutr r) := by
 intro c hc
 obtain ⟨d, hd, rfl⟩ := List.mem_map.1 hc
 obtain ⟨h1, h2, h3⟩ := h d (List.mem_of_mem_take hd)
 refine ⟨h1, h2, ?_⟩
 simp only [cutc, ByteArray.size_extract]
 omega
end Go.Proofs.YtnkgchmkmhdcaaaGreatDoor
namespace Go.Proofs.YtnkgchmkmhdcaaaGreatDoor
open Go.RowKit Go.Deep Go.ChangeShapes Go.WideShapes Go.Shelf Go.Lib
theorem cells_of {H : Type} {enc : TypeId × Value → H} {w : World} {held : Bool} {a : Option Addr} {len cap : Nat} {d : DataW H} {p : List MemPlace} (h : DataW.Trod enc Tryz.prog w 0 (fun _ => true) held 24 (.slice a len cap) d p) :
  ∃ xs : List Cl, Reads w w.heap.size 3 a len (cls xs) ∧ len ≤ cap ∧ cap ≤ maxLen ∧ ClOk xs := by
 haveI : Inhabited Cl := ⟨(false, 0, ⟨#[]⟩)⟩
 refine structs_of 3 (fun c : Cl => [.bool c.1, .int .i64 c.2.1, .string c.2.2]) (fun c => -9223372036854775808 ≤ c.2.1 ∧ c.2.1 ≤ 9223372036854775807 ∧ c.2.2.size ≤ maxLen) (by decide) (fun _ => rfl)
  Tryz.underlying24 (by kernel_rfl) (fun n cs y hy => ?_) h
 obtain ⟨m, hl, hc⟩ := struct_cells Tryz.underlying23 (by kernel_rfl) (by kernel_rfl) hy
 match cs, hl with
 | [v0, v1, v2], _ =>
  obtain ⟨y0, g0⟩ := hc 0 _ _ rfl rfl
  obtain ⟨y1, g1⟩ := hc 1 _ _ rfl rfl
  obtain ⟨y2, g2⟩ := hc 2 _ _ rfl rfl
  obtain ⟨u, e0, -⟩ := DataW.trod_bool Tryz.underlying4 g0
  obtain ⟨k, e1, _, b1⟩ := DataW.trod_int Tryz.underlying2 g1
  obtain ⟨s, e2, _, b2⟩ := DataW.trod_string Tryz.underlying9 g2
  cases e0
  cases e1
  cases e2
  exact ⟨(u, k, s), rfl, (bounds_i64 b1).1, (bounds_i64 b1).2, b2⟩
theorem type_of {H : Type} {enc : TypeId × Value → H} {w : World} {held : Bool} {cs : Array Value} {d : DataW H} {p : List MemPlace} (h : DataW.Trod enc Tryz.prog w 0 (fun _ => true) held 43 (.agg cs) d p) :
  ∃ (k : Int) (nl : Bool), cs = #[.int .i64 k, .bool nl] ∧ -9223372036854775808 ≤ k ∧ k ≤ 9223372036854775807 := by
 obtain ⟨fuel, hf⟩ := h
 obtain ⟨m, hl, hc⟩ := struct_cells Tryz.underlying43 (by kernel_rfl) (by kernel_rfl) hf
 obtain ⟨cl, hcl⟩ : ∃ cl, cl = cs.toList := ⟨_, rfl⟩
 have hcs : cs = cl.toArray := by rw [hcl]
 have hcells : (Value.agg cs).cells = cs := rfl
 rw [hcells, ← hcl] at hl hc
 match cl, hl with
 | [v0, v1], _ =>
  obtain ⟨y0, g0⟩ := hc 0 _ _ rfl rfl
  obtain ⟨y1, g1⟩ := hc 1 _ _ rfl rfl
  obtain ⟨k, e0, _, b0⟩ := DataW.trod_int Tryz.underlying3 g0
  obtain ⟨u, e1, -⟩ := DataW.trod_bool Tryz.underlying4 g1
  cases e0
  cases e1
  exact ⟨k, u, hcs, (bounds_i64 b0).1, (bounds_i64 b0).2⟩
theorem first_eq : Pinned.utf8First = firstData := by kernel_rfl
theorem tabs_of {w : World} (h1 : VarReads Tryz.prog w "unicode/utf8.first" firstData) (h2 : VarReads Tryz.prog w "unicode/utf8.acceptRanges" acceptData) : Tabs w :=
 utf8Tabs_of_readsT (U8Types.of196 Tryz.laysValid) ⟨by kernel_rfl, by kernel_rfl, by kernel_rfl, by kernel_rfl, by kernel_rfl, by kernel_rfl, by kernel_rfl⟩ h1 h2
end Go.Proofs.YtnkgchmkmhdcaaaGreatDoor
namespace Go.Proofs.YtnkgchmkmhdcaaaGreatDoor
open Go.RowKit
theorem putO_ok {k : Int} {nl : Bool} {l : List Cl} (xs : List UInt8) (h : putE k nl l = 0) : putO k nl l xs = putB k nl l xs := by unfold putO; rw [if_pos h]
theorem putE_ok {k : Int} {nl : Bool} {l : List Cl} (hk : mayK k = true) (ha : allC k nl l = true) : putE k nl l = 0 := by simp [putE, hk, ha]
end Go.Proofs.YtnkgchmkmhdcaaaGreatDoor
