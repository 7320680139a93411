/- Part 26 of the walks, merged: each text under its own heading. Conditions: none of its own; each lemma states what it asks. -/
import Derived.Test.YtjpjalmilfgckaaGreatDoorBk19
import Derived.Test.YtjpjalmilfgckaaGreatDoorBk20
import Derived.Test.YtjpjalmilfgckaaGreatDoorBk25
set_option linter.unusedVariables false
set_option linter.unusedSimpArgs false
namespace Go.Proofs.YtjpjalmilfgckaaGreatDoor
open Go.RowKit
theorem one_slice (A : Option Addr) (n c : Nat) : ∀ u ∈ [Value.slice A n c], u.oneCell' = true := by
 intro u hu
 obtain rfl : u = .slice A n c := by simpa using hu
 rfl
set_option maxRecDepth 100000 in
set_option maxHeartbeats 8000000 in
theorem rdec_any (A : Option Addr) (n c : Nat) (cs : List Co) (B : Option Addr) (m cb : Nat) (xs : List UInt8) (w : World) (hr : Reads w w.heap.size 7 A n (cos cs)) (hn : n ≤ maxLen) (hx : Reads w w.heap.size 1 B m (u8s xs)) (hm : m ≤ cb) (hc : cb ≤ maxLen) :
  Calls Tryz.prog 47 #[.slice A n c, .slice B m cb] w (DecP (decB cs xs) w) := by
 have hcm := hc
 have hc63 : cb ≤ 9223372036854775807 := by simp only [maxLen] at hc; omega
 have Hr := Lib.hid hr
 have Hx := Lib.hid hx
 have Hn := Lib.hid hn
 have HB := Lib.hid (bal (Below.refl w.heap.size w) (.cells #[.int .i64 0, .int .i64 0, .slice none 0 0] 30))
 have HG := Lib.hid (Blk.new w 30 #[.int .i64 0, .int .i64 0, .slice none 0 0])
 clear hr hx hn hc
 go_enter Tryz.func47, Tryz.ntmps47
 go_wp2_with fail
 with_reducible refine (rmayC_any A n c cs _ (Hr.out.on HB.out) Hn.out).mono ?_
 rintro e w1 ⟨rfl, hb1⟩
 have HB := Lib.hid (bon HB.out hb1)
 have HG := Lib.hid (HG.out.on hb1)
 clear hb1
 cases hmay : mayCs cs with
 | false =>
  have HE := Lib.hid (decB_may (xs := xs) hmay)
  clear hmay
  have f0 := HG.out.frozen 0
  have f1 := HG.out.frozen 1
  have f2 := HG.out.frozen 2
  have g0 := HG.out.cell 0
  have g1 := HG.out.cell 1
  have g2 := HG.out.cell 2
  go_wp2
  have H2 := same_set3b HG.out
  have c0 := H2.cell 0
  have c1 := H2.cell 1
  have c2 := H2.cell 2
  have HB2 := Lib.hid (((HB.out.setCell (p := ⟨w.heap.size, 0, none⟩) (Nat.le_refl _) (.int .i64 0)).setCell (p := ⟨w.heap.size, 1, none⟩) (Nat.le_refl _) (.int .i64 0)).setCell (p := ⟨w.heap.size, 2, none⟩) (Nat.le_refl _) (.slice none 0 0))
  refine bodyPost_ret (v := .tuple #[.agg #[.int .i64 0, .int .i64 0, .slice none 0 0], .int .i64 2]) (by rw [results_cell_tmp rfl]; simp [go_sem, c0, c1, c2]) rfl ?_
  refine ⟨HB2.out, ?_⟩
  rw [HE.out]
  exact ⟨rfl, by decide⟩
 | true =>
  have Hmay := Lib.hid hmay
  have hcl := (mayCs_len hmay).2
  rw [cos_len Hr.out] at hcl
  have Hcl := Lib.hid hcl
  clear hmay hcl
  go_wp2_with fail
  with_reducible refine (rhead_any B m cb xs w1 (Hx.out.on HB.out) hm hcm).mono ?_
  rintro e w3 ⟨hb3, hm3⟩
  have HB := Lib.hid (bon HB.out hb3)
  have HG := Lib.hid (HG.out.on hb3)
  clear hb3
  rcases hd : batD xs with er | ⟨V, S, N, ys⟩
  ·rw [hd] at hm3
   obtain ⟨rfl, he⟩ := hm3
   have HE := Lib.hid (decB_head Hmay.out hd)
   have hei : ((er : Int) != 0) = true := by simpa using he
   have He := Lib.hid he
   have HB := Lib.hid (bal HB.out (.cells #[.int .i64 0, .int .i64 0, .slice none 0 0] 30))
   have HG := Lib.hid (HG.out.alloc (.cells #[.int .i64 0, .int .i64 0, .slice none 0 0] 30))
   clear hd he
   have f0 := HG.out.frozen 0
   have f1 := HG.out.frozen 1
   have f2 := HG.out.frozen 2
   have g0 := HG.out.cell 0
   have g1 := HG.out.cell 1
   have g2 := HG.out.cell 2
   go_wp2
   have H2 := same_set3b HG.out
   have c0 := H2.cell 0
   have c1 := H2.cell 1
   have c2 := H2.cell 2
   have HB2 := Lib.hid (((HB.out.setCell (p := ⟨w.heap.size, 0, none⟩) (Nat.le_refl _) (.int .i64 0)).setCell (p := ⟨w.heap.size, 1, none⟩) (Nat.le_refl _) (.int .i64 0)).setCell (p := ⟨w.heap.size, 2, none⟩) (Nat.le_refl _) (.slice none 0 0))
   refine bodyPost_ret (v := .tuple #[.agg #[.int .i64 0, .int .i64 0, .slice none 0 0], .int .i64 (er : Int)]) (by rw [results_cell_tmp rfl]; simp [go_sem, c0, c1, c2]) rfl ?_
   refine ⟨HB2.out, ?_⟩
   rw [HE.out]
   exact ⟨rfl, He.out⟩
  ·rw [hd] at hm3
   obtain ⟨p0, rfl, hp0, hy, hN⟩ := hm3
   simp only at hy hN
   subst hy
   have HDX := Lib.hid hd
   have h4 := (batD_only hd).1
   have hxl := reads_len Hx.out
   rw [hxl] at h4
   clear hxl
   obtain ⟨k0, hk0⟩ : ∃ k0, k0 = m - 4 := ⟨_, rfl⟩
   rw [← hk0] at hp0 HDX
   have hsub : (m : Int) - 4 = (k0 : Int) := by omega
   have hkm : k0 ≤ m := by omega
   have hki : (k0 : Int) ≤ (m : Int) := by omega
   have hki2 : (k0 : Int) ≤ (cb : Int) := by omega
   have hkc : k0 ≤ cb := by omega
   have hk4 : k0 + 4 ≤ cb := by omega
   have htk := Hx.out.head hkm
   rw [Nat.mul_one, u8s_take] at htk
   have HX0 := Lib.hid htk
   have hbl := reads_len htk
   rw [hbl] at hp0
   clear hd hk0 htk Hx
   generalize xs.take k0 = bd at *
   have Hbl := Lib.hid hbl
   have Hg6 := Lib.hid HG.out.lt
   have HP := Lib.hid (Blk.new w3 30 #[.int .i64 (V : Int), .int .i64 (S : Int), .slice none 0 0])
   have HB := Lib.hid (bal HB.out (.cells #[.int .i64 (V : Int), .int .i64 (S : Int), .slice none 0 0] 30))
   have HG := Lib.hid (HG.out.alloc (.cells #[.int .i64 (V : Int), .int .i64 (S : Int), .slice none 0 0] 30))
   clear hbl
   go_wp2
   clear hki
   obtain ⟨W1, hW1⟩ : ∃ W1, w3.alloc (.cells #[.int .i64 (V : Int), .int .i64 (S : Int), .slice none 0 0] 30) = W1 := ⟨_, rfl⟩
   rw [hW1] at HB HG HP ⊢
   generalize w3.heap.size = g6 at *
   clear hW1
   obtain ⟨s0, hs0, hsz0, hsz1, hsz2⟩ := info_parts sliceRow_info
   obtain ⟨j0, hj0, hk0, hj1, hk2⟩ := info_parts cell_info
   obtain ⟨i0, hi0, hl0, hi1, hl2⟩ := info_parts item_info
   have Hp0 := Lib.hid hp0
   have hn63 : n ≤ 9223372036854775807 := by have := Hcl.out; omega
   clear hp0
   go_loopw [8, 10, 11] (fun ap tb ix wr => ∃ (k p : Nat) (ls : List (List Cl)) (hds : List Hd) (A9 : Option Addr) (c9 : Nat), k ≤ n ∧ ap = .int .i64 (p : Int) ∧ tb = .slice A9 k c9 ∧ ix = .int .i64 (k : Int) ∧ Hid (p ≤ k0) ∧ Hid (iterI (colD cs (N : Int)) k ([], bd.drop p0) = .ok (ls, bd.drop p)) ∧ Hid (∀ l ∈ ls, l.length = N) ∧ Hid (hds.length = k) ∧
    Hid (wr.ownsRow w.heap.size 24 1 (.slice A9 k c9) k (hds.map hdV)) ∧ Hid (ListsOwn wr w.heap.size hds ls) ∧ Hid (Blk wr g6 30 #[.int .i64 (V : Int), .int .i64 (S : Int), .slice none 0 0]) ∧ Hid (Blk wr w.heap.size 30 #[.int .i64 0, .int .i64 0, .slice none 0 0]) ∧ Hid (Below w.heap.size w wr)) (fun _ _ ix _ => n - (intOf ix).toNat)
   case atStart => exact ⟨0, p0, [], [], none, 0, Nat.zero_le _, rfl, rfl, rfl, Hp0, Lib.hid rfl, Lib.hid (fun l h => by cases h), Lib.hid rfl, Lib.hid (World.ownsRow_nil _ _ _ _), Lib.hid ListsOwn.nil, HP, HG, HB⟩
   case round =>
    clear HP HG HB
    obtain ⟨k, p, ls, hds, A9, c9, hk, rfl, rfl, rfl, Hp, HI, HN, HK, HT, HL, HP, HG, HB⟩ := hrel
    have hp := Hp.out
    have HX := Lib.hid (HX0.out.below HB.out)
    by_cases hlt : k < n
    ·obtain ⟨ad, co, rfl, hbk, hco, hat⟩ := cos_at (Hr.out.below HB.out) hlt
     obtain ⟨ci, cnm, ckd, cnl, cu, cx, csx⟩ := co
     have HA2 := Lib.hid (show ∀ w', Below wr.heap.size wr w' → w'.cell? ⟨(ad.add (k * 7)).block, (ad.add (k * 7)).off + 2, none⟩ = some (.int .i64 ckd) from fun w' h => (h.cell (World.block_lt_of_cell? _ _ hat.c2)).trans hat.c2)
     have HA3 := Lib.hid (show ∀ w', Below wr.heap.size wr w' → w'.cell? ⟨(ad.add (k * 7)).block, (ad.add (k * 7)).off + 3, none⟩ = some (.bool cnl) from fun w' h => (h.cell (World.block_lt_of_cell? _ _ hat.c3)).trans hat.c3)
     have Hco := Lib.hid hco
     have hki : (k : Int) < (n : Int) := by omega
     have Hlt := Lib.hid hlt
     have Hcd := Lib.hid (colD_at Hco.out (N : Int) (ls, bd.drop p))
     simp only at Hcd
     have hcut := HX.out.cut hp hkc
     rw [Nat.mul_one, u8s_drop, if_neg (show ¬ cb = p by omega)] at hcut
     obtain ⟨AX, hAX⟩ : ∃ A2, Option.map (fun x : Addr => x.add p) B = A2 := ⟨_, rfl⟩
     rw [hAX] at hcut
     have hlen := reads_len hcut
     have hcbp : ¬ cb = p := by omega
     have hpc : p ≤ cb := by omega
     have hpi : (p : Int) ≤ (k0 : Int) := by omega
     have hpi2 : (p : Int) ≤ (cb : Int) := by omega
     have hcc : k0 - p ≤ cb - p := by omega
     have hcd : cb - p ≤ maxLen := by simp only [maxLen] at hcm ⊢; omega
     have Hcut := Lib.hid hcut
     have hS : Below wr.heap.size wr wr.drew := (Below.refl _ _).drew
     clear hco hat hbk hcut
     go_wp2
     refine wp_region_keep (fun w' => Below wr.heap.size wr w') [(0, false), (1, false), (2, false), (3, false), (4, false), (5, false), (6, false), (7, false), (8, false), (9, true), (10, false), (11, false), (12, false), (13, false), (14, false), (15, false), (16, false)] (by kernel_rfl) (by kernel_rfl) (by kernel_rfl) (fun d _ _ _ _ h => by cases d <;> exact h) ?_
     iterate 7
      refine held_pure (v := ?_) rfl rfl (by simp [Region.wanted, yielded]) hS ?_ ?_
      rotate_left
      ·intro w hw; go_simp; try with_reducible rfl
      try simp only [Act.put, zpA, zpB, zpC]
     refine held_pure (v := ?_) rfl rfl (by simp [Region.wanted, yielded]) hS ?_ ?_
     rotate_left
     ·intro w hw; have c0 := HA2.out w hw; have c1 := HA3.out w hw; clear hw; go_simp; try with_reducible rfl
     try simp only [Act.put, zpA, zpB, zpC]
     refine held_pure (v := ?_) rfl rfl (by simp [Region.wanted, yielded]) hS ?_ ?_
     rotate_left
     ·intro w hw; go_simp; try with_reducible rfl
     try simp only [Act.put, zpA, zpB, zpC]
     refine held_eff1 rfl (by simp [Region.wanted, yielded]) fun K hK => ?_
     go_simp
     with_reducible refine (rget_any AX (k0 - p) (cb - p) (bd.drop p) ckd cnl (N : Int) _ ((Hcut.out.more HB.out.size).on hS) hcc hcd (by omega) (by omega)).mono ?_
     rintro e w7 ⟨hb7, hm7⟩
     rcases hg : getC ckd cnl (bd.drop p) (N : Int) with er | ⟨l, sz⟩
     ·rw [hg] at hm7
      obtain ⟨rfl, he⟩ := hm7
      have HE := Lib.hid (show decB cs xs = .error er from decB_cols Hmay.out HDX.out (iterI_err HI.out (by rw [Hcd.out, hg]; rfl) (by rw [cos_len Hr.out]; exact Hlt.out)))
      have hei : ((er : Int) != 0) = true := by simpa using he
      have He := Lib.hid he
      have HB := Lib.hid (bon HB.out (bon hS hb7))
      have HG := Lib.hid (HG.out.on (bon hS hb7))
      clear hg he
      refine held_go hK (by exact bon hS hb7) fun hS => ?_
      clear hK K
      try simp only [Act.put, zpA, zpB, zpC]
      clear hb7
      iterate 7
       refine held_pure (v := ?_) rfl rfl (by simp [Region.wanted, yielded]) hS ?_ ?_
       rotate_left
       ·intro w hw; go_simp; try with_reducible rfl
       try simp only [Act.put, zpA, zpB, zpC]
      refine held_end ?_
      clear hS hpi hpi2 hAX
      have f0 := HG.out.frozen 0
      have f1 := HG.out.frozen 1
      have f2 := HG.out.frozen 2
      have g0 := HG.out.cell 0
      have g1 := HG.out.cell 1
      have g2 := HG.out.cell 2
      go_wp2
      have H2 := same_set3b HG.out
      have c0 := H2.cell 0
      have c1 := H2.cell 1
      have c2 := H2.cell 2
      have HB2 := Lib.hid (((HB.out.setCell (p := ⟨w.heap.size, 0, none⟩) (Nat.le_refl _) (.int .i64 0)).setCell (p := ⟨w.heap.size, 1, none⟩) (Nat.le_refl _) (.int .i64 0)).setCell (p := ⟨w.heap.size, 2, none⟩) (Nat.le_refl _) (.slice none 0 0))
      refine bodyPost_ret (v := .tuple #[.agg #[.int .i64 0, .int .i64 0, .slice none 0 0], .int .i64 (er : Int)]) (by rw [results_cell_tmp rfl]; simp [go_sem, c0, c1, c2]) rfl ?_
      refine ⟨HB2.out, ?_⟩
      rw [HE.out]
      exact ⟨rfl, He.out⟩
     ·rw [hg] at hm7
      obtain ⟨hl, A7, c7, rfl, q5, q6, q7⟩ := hm7
      obtain ⟨-, hgl, -, hgs, -, -⟩ := getC_only _ _ _ _ _ _ hg
      have HIn := Lib.hid (iterI_ok HI.out (show colD cs (N : Int) k (ls, bd.drop p) = .ok (ls ++ [l], (bd.drop p).drop sz) by rw [Hcd.out, hg]; rfl))
      have hbo := bon hS hb7
      have HP7 := Lib.hid (HP.out.on hbo)
      have HG7 := Lib.hid (HG.out.on hbo)
      have HT7 := Lib.hid (own_below HT.out hbo)
      have HB7 := Lib.hid (bon HB.out hbo)
      have HL7 := Lib.hid (HL.out.below hbo)
      have hlN : l.length = N := by omega
      rw [hlN] at q7
      have HX7 := Lib.hid (own_mono q7 (show w.heap.size ≤ wr.drew.heap.size from HB.out.size))
      have Hll := Lib.hid hlN
      rw [hlN]
      rw [hlen] at hgs
      obtain ⟨p1, hp1⟩ : ∃ p1, p1 = p + sz := ⟨_, rfl⟩
      rw [List.drop_drop, ← hp1] at HIn
      have hadd : (p : Int) + (sz : Int) = (p1 : Int) := by omega
      have hp1k : p1 ≤ k0 := by omega
      clear hg q5 q6 q7 hgl hbo hlN hgs hp1
      refine held_go hK (by exact bon hS hb7) fun hS => ?_
      clear hK K
      try simp only [Act.put, zpA, zpB, zpC]
      clear hb7
      iterate 7
       refine held_pure (v := ?_) rfl rfl (by simp [Region.wanted, yielded]) hS ?_ ?_
       rotate_left
       ·intro w hw; go_simp; try with_reducible rfl
       try simp only [Act.put, zpA, zpB, zpC]
      refine held_end ?_
      clear hS hpi hpi2 hAX hcc hcd hpc hp hl
      have hcl := Hcl.out
      have hs1 : k + 1 ≤ maxLen := by simp only [maxLen]; omega
      have hs2 : (k + 1) * 24 ≤ 70368744177664 := by omega
      have HPa := Lib.hid (HP7.out.alloc (.cells #[.slice A7 N c7] 24))
      have HGa := Lib.hid (HG7.out.alloc (.cells #[.slice A7 N c7] 24))
      have HTa := Lib.hid (HT7.out.alloc (.cells #[.slice A7 N c7] 24))
      have HBa := Lib.hid (bal HB7.out (.cells #[.slice A7 N c7] 24))
      have HLa := Lib.hid ((ListsOwn.snoc (hd := (A7, N, c7)) HL7.out HX7.out).below ((Below.refl _ _).alloc (Nat.le_refl _) (.cells #[.slice A7 N c7] 24)))
      go_wp2_with (at_builtin
                   refine wpList_append_any _ rfl (.tmp 69) (.tmp 71) 132 rfl w.heap.size 24 s0 (.slice none 0 0) 1 24 Tryz.underlying132 hs0 hsz0 hsz1 hsz2 rfl (by decide) A9 k c9 _ rfl HTa.out (some ⟨_, 0, none⟩) 1 1 [.slice A7 N c7] rfl (reads_new _ _ _) (one_slice _ _ _) hs1 hs2 HBa.out.size ?_
                   intro A8 c8 w8 r1 r2 r3 r4 r5
                   have R1 := Lib.hid r1
                   have R2 := Lib.hid r2
                   have R3 := Lib.hid r3
                   clear r1 r2 r3 r4 r5)
      have HP8 := Lib.hid (HPa.out.apart HTa.out (by decide) R3.out)
      have HG8 := Lib.hid (HGa.out.apart HTa.out (by decide) R3.out)
      have HL8 := Lib.hid (show ListsOwn w8 w.heap.size (hds ++ [(A7, N, c7)]) (ls ++ [l]) from RowsOwn.apart HLa.out HTa.out (by decide) R3.out)
      have HB8 := Lib.hid (HBa.out.trans R2.out)
      go_roundw
      case rel => exact ⟨k + 1, p1, ls ++ [l], hds ++ [(A7, N, c7)], A8, c8, Hlt.out, rfl, rfl, by go_num, Lib.hid hp1k, HIn, Lib.hid (fun x hx => by rcases List.mem_append.1 hx with h | h; exact HN.out x h; rw [List.mem_singleton.1 h]; exact Hll.out), Lib.hid (by rw [List.length_append, HK.out]; rfl), Lib.hid (by rw [List.map_append]; exact R1.out), HL8, HP8, HG8, HB8⟩
      case measure => have := Hlt.out; simp [intOf]; omega
    ·obtain rfl : n = k := by omega
     have HKn := Lib.hid (show hds.length = n from HK.out)
     have Hlsn := Lib.hid (show ls.length = n by have := HL.out.len; rw [HK.out] at this; exact this.symm)
     have HIc := Lib.hid (show iterI (colD cs (N : Int)) cs.length ([], bd.drop p0) = .ok (ls, bd.drop p) by rw [cos_len Hr.out]; exact HI.out)
     clear HI HX HK
     go_wp2
     go_loopw [8, 15] (fun ap ix WX => ∃ (i q : Nat) (ws : List Int) (I : Option Addr) (d : Nat), i ≤ N ∧ ap = .int .i64 (q : Int) ∧ ix = .int .i64 (i : Int) ∧ Hid (q ≤ k0) ∧ Hid (iterI weiD i ([], bd.drop p) = .ok (ws, bd.drop q)) ∧ Hid (ws.length = i) ∧
      Hid (WX.ownsRow w.heap.size 24 1 (.slice A9 n c9) n (hds.map hdV)) ∧ Hid (ListsOwn WX w.heap.size hds ls) ∧ Hid (Blk WX g6 30 #[.int .i64 (V : Int), .int .i64 (S : Int), .slice I i d]) ∧ Hid (ItemsOwn WX w.heap.size I i d (itemsT ls ws)) ∧ Hid (Blk WX w.heap.size 30 #[.int .i64 0, .int .i64 0, .slice none 0 0]) ∧ Hid (Below w.heap.size w WX)) (fun _ ix _ => N - (intOf ix).toNat)
     case atStart => exact ⟨0, p, [], none, 0, Nat.zero_le _, rfl, rfl, Hp, Lib.hid rfl, Lib.hid rfl, HT, HL, HP, Lib.hid ItemsOwn.nil, HG, HB⟩
     case round =>
      clear HT HL HP HG HB hp
      obtain ⟨i, q, ws, I, d, hi, rfl, rfl, Hq, HI, HWl, HT, HL, HP, HIt, HG, HB⟩ := hrel
      have hp := Hq.out
      by_cases hlt : i < N
      ·have Hlt := Lib.hid hlt
       have hii : (i : Int) < (N : Int) := by omega
       have di : decide ((i : Int) < (N : Int)) = true := by simp; omega
       have di2 : decide (i < N) = true := by simp; omega
       have HX := Lib.hid (HX0.out.below HB.out)
       have hcut := HX.out.cut hp hkc
       rw [Nat.mul_one, u8s_drop, if_neg (show ¬ cb = q by omega)] at hcut
       obtain ⟨AX, hAX⟩ : ∃ A2, Option.map (fun x : Addr => x.add q) B = A2 := ⟨_, rfl⟩
       rw [hAX] at hcut
       have hlen := reads_len hcut
       have hcbp : ¬ cb = q := by omega
       have hpc : q ≤ cb := by omega
       have hpi : (q : Int) ≤ (k0 : Int) := by omega
       have hpi2 : (q : Int) ≤ (cb : Int) := by omega
       have hcc : k0 - q ≤ cb - q := by omega
       have hcd : cb - q ≤ maxLen := by simp only [maxLen] at hcm ⊢; omega
       have HK := Lib.hid (refGetInt_any AX (k0 - q) (cb - q) (bd.drop q) wr (hcut.more HB.out.size) hcc hcd)
       rcases get_only (bd.drop q) with ⟨M, hg, hM, hsl, -⟩ | ⟨er, hg, he, hel⟩
       ·have HWs := Lib.hid (show weiD i (ws, bd.drop q) = if zag M = 0 then .error 172 else .ok (ws ++ [zag M], (bd.drop q).drop (leb M).length) by unfold weiD; simp only; rw [hg]; rfl)
        rw [hg] at HK
        unfold gottenInt at HK
        simp only at HK
        rw [hlen] at hsl
        generalize (leb M).length = sz at *
        generalize zag M = wv at *
        obtain ⟨q1, hq1⟩ : ∃ q1, q1 = q + sz := ⟨_, rfl⟩
        rw [List.drop_drop, ← hq1] at HWs
        have hadd : (q : Int) + (sz : Int) = (q1 : Int) := by omega
        have hq1k : q1 ≤ k0 := by omega
        clear hg hcut hlen hsl hq1 hM
        go_wp2_with fail
        with_reducible refine HK.out.mono ?_
        rintro e w7 ⟨rfl, rfl⟩
        clear HK hpi hpi2 hAX hcbp hcc hcd hpc hp HX
        by_cases hwv : wv = 0
        ·have HE := Lib.hid (show decB cs xs = .error 172 from decB_weis Hmay.out HDX.out HIc.out (iterI_err HI.out (by rw [HWs.out, if_pos hwv]) Hlt.out))
         subst hwv
         have f0 := HG.out.frozen 0
         have f1 := HG.out.frozen 1
         have f2 := HG.out.frozen 2
         have g0 := HG.out.cell 0
         have g1 := HG.out.cell 1
         have g2 := HG.out.cell 2
         go_wp2
         have H2 := same_set3b HG.out
         have c0 := H2.cell 0
         have c1 := H2.cell 1
         have c2 := H2.cell 2
         have HB2 := Lib.hid (((HB.out.setCell (p := ⟨w.heap.size, 0, none⟩) (Nat.le_refl _) (.int .i64 0)).setCell (p := ⟨w.heap.size, 1, none⟩) (Nat.le_refl _) (.int .i64 0)).setCell (p := ⟨w.heap.size, 2, none⟩) (Nat.le_refl _) (.slice none 0 0))
         refine bodyPost_ret (v := .tuple #[.agg #[.int .i64 0, .int .i64 0, .slice none 0 0], .int .i64 172]) (by rw [results_cell_tmp rfl]; simp [go_sem, c0, c1, c2]) rfl ?_
         refine ⟨HB2.out, ?_⟩
         rw [HE.out]
         exact ⟨rfl, by decide⟩
        ·have dw : (wv == 0) = false := by simpa using hwv
         have HIn := Lib.hid (iterI_ok HI.out (show weiD i (ws, bd.drop q) = .ok (ws ++ [wv], bd.drop q1) by rw [HWs.out, if_neg hwv]))
         have Hq1 := Lib.hid hq1k
         clear hwv
         generalize wr = Wp at *
         go_wp2
         go_loopw [19, 20] (fun u jx WX => ∃ (j : Nat) (A10 : Option Addr) (c10 : Nat), j ≤ n ∧ u = .slice A10 j c10 ∧ jx = .int .i64 (j : Int) ∧ Hid (WX.ownsRow Wp.heap.size 23 3 (.slice A10 j c10) j (cls (rowTo ls i j))) ∧ Hid (Below Wp.heap.size Wp WX)) (fun _ jx _ => n - (intOf jx).toNat)
         case atStart => exact ⟨0, none, 0, Nat.zero_le _, rfl, rfl, Lib.hid (World.ownsRow_nil _ _ _ _), Lib.hid (Below.refl _ _)⟩
         case round =>
          obtain ⟨j, A10, c10, hj, rfl, rfl, HO, HY⟩ := hrel
          by_cases hlj : j < n
          ·have Hlj := Lib.hid hlj
           have hji : (j : Int) < (n : Int) := by omega
           obtain ⟨hd, hhd⟩ : ∃ hd, hds[j]? = some hd := ⟨_, List.getElem?_eq_getElem (by rw [HKn.out]; exact hlj)⟩
           obtain ⟨L, hL⟩ : ∃ L, ls[j]? = some L := ⟨_, List.getElem?_eq_getElem (by rw [Hlsn.out]; exact hlj)⟩
           have hLn := HN.out L (List.mem_of_getElem? hL)
           obtain ⟨hrd, -, -⟩ := (HL.out.below HY.out).at_ hhd hL
           have hrow := rowTo_succ ls i j _ hL
           have hhl := cls_len hrd
           have HTr := Lib.hid (own_reads (own_below HT.out HY.out))
           obtain ⟨adT, uT, rfl, -, huT, hcT⟩ := HTr.out.at_ hlj
           rw [List.getElem?_map, hhd] at huT
           obtain ⟨hA, hn2, hc2⟩ := hd
           simp only [Option.map_some, Option.some.injEq, hdV] at huT
           subst huT
           simp only at hrd hhl
           obtain rfl : N = hn2 := by omega
           obtain ⟨ad3, u, x, sx, rfl, hbk3, hxc, g0', g1', g2'⟩ := cls_at hrd Hlt.out
           rw [hxc, Option.getD_some] at hrow
           have Hrow := Lib.hid hrow
           have hcl := Hcl.out
           have hs1 : j + 1 ≤ maxLen := by simp only [maxLen]; omega
           have hs2 : (j + 1) * 32 ≤ 70368744177664 := by omega
           clear hhd hL hLn hrd hrow hhl hxc hbk3 HTr
           go_wp2_with (at_builtin
                        refine wpList_append_any _ rfl (.tmp 102) (.tmp 110) 24 rfl Wp.heap.size 23 j0 (.agg #[.bool false, .int .i64 0, .string ⟨#[]⟩]) 3 32 Tryz.underlying24 hj0 hk0 hj1 hk2 rfl (by decide) A10 j c10 _ rfl (HO.out.alloc _) (some ⟨_, 0, none⟩) 1 1 (cls [(u, x, sx)]) rfl (reads_cell _ _ _ _) (cls_one _) hs1 hs2 (Nat.le_trans HY.out.size (by simp)) ?_
                        intro A8 c8 w8 r1 r2 r3 r4 r5
                        rw [← cls_append, ← Hrow.out] at r1
                        have R1 := Lib.hid r1
                        have R2 := Lib.hid ((bal HY.out _).trans r2)
                        clear r1 r2 r3 r4 r5)
           go_roundw
           case rel => exact ⟨j + 1, A8, c8, Hlj.out, rfl, by go_num, R1, R2⟩
           case measure => have := Hlj.out; simp [intOf]; omega
          ·obtain rfl : n = j := by omega
           have HTw := Lib.hid (own_below HT.out HY.out)
           have HLw := Lib.hid (HL.out.below HY.out)
           have HPw := Lib.hid (HP.out.on HY.out)
           have HGw := Lib.hid (HG.out.on HY.out)
           have HBw := Lib.hid (bon HB.out HY.out)
           obtain ⟨hs3, g1, g2⟩ := HIt.out.below HY.out
           have G1 := Lib.hid (own_below g1 ((Below.refl wr.heap.size wr).alloc (Nat.le_refl _) (.cells #[.slice A10 n c10, .int .i64 wv] 26)))
           have G2 := Lib.hid (RowsOwn.below g2 ((Below.refl wr.heap.size wr).alloc (Nat.le_refl _) (.cells #[.slice A10 n c10, .int .i64 wv] 26)))
           have HOr := Lib.hid (own_below (own_mono HO.out HB.out.size) ((Below.refl wr.heap.size wr).alloc (Nat.le_refl _) (.cells #[.slice A10 n c10, .int .i64 wv] 26)))
           have HTa := Lib.hid (HTw.out.alloc (.cells #[.slice A10 n c10, .int .i64 wv] 26))
           have HLa := Lib.hid (HLw.out.below ((Below.refl wr.heap.size wr).alloc (Nat.le_refl _) (.cells #[.slice A10 n c10, .int .i64 wv] 26)))
           have HPa := Lib.hid (HPw.out.alloc (.cells #[.slice A10 n c10, .int .i64 wv] 26))
           have HGa := Lib.hid (HGw.out.alloc (.cells #[.slice A10 n c10, .int .i64 wv] 26))
           have HBa := Lib.hid (bal HBw.out (.cells #[.slice A10 n c10, .int .i64 wv] 26))
           have hcp := HPw.out.cell 2
           have hil := Hlt.out
           have hg6 := Hg6.out
           have hsa : i + 1 ≤ maxLen := by simp only [maxLen]; omega
           have hsb : (i + 1) * 32 ≤ 70368744177664 := by omega
           have Hsn := Lib.hid (show itemsT ls (ws ++ [wv]) = itemsT ls ws ++ [(rowTo ls i n, wv)] by rw [itemsT_snoc, HWl.out, ← rowTo_all, Hlsn.out])
           clear g1 g2
           go_wp2_with (at_builtin
                        refine wpList_append_any _ rfl (.tmp 113) (.tmp 117) 27 rfl w.heap.size 26 i0 (.agg #[.slice none 0 0, .int .i64 0]) 2 32 Tryz.underlying27 hi0 hl0 hi1 hl2 rfl (by decide) I i d _ rfl G1.out (some ⟨_, 0, none⟩) 1 1 (itV (A10, n, c10) (rowTo ls i n, wv)) rfl (by exact reads_item _ _ rfl (A10, n, c10) (rowTo ls i n, wv)) (itV_one _ _) hsa hsb HBa.out.size ?_
                        intro A8 c8 w8 r1 r2 r3 r4 r5
                        have R1 := Lib.hid r1
                        have R2 := Lib.hid r2
                        have R3 := Lib.hid r3
                        clear r1 r2 r3 r4 r5
                        have hcx := (HPa.out.apart G1.out (by decide) R3.out).cell 2
                        have hfx := (HPa.out.apart G1.out (by decide) R3.out).frozen 2)
           have HP8 := Lib.hid (HPa.out.apart G1.out (by decide) R3.out)
           have HT8 := Lib.hid (own_far (own_apart HTa.out G1.out (by decide) R3.out) HP8.out (by decide) 2 (.slice A8 (i + 1) c8))
           have HL8 := Lib.hid (ListsOwn.far (RowsOwn.apart HLa.out G1.out (by decide) R3.out) HP8.out (by decide) 2 (.slice A8 (i + 1) c8))
           have HG8 := Lib.hid ((HGa.out.apart G1.out (by decide) R3.out).far (p := ⟨g6, 2, none⟩) (by show w.heap.size ≠ g6; omega) (.slice A8 (i + 1) c8))
           have HB8 := Lib.hid ((HBa.out.trans R2.out).setCell (p := ⟨g6, 2, none⟩) (by show w.heap.size ≤ g6; omega) (.slice A8 (i + 1) c8))
           have HI8 := Lib.hid ((items_app (hd := (A10, n, c10)) (it := (rowTo ls i n, wv)) G1.out G2.out HOr.out R3.out R1.out).far HP8.out (by decide) (by decide) 2 (.slice A8 (i + 1) c8))
           rw [← Hsn.out] at HI8
           have HP9 := Lib.hid (HP8.out.set_ 2 (.slice A8 (i + 1) c8))
           simp only [List.setIfInBounds_toArray, List.set_cons_zero, List.set_cons_succ] at HP9
           go_roundw
           case rel => exact ⟨i + 1, q1, ws ++ [wv], A8, c8, Hlt.out, rfl, by go_num, Hq1, HIn, Lib.hid (by rw [List.length_append, HWl.out]; rfl), HT8, HL8, HP9, HI8, HG8, HB8⟩
           case measure => have := Hlt.out; simp [intOf]; omega
       ·have HE := Lib.hid (show decB cs xs = .error er from decB_weis Hmay.out HDX.out HIc.out (iterI_err HI.out (by unfold weiD; simp only; rw [hg]; simp [he]) Hlt.out))
        rw [hg] at HK
        unfold gottenInt at HK
        simp only at HK
        have hei : ((er : Int) != 0) = true := by simpa using he
        have He := Lib.hid he
        clear hg hcut hlen he hel HX
        go_wp2_with fail
        with_reducible refine HK.out.mono ?_
        rintro e w7 ⟨rfl, rfl⟩
        clear HK hpi hpi2 hAX hcbp hcc hcd hpc hp
        have f0 := HG.out.frozen 0
        have f1 := HG.out.frozen 1
        have f2 := HG.out.frozen 2
        have g0 := HG.out.cell 0
        have g1 := HG.out.cell 1
        have g2 := HG.out.cell 2
        go_wp2
        have H2 := same_set3b HG.out
        have c0 := H2.cell 0
        have c1 := H2.cell 1
        have c2 := H2.cell 2
        have HB2 := Lib.hid (((HB.out.setCell (p := ⟨w.heap.size, 0, none⟩) (Nat.le_refl _) (.int .i64 0)).setCell (p := ⟨w.heap.size, 1, none⟩) (Nat.le_refl _) (.int .i64 0)).setCell (p := ⟨w.heap.size, 2, none⟩) (Nat.le_refl _) (.slice none 0 0))
        refine bodyPost_ret (v := .tuple #[.agg #[.int .i64 0, .int .i64 0, .slice none 0 0], .int .i64 (er : Int)]) (by rw [results_cell_tmp rfl]; simp [go_sem, c0, c1, c2]) rfl ?_
        refine ⟨HB2.out, ?_⟩
        rw [HE.out]
        exact ⟨rfl, He.out⟩
      ·obtain rfl : N = i := by omega
       have Hall := Lib.hid (decB_all (u := (ws, bd.drop q)) Hmay.out HDX.out HIc.out HI.out)
       simp only at Hall
       by_cases hq : q < k0
       ·have hne : bd.drop q ≠ [] := by
         intro h
         have := congrArg List.length h
         rw [List.length_drop, Hbl.out] at this
         simp at this
         omega
        have HE := Lib.hid (show decB cs xs = .error 30 by rw [Hall.out, if_neg hne])
        have dq : decide ((q : Int) < (k0 : Int)) = true := by simp; omega
        have dq2 : decide (q < k0) = true := by simp; omega
        clear hne
        have f0 := HG.out.frozen 0
        have f1 := HG.out.frozen 1
        have f2 := HG.out.frozen 2
        have g0 := HG.out.cell 0
        have g1 := HG.out.cell 1
        have g2 := HG.out.cell 2
        go_wp2
        have H2 := same_set3b HG.out
        have c0 := H2.cell 0
        have c1 := H2.cell 1
        have c2 := H2.cell 2
        have HB2 := Lib.hid (((HB.out.setCell (p := ⟨w.heap.size, 0, none⟩) (Nat.le_refl _) (.int .i64 0)).setCell (p := ⟨w.heap.size, 1, none⟩) (Nat.le_refl _) (.int .i64 0)).setCell (p := ⟨w.heap.size, 2, none⟩) (Nat.le_refl _) (.slice none 0 0))
        refine bodyPost_ret (v := .tuple #[.agg #[.int .i64 0, .int .i64 0, .slice none 0 0], .int .i64 30]) (by rw [results_cell_tmp rfl]; simp [go_sem, c0, c1, c2]) rfl ?_
        refine ⟨HB2.out, ?_⟩
        rw [HE.out]
        exact ⟨rfl, by decide⟩
       ·have hnil : bd.drop q = [] := List.drop_of_length_le (by rw [Hbl.out]; omega)
        have HE := Lib.hid (show decB cs xs = .ok ((V : Int), (S : Int), itemsT ls ws) by rw [Hall.out, if_pos hnil])
        have dq : decide ((q : Int) < (k0 : Int)) = false := by simp; omega
        have dq2 : decide (q < k0) = false := by simp; omega
        have c0 := HP.out.cell 0
        have c1 := HP.out.cell 1
        have c2 := HP.out.cell 2
        have k0' := HG.out.cell 0
        have k1' := HG.out.cell 1
        have k2' := HG.out.cell 2
        have f0 := HG.out.frozen 0
        have f1 := HG.out.frozen 1
        have f2 := HG.out.frozen 2
        clear hnil
        go_wp2
        have H2a := ((HG.out.set_ 0 (.int .i64 (V : Int))).set_ 1 (.int .i64 (S : Int))).set_ 2 (.slice I N d)
        simp only [List.setIfInBounds_toArray, List.set_cons_zero, List.set_cons_succ] at H2a
        have e0 := H2a.cell 0
        have e1 := H2a.cell 1
        have e2 := H2a.cell 2
        have HB2 := Lib.hid (((HB.out.setCell (p := ⟨w.heap.size, 0, none⟩) (Nat.le_refl _) (.int .i64 (V : Int))).setCell (p := ⟨w.heap.size, 1, none⟩) (Nat.le_refl _) (.int .i64 (S : Int))).setCell (p := ⟨w.heap.size, 2, none⟩) (Nat.le_refl _) (.slice I N d))
        refine bodyPost_ret (v := .tuple #[.agg #[.int .i64 (V : Int), .int .i64 (S : Int), .slice I N d], .int .i64 0]) (by rw [results_cell_tmp rfl]; simp [go_sem, e0, e1, e2]) rfl ?_
        refine ⟨HB2.out, ?_⟩
        rw [HE.out]
        exact ⟨I, N, d, rfl, ((HIt.out.far HG.out (by decide) (by decide) 0 _).far (HG.out.set_ 0 _) (by decide) (by decide) 1 _).far ((HG.out.set_ 0 _).set_ 1 _) (by decide) (by decide) 2 _⟩
end Go.Proofs.YtjpjalmilfgckaaGreatDoor
namespace Go.Proofs.YtjpjalmilfgckaaGreatDoor
open Go.RowKit
set_option maxRecDepth 100000 in
set_option maxHeartbeats 1000000 in
theorem rsame17_any (v1 s1 : Int) (A : Option Addr) (n c : Nat) (l1 : List It) (v2 s2 : Int) (B : Option Addr) (m d : Nat) (l2 : List It) (w : World) (h1 : ItemsAt w w.heap.size A n l1) (h2 : ItemsAt w w.heap.size B m l2) (hn : n ≤ maxLen) :
  Calls Tryz.prog 35 #[.agg #[.int .i64 v1, .int .i64 s1, .slice A n c], .agg #[.int .i64 v2, .int .i64 s2, .slice B m d]] w fun e w' => e = .returned (.bool (sameBa (v1, s1, l1) (v2, s2, l2))) ∧ Below w.heap.size w w' := by
 have HB1 := Lib.hid (bal (bal (Below.refl w.heap.size w) (.cells #[.int .i64 v1, .int .i64 s1, .slice A n c] 30)) (.cells #[.int .i64 v2, .int .i64 s2, .slice B m d] 30))
 have HK := Lib.hid (eqItems_any A B n c m d l1 l2 ((w.alloc (.cells #[.int .i64 v1, .int .i64 s1, .slice A n c] 30)).alloc (.cells #[.int .i64 v2, .int .i64 s2, .slice B m d] 30)) (h1.on HB1.out) (h2.on HB1.out) hn)
 clear h1 h2 hn
 by_cases hv : v1 = v2
 ·subst hv
  have d1 : (v1 == v1) = true := by simp
  by_cases hs : s1 = s2
  ·subst hs
   have d2 : (s1 == s1) = true := by simp
   go_enter Tryz.func35, Tryz.ntmps35
   go_wp2_with fail
   with_reducible refine HK.out.mono ?_
   rintro e w1 ⟨rfl, hb⟩
   have HB := Lib.hid (bon HB1.out hb)
   clear hb
   go_wp2
   go_ret
   refine ⟨?_, HB.out⟩
   simp [sameBa]
  ·have d2 : (s1 == s2) = false := by simpa using hs
   have HE := Lib.hid (show sameBa (v1, s1, l1) (v1, s2, l2) = false from sameBa_not (fun h => hs (by simp only [Prod.mk.injEq] at h; exact h.2.1)))
   clear hs HK
   go_enter Tryz.func35, Tryz.ntmps35
   go_wp2
   go_ret
   exact ⟨by rw [HE.out]; rfl, HB1.out⟩
 ·have d1 : (v1 == v2) = false := by simpa using hv
  have HE := Lib.hid (show sameBa (v1, s1, l1) (v2, s2, l2) = false from sameBa_not (fun h => hv (by simp only [Prod.mk.injEq] at h; exact h.1)))
  clear hv HK
  go_enter Tryz.func35, Tryz.ntmps35
  go_wp2
  go_ret
  exact ⟨by rw [HE.out]; rfl, HB1.out⟩
end Go.Proofs.YtjpjalmilfgckaaGreatDoor
namespace Go.Proofs.YtjpjalmilfgckaaGreatDoor
open Go.RowKit
theorem cos_take (l : List Co) (k : Nat) : (cos l).take (k * 7) = cos (l.take k) := by
 induction l generalizing k with
 | nil => simp [cos]
 | cons c l ih =>
  cases k with
  | zero => simp [cos]
  | succ k =>
   have := ih k
   simp only [cos, List.flatMap_cons, List.take_succ_cons] at this ⊢
   rw [← this, show (k + 1) * 7 = 7 + k * 7 by omega]
   have h7 : (coV c).length = 7 := rfl
   rw [List.take_append, h7, List.take_of_length_le (by omega)]
   simp
theorem columns17_any (A : Option Addr) (n c : Nat) (l : List Co) (w : World) (hr : Reads w w.heap.size 7 A n (cos l)) (hn : n ≤ c) (hc : c ≤ maxLen) :
  Calls Tryz.prog 30 #[.slice A n c] w fun e w' => ∃ A' k c', e = .returned (.slice A' k c') ∧ k ≤ 40 ∧ w'.ownsRow w.heap.size 45 7 (.slice A' k c') k (cos (l.take 40)) ∧ Below w.heap.size w w' := by
 obtain ⟨mn, hmn⟩ : ∃ mn : Nat, mn = min n 40 := ⟨_, rfl⟩
 have hmi : min (n : Int) 40 = (mn : Int) := by omega
 have h1 : mn ≤ n := by omega
 have h2 : mn ≤ 40 := by omega
 have h3 : mn ≤ c := by omega
 have h4 : (mn : Int) ≤ (c : Int) := by omega
 have hc63 : c ≤ 9223372036854775807 := by simp only [maxLen] at hc; omega
 have ht := hr.head h1
 rw [cos_take] at ht
 have hE : l.take mn = l.take 40 := by
  have := cos_len hr
  rcases Nat.lt_or_ge n 40 with h | h
  ·rw [List.take_of_length_le (by omega), List.take_of_length_le (by omega)]
  ·rw [show mn = 40 by omega]
 rw [hE] at ht
 have HK := Lib.hid (copyCols_any A mn c (l.take 40) w ht (by omega))
 clear hmn hr ht hE
 go_enter Tryz.func30, Tryz.ntmps30
 go_wp2_with fail
 with_reducible refine HK.out.mono ?_
 rintro e w1 ⟨A', c', rfl, -, -, q3, q4⟩
 have HO := Lib.hid q3
 have HB := Lib.hid q4
 clear q3 q4
 go_wp2
 go_ret
 exact ⟨A', mn, c', rfl, h2, HO.out, HB.out⟩
theorem bytes17_any (A : Option Addr) (n c : Nat) (l : List UInt8) (w : World) (hr : Reads w w.heap.size 1 A n (u8s l)) (hn : n ≤ c) (hc : c ≤ maxLen) :
  Calls Tryz.prog 46 #[.slice A n c] w fun e w' => ∃ A' k c', e = .returned (.slice A' k c') ∧ k ≤ c' ∧ c' ≤ maxLen ∧ w'.ownsRow w.heap.size 5 1 (.slice A' k c') k (u8s (l.take 2000)) ∧ Below w.heap.size w w' := by
 obtain ⟨mn, hmn⟩ : ∃ mn : Nat, mn = min n 2000 := ⟨_, rfl⟩
 have hmi : min (n : Int) 2000 = (mn : Int) := by omega
 have h1 : mn ≤ n := by omega
 have h3 : mn ≤ c := by omega
 have h4 : (mn : Int) ≤ (c : Int) := by omega
 have hc63 : c ≤ 9223372036854775807 := by simp only [maxLen] at hc; omega
 have ht := hr.head h1
 rw [Nat.mul_one, u8s_take] at ht
 have hE : l.take mn = l.take 2000 := by
  have := reads_len hr
  rcases Nat.lt_or_ge n 2000 with h | h
  ·rw [List.take_of_length_le (by omega), List.take_of_length_le (by omega)]
  ·rw [show mn = 2000 by omega]
 rw [hE] at ht
 have HK := Lib.hid (copyBytes_any A mn c (l.take 2000) w ht (by omega))
 clear hmn hr ht hE
 go_enter Tryz.func46, Tryz.ntmps46
 go_wp2_with fail
 with_reducible refine HK.out.mono ?_
 rintro e w1 ⟨A', c', rfl, q1, q2, q3, q4⟩
 have HO := Lib.hid q3
 have HB := Lib.hid q4
 have HC := Lib.hid (And.intro q1 q2)
 clear q3 q4 q1 q2
 go_wp2
 go_ret
 exact ⟨A', mn, c', rfl, HC.out.1, HC.out.2, HO.out, HB.out⟩
def twoC : List Co := [(0, ⟨#[]⟩, 2, false, false, 0, ⟨#[]⟩), (0, ⟨#[]⟩, 4, false, false, 0, ⟨#[]⟩)]
theorem reads_litc (w : World) (cs : Array Value) (l : List Co) (b n : Nat) (hb : b = w.heap.size) (h : cs.toList = cos l) (hn : l.length = n) :
  Reads (w.alloc (.cells cs 45)) (w.alloc (.cells cs 45)).heap.size 7 (some ⟨b, 0, none⟩) n (cos l) := by
 subst hb hn
 refine ⟨by rw [cos_length]; omega, fun _ => ⟨_, rfl, by simp, fun j u hu => ?_⟩⟩
 have hadd : (⟨w.heap.size, 0, none⟩ : Addr).add j = ⟨w.heap.size, j, none⟩ := by unfold Addr.add; split <;> simp_all
 rw [hadd, cell_of_row _ w.heap.size j cs 45 (0, 0) (heap_alloc_new w _)]
 simpa [← h] using hu
set_option maxRecDepth 100000 in
theorem two_any (w : World) :
  Calls Tryz.prog 10 #[] w fun e w' => e = .returned (.slice (some ⟨w.heap.size, 0, none⟩) 2 2) ∧ Reads w' w'.heap.size 7 (some ⟨w.heap.size, 0, none⟩) 2 (cos twoC) ∧ Below w.heap.size w w' := by
 go_enter Tryz.func10, Tryz.ntmps10
 go_wp2
 go_ret
 exact ⟨rfl, reads_litc _ _ _ _ _ rfl rfl rfl, (Below.refl _ _).alloc (Nat.le_refl _) _⟩
theorem four_reads (s : Nat) (w : World) (g : Nat) (hg : g = w.heap.size) (a b c d : Int) (ha : a = ((s % 256 : Nat) : Int)) (hb : b = ((s / 256 % 256 : Nat) : Int)) (hc : c = ((s / 65536 % 256 : Nat) : Int)) (hd : d = ((s / 16777216 % 256 : Nat) : Int)) :
  Reads (w.alloc (.cells #[.int .u8 a, .int .u8 b, .int .u8 c, .int .u8 d] 5)) (w.alloc (.cells #[.int .u8 a, .int .u8 b, .int .u8 c, .int .u8 d] 5)).heap.size 1 (some ⟨g, 0, none⟩) 4 (u8s (sumB s)) := by
 subst hg
 obtain ⟨g, h, hg, ho, -⟩ := four_new s w a b c d ha hb hc hd
 cases h
 exact own_reads ho
set_option maxRecDepth 100000 in
set_option maxHeartbeats 1000000 in
theorem summed_any (A : Option Addr) (n c : Nat) (l : List UInt8) (w : World) (hr : Reads w w.heap.size 1 A n (u8s l)) (hn : n ≤ 35184372088) (hT : CTab w) :
  Calls Tryz.prog 14 #[.slice A n c] w fun e w' => ∃ A' c', e = .returned (.slice A' (n + 4) c') ∧ n + 4 ≤ c' ∧ c' ≤ maxLen ∧ w'.ownsRow w.heap.size 5 1 (.slice A' (n + 4) c') (n + 4) (u8s (l ++ sumB (crcS l))) ∧ Below w.heap.size w w' := by
 obtain ⟨i0, hi0, hz0, hz1, hz2⟩ := info_parts u8_info
 have HS := Lib.hid (csum_any A n c l w hr (by simp only [maxLen]; omega) hT)
 have HK := Lib.hid (copyBytes_any A n c l w hr (by omega))
 have hs : crcS l < 4294967296 := crcU_lt 0 l
 have Hcells := Lib.hid (sumB_cells (crcS l))
 have Hfour := Lib.hid (fun w a b c d ha hb hc hd => four_new (crcS l) w a b c d ha hb hc hd)
 clear hr hT
 generalize hX : crcS l = X at *
 clear hX
 go_enter Tryz.func14, Tryz.ntmps14
 go_wp2_with fail
 with_reducible refine HS.out.mono ?_
 rintro e w1 ⟨rfl, rfl⟩
 go_wp2_with fail
 with_reducible refine HK.out.mono ?_
 rintro e w2 ⟨A2, c2, rfl, q1, q2, q3, q4⟩
 have HO := Lib.hid q3
 have HB := Lib.hid q4
 clear q1 q2 q3 q4 HS HK
 have hs1 : n + 4 ≤ maxLen := by simp only [maxLen]; omega
 have hs2 : (n + 4) * 1 ≤ 70368744177664 := by omega
 clear Hcells Hfour
 go_wp2_with (at_builtin
              refine wpList_append_any _ rfl (.tmp 7) (.tmp 19) 35 rfl w.heap.size 5 i0 (.int .u8 0) 1 1 Tryz.underlying35 hi0 hz0 hz1 hz2 rfl (by decide) A2 n c2 _ rfl (HO.out.alloc _) (some ⟨_, 0, none⟩) 4 4 (u8s (sumB X)) rfl (by exact four_reads _ _ _ rfl _ _ _ _ (by omega) (by omega) (by omega) (by omega)) (u8s_one _) hs1 hs2 (bal HB.out _).size ?_
              intro A8 c8 w8 r1 r2 r3 r4 r5
              rw [← u8s_append] at r1
              have R1 := Lib.hid r1
              have R2 := Lib.hid ((bal HB.out _).trans r2)
              have R4 := Lib.hid (And.intro r4 r5)
              clear r1 r2 r3 r4 r5)
 go_ret
 exact ⟨A8, c8, rfl, R4.out.1, R4.out.2, R1.out, R2.out⟩
end Go.Proofs.YtjpjalmilfgckaaGreatDoor
