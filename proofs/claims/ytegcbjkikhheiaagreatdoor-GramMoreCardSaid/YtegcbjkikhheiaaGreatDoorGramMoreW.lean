/- The law GramMore, walked. Conditions: none of its own; each lemma states what it asks. -/
import Derived.Test.YtegcbjkikhheiaaGreatDoorGm23
set_option linter.unusedVariables false
set_option linter.unusedSimpArgs false
namespace Go.Proofs.YtegcbjkikhheiaaGreatDoor
open Go.RowKit
def LastOk (lc : List Co) (v s : Int) (lb : List It) (i : Nat) (la : Int) : Prop := (i = 0 ∧ la = -1) ∨ ∃ j, i = j + 1 ∧ la = ((encA lc (v, s, lb.take j)).length : Int)
theorem LastOk.lt {lc : List Co} {v s : Int} {lb : List It} {i : Nat} {la : Int} (h : LastOk lc v s lb i la) (hi : i ≤ lb.length) : la < ((encA lc (v, s, lb.take i)).length : Int) := by
  rcases h with ⟨rfl, rfl⟩ | ⟨j, rfl, rfl⟩
  · omega
  · have := more_v (cs := lc) (v := v) (s := s) (l := lb) (i := j) (by omega)
    omega
set_option maxRecDepth 100000 in
set_option maxHeartbeats 4000000 in
theorem gramMore_walk (A : Option Addr) (n c : Nat) (l : List Co) (v s : Int) (I : Option Addr) (m d : Nat) (li : List It) (w : World) (hr : Reads w w.heap.size 7 A n (cos l)) (hn : n ≤ c) (hc : c ≤ maxLen) (hok : CoOk l)
    (hv : -9223372036854775808 ≤ v ∧ v ≤ 9223372036854775807) (hs : -9223372036854775808 ≤ s ∧ s ≤ 9223372036854775807) (hi : ItemsAt w w.heap.size I m li) (hm : m ≤ d) (hd : d ≤ maxLen) (hit : ItOk li) (hT : Tab2 w.heap.size w) :
    Calls Tryz.prog 6 #[.slice A n c, .agg #[.int .i64 v, .int .i64 s, .slice I m d]] w fun e w' => e = .returned (.bool true) ∧ Below w.heap.size w w' := by
  have Hr := Lib.hid hr
  have HT := Lib.hid hT
  have Hi := Lib.hid hi
  have Hit := Lib.hid hit
  have Hs := Lib.hid hs.2
  have hmm : m ≤ maxLen := Nat.le_trans hm hd
  have HP := Lib.hid (Blk.new w 25 #[.int .i64 v, .int .i64 s, .slice I m d])
  have HB := Lib.hid (bal (Below.refl w.heap.size w) (.cells #[.int .i64 v, .int .i64 s, .slice I m d] 25))
  clear hr hT hi hit hs hv hm hd hok
  go_enter Tryz.func6, Tryz.ntmps6
  go_wp2
  generalize hW : w.alloc (.cells #[.int .i64 v, .int .i64 s, .slice I m d] 25) = W1 at *
  clear hW
  have HL0 := Lib.hid (show ∀ w', Below W1.heap.size W1 w' → w'.cell? ⟨w.heap.size, 0, none⟩ = some (.int .i64 v) from fun w' h => (HP.out.on h).cell 0)
  have HL1 := Lib.hid (show ∀ w', Below W1.heap.size W1 w' → w'.cell? ⟨w.heap.size, 1, none⟩ = some (.int .i64 s) from fun w' h => (HP.out.on h).cell 1)
  have HL2 := Lib.hid (show ∀ w', Below W1.heap.size W1 w' → w'.cell? ⟨w.heap.size, 2, none⟩ = some (.slice I m d) from fun w' h => (HP.out.on h).cell 2)
  have hS : Below W1.heap.size W1 W1.drew := (Below.refl _ _).drew
  refine wp_region_phase (fun w' => Below W1.heap.size W1 w') [0, 2] [(0, false), (2, false), (1, true), (3, true)] (fun _ => True) [(4, false), (5, true)] (by kernel_rfl) (by kernel_rfl) (by kernel_rfl) (fun d _ _ _ _ h => by cases d <;> exact h) ?_
  refine phase_pure (v := ?_) rfl rfl (by simp [Region.wanted, yielded]) hS ?_ ?_
  rotate_left
  · intro w hw; go_simp; try with_reducible rfl
  try simp only [Act.put, List.setIfInBounds_toArray, List.set_cons_succ, List.set_cons_zero]
  refine phase_pure (v := ?_) rfl rfl (by simp [Region.wanted, yielded]) hS ?_ ?_
  rotate_left
  · intro w hw; have c0 := HL0.out w hw; have c1 := HL1.out w hw; have c2 := HL2.out w hw; clear hw; go_simp; try with_reducible rfl
  try simp only [Act.put, List.setIfInBounds_toArray, List.set_cons_succ, List.set_cons_zero]
  refine phase_eff1 rfl (by simp [Region.wanted, yielded]) fun K hK => ?_
  go_simp
  with_reducible refine (columns18_any A n c l _ (Hr.out.on (bon HB.out hS)) hn hc).mono ?_
  rintro e w2 ⟨A1, k1, c1, rfl, hk1, o1, hb2⟩
  have HS2 := Lib.hid (bon hS hb2)
  have HO := Lib.hid o1
  clear o1 hb2
  refine held_go hK (by exact HS2.out) fun hS => ?_
  clear hK K
  try simp only [Act.put, List.setIfInBounds_toArray, List.set_cons_succ, List.set_cons_zero]
  refine phase_eff1 rfl (by simp [Region.wanted, yielded]) fun K hK => ?_
  go_simp
  with_reducible refine (cut18_any v s I m d li _ (Hi.out.on (bon HB.out HS2.out)) hmm Hit.out).mono ?_
  rintro e w3 ⟨A3, k3, c3, rfl, o3, hb3⟩
  have HS3 := Lib.hid (bon HS2.out hb3)
  have HO := Lib.hid (own_below HO.out hb3)
  have HIo := Lib.hid o3
  clear o3 hb3
  refine held_go hK (by exact HS3.out) fun hS => ?_
  clear hK K
  try simp only [Act.put, List.setIfInBounds_toArray, List.set_cons_succ, List.set_cons_zero]
  refine phase_end ?_
  have HP3 := Lib.hid (HP.out.on HS3.out)
  have HBc := Lib.hid (bon HB.out HS3.out)
  clear hS HL0 HL1 HL2 HS2 HP
  have hS : True := trivial
  refine held_pure (v := ?_) rfl rfl (by simp [Region.wanted, yielded]) hS ?_ ?_
  rotate_left
  · intro w hw; go_simp; try with_reducible rfl
  try simp only [Act.put, List.setIfInBounds_toArray, List.set_cons_succ, List.set_cons_zero]
  have a0 := HP3.out.cell 0
  have a1 := HP3.out.cell 1
  have a2 := HP3.out.cell 2
  have f0 := HP3.out.frozen 0
  have f1 := HP3.out.frozen 1
  have f2 := HP3.out.frozen 2
  refine held_eff1 rfl (by simp [Region.wanted, yielded]) fun K hK => ?_
  go_simp
  clear a0 a1 a2 f0 f1 f2
  obtain ⟨w4, hw4⟩ : ∃ w4, w4 = ((w3.setCell ⟨w.heap.size, 0, none⟩ (.int .i64 v)).setCell ⟨w.heap.size, 1, none⟩ (.int .i64 s)).setCell ⟨w.heap.size, 2, none⟩ (.slice A3 k3 c3) := ⟨_, rfl⟩
  obtain ⟨g1, g2, g3, g4, g5, g6⟩ := box_put HP3.out HIo.out hw4
  have HC3 := Lib.hid HIo.out.caps
  rw [← hw4]
  have hk3 : k3 ≤ 30 := by
    have := HIo.out.len
    have := cutl_len li
    omega
  have H := Lib.hid (show LawB w A1 k1 (l.take 40) v s A3 k3 c3 (cutl li) w4 from ⟨HBc.out.trans (g3 _ (Nat.le_refl _)), g1, own_reads (g4 HO.out (by decide)), g2.at_, HT.out.on (HBc.out.trans (g3 _ (Nat.le_refl _))), hk1, hk3, cutl_ok Hit.out, Hs.out⟩)
  generalize l.take 40 = lc at H
  clear hw4 g1 g2 g3 g4 g5 g6 HP3 HO HIo HBc HS3
  refine held_go hK (by exact trivial) fun hS => ?_
  clear hK K
  try simp only [Act.put, List.setIfInBounds_toArray, List.set_cons_succ, List.set_cons_zero]
  refine held_end ?_
  clear HB Hr Hi Hit Hs
  generalize cutl li = lb at H
  have hlen := H.out.items.len
  have hk3 := H.out.le2
  have hkc : k3 ≤ c3 := HC3.out.1
  have hc63 : c3 ≤ 9223372036854775807 := by have := HC3.out.2; simp only [maxLen] at this; omega
  have Hlen := Lib.hid hlen
  clear HC3 hlen
  go_wp2
  go_loopw [5, 6] (fun lv iv wr => ∃ (i : Nat) (la : Int), i ≤ k3 + 1 ∧ lv = .int .i64 la ∧ iv = .int .i64 (i : Int) ∧ Hid (LastOk lc v s lb i la) ∧ Hid (LawB w A1 k1 lc v s A3 k3 c3 lb wr)) (fun _ iv _ => 40 - (intOf iv).toNat)
  case atStart => exact ⟨0, -1, by omega, rfl, rfl, Lib.hid (.inl ⟨rfl, rfl⟩), H⟩
  case round =>
    clear H
    obtain ⟨i, la, hi, rfl, rfl, HL, H⟩ := hrel
    have a2 := H.out.box.cell 2
    by_cases hlt : i ≤ k3
    · have d1 : decide ((i : Int) ≤ (k3 : Int)) = true := by simp; omega
      have hic : i ≤ c3 := by omega
      have hii : (i : Int) ≤ (c3 : Int) := by omega
      have Hit := Lib.hid (H.out.items.head hlt)
      have Hok := Lib.hid (H.out.ok.take i)
      have him : i ≤ maxLen := Nat.le_trans hlt H.out.max2
      have Hll := Lib.hid (HL.out.lt (by rw [Hlen.out]; exact hlt))
      have Hnx := Lib.hid (show LastOk lc v s lb (i + 1) ((encA lc (v, s, lb.take i)).length : Int) from .inr ⟨i, rfl, rfl⟩)
      generalize lb.take i = lt at *
      have HL0 := Lib.hid (show ∀ w', Below wr.heap.size wr w' → w'.cell? ⟨w.heap.size, 0, none⟩ = some (.int .i64 v) from fun w' h => (H.out.box.on h).cell 0)
      have HL1 := Lib.hid (show ∀ w', Below wr.heap.size wr w' → w'.cell? ⟨w.heap.size, 1, none⟩ = some (.int .i64 s) from fun w' h => (H.out.box.on h).cell 1)
      have HL2 := Lib.hid (show ∀ w', Below wr.heap.size wr w' → w'.cell? ⟨w.heap.size, 2, none⟩ = some (.slice A3 k3 c3) from fun w' h => (H.out.box.on h).cell 2)
      have hS : Below wr.heap.size wr wr.drew := (Below.refl _ _).drew
      go_wp2
      clear a2
      refine wp_region_keep (fun w' => Below wr.heap.size wr w') [(0, false), (1, false), (2, false), (3, false), (4, false), (5, false), (6, false), (7, false), (8, false), (9, false), (10, true), (11, false), (12, false), (13, false), (14, false), (15, false)] (by kernel_rfl) (by kernel_rfl) (by kernel_rfl) (fun d _ _ _ _ h => by cases d <;> exact h) ?_
      refine held_pure (v := ?_) rfl rfl (by simp [Region.wanted, yielded]) hS ?_ ?_
      rotate_left
      · intro w hw; go_simp; try with_reducible rfl
      try simp only [Act.put, List.setIfInBounds_toArray, List.set_cons_succ, List.set_cons_zero]
      refine held_pure (v := ?_) rfl rfl (by simp [Region.wanted, yielded]) hS ?_ ?_
      rotate_left
      · intro w hw; go_simp; try with_reducible rfl
      try simp only [Act.put, List.setIfInBounds_toArray, List.set_cons_succ, List.set_cons_zero]
      refine held_pure (v := ?_) rfl rfl (by simp [Region.wanted, yielded]) hS ?_ ?_
      rotate_left
      · intro w hw; have c0 := HL0.out w hw; clear hw; go_simp; try with_reducible rfl
      try simp only [Act.put, List.setIfInBounds_toArray, List.set_cons_succ, List.set_cons_zero]
      refine held_pure (v := ?_) rfl rfl (by simp [Region.wanted, yielded]) hS ?_ ?_
      rotate_left
      · intro w hw; go_simp; try with_reducible rfl
      try simp only [Act.put, List.setIfInBounds_toArray, List.set_cons_succ, List.set_cons_zero]
      refine held_pure (v := ?_) rfl rfl (by simp [Region.wanted, yielded]) hS ?_ ?_
      rotate_left
      · intro w hw; have c0 := HL1.out w hw; clear hw; go_simp; try with_reducible rfl
      try simp only [Act.put, List.setIfInBounds_toArray, List.set_cons_succ, List.set_cons_zero]
      refine held_pure (v := ?_) rfl rfl (by simp [Region.wanted, yielded]) hS ?_ ?_
      rotate_left
      · intro w hw; go_simp; try with_reducible rfl
      try simp only [Act.put, List.setIfInBounds_toArray, List.set_cons_succ, List.set_cons_zero]
      refine held_pure (v := ?_) rfl rfl (by simp [Region.wanted, yielded]) hS ?_ ?_
      rotate_left
      · intro w hw; have c0 := HL2.out w hw; clear hw; go_simp; try with_reducible rfl
      try simp only [Act.put, List.setIfInBounds_toArray, List.set_cons_succ, List.set_cons_zero]
      refine held_pure (v := ?_) rfl rfl (by simp [Region.wanted, yielded]) hS ?_ ?_
      rotate_left
      · intro w hw; go_simp; try with_reducible rfl
      try simp only [Act.put, List.setIfInBounds_toArray, List.set_cons_succ, List.set_cons_zero]
      refine held_pure (v := ?_) rfl rfl (by simp [Region.wanted, yielded]) hS ?_ ?_
      rotate_left
      · intro w hw; go_simp; try with_reducible rfl
      try simp only [Act.put, List.setIfInBounds_toArray, List.set_cons_succ, List.set_cons_zero]
      refine held_pure (v := ?_) rfl rfl (by simp [Region.wanted, yielded]) hS ?_ ?_
      rotate_left
      · intro w hw; go_simp; try with_reducible rfl
      try simp only [Act.put, List.setIfInBounds_toArray, List.set_cons_succ, List.set_cons_zero]
      refine held_eff1 rfl (by simp [Region.wanted, yielded]) fun K hK => ?_
      go_simp
      with_reducible refine (gsize_any A1 k1 c1 lc v s A3 i c3 lt _ (H.out.on hS).cols H.out.max1 (Hit.out.on hS) him H.out.sok Hok.out (H.out.on hS).tab).mono ?_
      by_cases hE : batE lc (v, s, lt) = 0
      · have Hsv := Lib.hid (sizeV_ok hE)
        have hle := ((fits_iff _ _).1 hE).enc_le
        rw [hE, Hsv.out]
        clear Hsv hE
        obtain ⟨nl, hnl⟩ : ∃ nl, (encA lc (v, s, lt)).length = nl := ⟨_, rfl⟩
        rw [hnl] at Hll Hnx hle ⊢
        clear hnl
        rintro e w7 ⟨rfl, hb7⟩
        have HS7 := Lib.hid (bon hS hb7)
        clear hb7
        refine held_go hK (by exact HS7.out) fun hS => ?_
        clear hK K
        try simp only [Act.put, List.setIfInBounds_toArray, List.set_cons_succ, List.set_cons_zero]
        refine held_pure (v := ?_) rfl rfl (by simp [Region.wanted, yielded]) hS ?_ ?_
        rotate_left
        · intro w hw; go_simp; try with_reducible rfl
        try simp only [Act.put, List.setIfInBounds_toArray, List.set_cons_succ, List.set_cons_zero]
        refine held_pure (v := ?_) rfl rfl (by simp [Region.wanted, yielded]) hS ?_ ?_
        rotate_left
        · intro w hw; go_simp; try with_reducible rfl
        try simp only [Act.put, List.setIfInBounds_toArray, List.set_cons_succ, List.set_cons_zero]
        refine held_pure (v := ?_) rfl rfl (by simp [Region.wanted, yielded]) hS ?_ ?_
        rotate_left
        · intro w hw; go_simp; try with_reducible rfl
        try simp only [Act.put, List.setIfInBounds_toArray, List.set_cons_succ, List.set_cons_zero]
        refine held_pure (v := ?_) rfl rfl (by simp [Region.wanted, yielded]) hS ?_ ?_
        rotate_left
        · intro w hw; go_simp; try with_reducible rfl
        try simp only [Act.put, List.setIfInBounds_toArray, List.set_cons_succ, List.set_cons_zero]
        refine held_pure (v := ?_) rfl rfl (by simp [Region.wanted, yielded]) hS ?_ ?_
        rotate_left
        · intro w hw; go_simp; try with_reducible rfl
        try simp only [Act.put, List.setIfInBounds_toArray, List.set_cons_succ, List.set_cons_zero]
        refine held_end ?_
        replace H := Lib.hid (H.out.on HS7.out)
        have d2 : decide ((nl : Int) ≤ la) = false := by have := Hll.out; simp; omega
        clear HL0 HL1 HL2 HS7 Hit Hok Hll HL
        go_wp2
        go_roundw
        case rel => exact ⟨i + 1, (nl : Int), by omega, rfl, by go_num, Hnx, H⟩
        case measure => simp [intOf]; omega
      · have Hsv := Lib.hid (sizeV_no hE)
        generalize batE lc (v, s, lt) = E at *
        have d2 : (E != 0) = true := by simpa using hE
        rw [Hsv.out]
        clear Hsv hE
        rintro e w7 ⟨rfl, hb7⟩
        have HS7 := Lib.hid (bon hS hb7)
        clear hb7
        refine held_go hK (by exact HS7.out) fun hS => ?_
        clear hK K
        try simp only [Act.put, List.setIfInBounds_toArray, List.set_cons_succ, List.set_cons_zero]
        refine held_pure (v := ?_) rfl rfl (by simp [Region.wanted, yielded]) hS ?_ ?_
        rotate_left
        · intro w hw; go_simp; try with_reducible rfl
        try simp only [Act.put, List.setIfInBounds_toArray, List.set_cons_succ, List.set_cons_zero]
        refine held_pure (v := ?_) rfl rfl (by simp [Region.wanted, yielded]) hS ?_ ?_
        rotate_left
        · intro w hw; go_simp; try with_reducible rfl
        try simp only [Act.put, List.setIfInBounds_toArray, List.set_cons_succ, List.set_cons_zero]
        refine held_pure (v := ?_) rfl rfl (by simp [Region.wanted, yielded]) hS ?_ ?_
        rotate_left
        · intro w hw; go_simp; try with_reducible rfl
        try simp only [Act.put, List.setIfInBounds_toArray, List.set_cons_succ, List.set_cons_zero]
        refine held_pure (v := ?_) rfl rfl (by simp [Region.wanted, yielded]) hS ?_ ?_
        rotate_left
        · intro w hw; go_simp; try with_reducible rfl
        try simp only [Act.put, List.setIfInBounds_toArray, List.set_cons_succ, List.set_cons_zero]
        refine held_pure (v := ?_) rfl rfl (by simp [Region.wanted, yielded]) hS ?_ ?_
        rotate_left
        · intro w hw; go_simp; try with_reducible rfl
        try simp only [Act.put, List.setIfInBounds_toArray, List.set_cons_succ, List.set_cons_zero]
        refine held_end ?_
        replace H := Lib.hid (H.out.on HS7.out)
        clear HL0 HL1 HL2 HS7 Hit Hok Hll HL Hnx
        go_wp2_with fail
        with_reducible refine (gworks_yes _ H.out.tab).mono ?_
        rintro e w12 ⟨rfl, hb12⟩
        replace H := Lib.hid (H.out.on hb12)
        clear hb12
        go_wp2
        go_ret
        exact ⟨rfl, H.out.below⟩
    · have d1 : decide ((i : Int) ≤ (k3 : Int)) = false := by simp; omega
      go_wp2_with fail
      with_reducible refine (gworks_yes _ H.out.tab).mono ?_
      rintro e w12 ⟨rfl, hb12⟩
      replace H := Lib.hid (H.out.on hb12)
      clear hb12
      go_wp2
      go_ret
      exact ⟨rfl, H.out.below⟩
end Go.Proofs.YtegcbjkikhheiaaGreatDoor
