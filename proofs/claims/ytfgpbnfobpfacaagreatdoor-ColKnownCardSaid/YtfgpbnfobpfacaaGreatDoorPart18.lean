/- Part 18 of the walks, merged: each text under its own heading. Conditions: none of its own; each lemma states what it asks. -/
import Derived.Test.YtfgpbnfobpfacaaGreatDoorPart17
/- Layer 16, walked: the law's cut, puts, fails. -/
set_option linter.unusedVariables false
set_option linter.unusedSimpArgs false
namespace Go.Proofs.YtfgpbnfobpfacaaGreatDoor
open Go.RowKit
def cut1 (c : Cl) : Cl := (c.1, c.2.1, c.2.2.extract 0 (min c.2.2.size 1100))
/-- Cells, cut as the law cuts them. -/
def cutC (l : List Cl) : List Cl := (l.take 60).map cut1
theorem cutC_len (l : List Cl) : (cutC l).length = min 60 l.length := by simp [cutC]
theorem cutC_ok (l : List Cl) (h : ClOk l) : ClOk (cutC l) := by
  intro c hc
  obtain ⟨d, hd, rfl⟩ := List.mem_map.1 hc
  obtain ⟨h1, h2, h3⟩ := h d (List.mem_of_mem_take hd)
  refine ⟨h1, h2, ?_⟩
  simp only [cut1, ByteArray.size_extract]
  omega
set_option maxRecDepth 100000 in
set_option maxHeartbeats 1000000 in
theorem cutC_any (A : Option Addr) (n c : Nat) (l : List Cl) (w : World) (hr : Reads w w.heap.size 3 A n (cls l)) (hn : n ≤ maxLen) (hok : ClOk l) :
    Calls Tryz.prog 12 #[.slice A n c] w fun e w' => ∃ A' c', e = .returned (.slice A' (cutC l).length c') ∧ (cutC l).length ≤ c' ∧ c' ≤ maxLen ∧
      w'.ownsRow w.heap.size 41 3 (.slice A' (cutC l).length c') (cutC l).length (cls (cutC l)) ∧ Below w.heap.size w w' := by
  obtain ⟨j0, hj0, hk0, hj1, hk2⟩ := info_parts cell_info
  have Hr := Lib.hid hr
  have Hok := Lib.hid hok
  have Hln := Lib.hid (cls_len hr)
  have hn63 : n ≤ 9223372036854775807 := by simp only [maxLen] at hn; omega
  clear hr hok hn
  go_enter Tryz.func12, Tryz.ntmps12
  go_wp2
  go_loopw [3, 4] (fun v i wr => ∃ (j : Nat) (A1 : Option Addr) (c1 : Nat), j ≤ n ∧ j ≤ 60 ∧ v = .slice A1 j c1 ∧ i = .int .i64 (j : Int) ∧ Hid (wr.ownsRow w.heap.size 41 3 (.slice A1 j c1) j (cls ((l.take j).map cut1))) ∧ Hid (Below w.heap.size w wr)) (fun _ i _ => n - (intOf i).toNat)
  case atStart => exact ⟨0, none, 0, Nat.zero_le _, by omega, rfl, rfl, Lib.hid (World.ownsRow_nil _ _ _ _), Lib.hid (Below.refl _ _)⟩
  case round =>
    obtain ⟨j, A1, c1, hj, hj60, rfl, rfl, HO, HB⟩ := hrel
    by_cases hlt : j < n ∧ j < 60
    · obtain ⟨hlt1, hlt2⟩ := hlt
      have d1 : decide ((j : Int) < (n : Int)) = true := by simp; omega
      have d2 : decide ((j : Int) < 60) = true := by simp; omega
      obtain ⟨ad, u, x, s, rfl, hbk, hx, h0, h1, h2⟩ := cls_at (Hr.out.below HB.out) hlt1
      have Hx := Lib.hid hx
      have hsz : s.size ≤ 9223372036854775807 := by have := (Hok.out _ (List.mem_of_getElem? hx)).2.2; simp only [maxLen] at this; omega
      obtain ⟨mn, hmn⟩ : ∃ mn : Nat, mn = min s.size 1100 := ⟨_, rfl⟩
      have hmi : min (s.size : Int) 1100 = (mn : Int) := by omega
      have hms : mn ≤ s.size := by omega
      have Hmn := Lib.hid hmn
      have hs1 : j + 1 ≤ maxLen := by simp only [maxLen]; omega
      have hs2 : (j + 1) * 32 ≤ 70368744177664 := by omega
      clear hx hbk hmn
      go_wp2_with (at_builtin
                   refine wpList_append_any _ rfl (.tmp 28) (.tmp 30) 25 rfl w.heap.size 41 j0 (.agg #[.bool false, .int .i64 0, .string ⟨#[]⟩]) 3 32 Tryz.underlying25 hj0 hk0 hj1 hk2 rfl (by decide) A1 j c1 _ rfl (own_below HO.out (((Below.refl _ wr).alloc (Nat.le_refl _) (.cells #[.bool u, .int .i64 x, .string (s.extract 0 mn)] 41)).alloc (by simp) (.cells #[.bool u, .int .i64 x, .string (s.extract 0 mn)] 41))) (some ⟨_, 0, none⟩) 1 1 (cls [(u, x, s.extract 0 mn)]) rfl (by exact reads_cellb _ _ (by simp) _ _ _) (cls_one _) hs1 hs2 (Nat.le_trans HB.out.size (by simp; omega)) ?_
                   intro A8 c8 w8 r1 r2 r3 r4 r5
                   rw [← cls_append] at r1
                   have R1 := Lib.hid r1
                   have R2 := Lib.hid r2
                   clear r1 r2 r3 r4 r5)
      have R1 := Lib.hid (show w8.ownsRow w.heap.size 41 3 (.slice A8 (j + 1) c8) (j + 1) (cls ((l.take (j + 1)).map cut1)) by
        rw [List.take_add_one, Hx.out, List.map_append]
        have := R1.out
        rw [Hmn.out] at this
        exact this)
      have HB := Lib.hid (((HB.out.alloc HB.out.size (.cells #[.bool u, .int .i64 x, .string (s.extract 0 mn)] 41)).alloc (Nat.le_trans HB.out.size (by simp)) (.cells #[.bool u, .int .i64 x, .string (s.extract 0 mn)] 41)).trans R2.out)
      go_roundw
      case rel => exact ⟨j + 1, A8, c8, by omega, by omega, rfl, by go_num, R1, HB⟩
      case measure => simp [intOf]; omega
    · have hd : cutC l = (l.take j).map cut1 ∧ (cutC l).length = j := by
        have hlen : l.length = n := Hln.out
        have : l.take 60 = l.take j := by
          rcases Nat.lt_or_ge j 60 with h | h
          · have : n = j := by omega
            rw [List.take_of_length_le (by omega), List.take_of_length_le (by omega)]
          · rw [show j = 60 by omega]
        refine ⟨by unfold cutC; rw [this], ?_⟩
        rw [cutC_len]
        omega
      have Hd := Lib.hid hd
      obtain ⟨p1, p2⟩ := own_caps HO.out
      have P := Lib.hid (And.intro p1 p2)
      clear hd p1 p2
      by_cases hlt1 : j < n
      · have d1 : decide ((j : Int) < (n : Int)) = true := by simp; omega
        have d2 : decide ((j : Int) < 60) = false := by simp; omega
        go_wp2
        go_ret
        rw [Hd.out.2, Hd.out.1]
        exact ⟨A1, c1, rfl, P.out.1, P.out.2, HO.out, HB.out⟩
      · have d1 : decide ((j : Int) < (n : Int)) = false := by simp; omega
        go_wp2
        go_ret
        rw [Hd.out.2, Hd.out.1]
        exact ⟨A1, c1, rfl, P.out.1, P.out.2, HO.out, HB.out⟩
end Go.Proofs.YtfgpbnfobpfacaaGreatDoor
/- Layer 16, walked: the law's puts, fails, works. -/
set_option linter.unusedVariables false
set_option linter.unusedSimpArgs false
namespace Go.Proofs.YtfgpbnfobpfacaaGreatDoor
open Go.RowKit
theorem eqRow_yes (A B : Option Addr) (n c m d : Nat) (l1 l2 : List Cl) (w : World) (h1 : Reads w w.heap.size 3 A n (cls l1)) (h2 : Reads w w.heap.size 3 B m (cls l2)) (hn : n ≤ maxLen) (h : l1 = l2) :
    Calls Tryz.prog 16 #[.slice A n c, .slice B m d] w fun e w' => e = .returned (.bool true) ∧ Below w.heap.size w w' := by
  have := eqRow_any A B n c m d l1 l2 w h1 h2 hn
  rwa [decide_eq_true h] at this
set_option maxRecDepth 100000 in
set_option maxHeartbeats 1000000 in
theorem puts_yes (k : Int) (nl : Bool) (A : Option Addr) (n c : Nat) (l : List Cl) (B : Option Addr) (m cb : Nat) (want : List UInt8) (w : World) (hr : Reads w w.heap.size 3 A n (cls l)) (hr2 : Reads w w.heap.size 1 B m (u8s want)) (hm : m ≤ cb) (hc : cb ≤ maxLen) (hok : ClOk l) (hn : n ≤ 1000) (hm2 : m ≤ 1000)
    (hk : mayK k = true) (ha : allC k nl l = true) (hp : putB k nl l [] = want) (hT : Tabs w) :
    Calls Tryz.prog 33 #[.int .i64 k, .bool nl, .slice A n c, .slice B m cb] w fun e w' => e = .returned (.bool true) ∧ Below w.heap.size w w' := by
  have hln := cls_len hr
  have Hok := Lib.hid hok
  have HT := Lib.hid hT
  have Hput := Lib.hid (show putE k nl l = 0 ∧ putO k nl l [170] = 170 :: want by
    have h0 : putE k nl l = 0 := by simp [putE, hk, ha]
    refine ⟨h0, ?_⟩
    unfold putO
    rw [if_pos h0]
    unfold putB at hp ⊢
    rw [← hp]
    simp)
  have Hget := Lib.hid (show getC k nl want (n : Int) = .ok (l, m) by
    have h1 := getC_put k nl l hk ha (by omega) []
    rw [List.append_nil, hp] at h1
    rw [hln] at h1
    rw [h1, reads_len hr2])
  have Hr := Lib.hid hr
  have Hr2 := Lib.hid hr2
  have Hln := Lib.hid hln
  have Hmc := Lib.hid (And.intro hm hc)
  clear hr hr2 hok hT hk ha hp hln hm hc
  go_enter Tryz.func33, Tryz.ntmps33
  go_wp2_with fail
  have hbA := Lib.hid (((Below.refl w.heap.size w).alloc (Nat.le_refl _) (.cells #[.int .i64 k, .bool nl] 24)).alloc (by simp) (.cells #[.int .u8 170] 5))
  have BT := Lib.hid ((Blk.new w 24 #[.int .i64 k, .bool nl]).alloc (.cells #[.int .u8 170] 5))
  with_reducible refine (cput_any _ _ _ [170] k nl A n c l _ (by repeat (first | exact reads_lit _ _ _ _ _ _ (by simp) rfl rfl | assumption | exact Reads.none_ | exact reads_t0 | exact reads_u0 | exact reads_i0 | refine Reads.al ?_ _ | refine Reads.drew ?_ | refine Reads.on ?_ (by assumption))) (by decide) ((Hr.out.on hbA.out)) (by omega) Hok.out (HT.out.on hbA.out)).mono ?_
  rintro e w3 ⟨A3, n3, c3, rfl, q1, q2, q3, q4⟩
  have HB3 := Lib.hid (bon hbA.out q4)
  have BT3 := Lib.hid (BT.out.on q4)
  have HO3 := Lib.hid (show w3.ownsRow w.heap.size 5 1 (.slice A3 n3 c3) n3 (u8s (170 :: want)) by rw [← Hput.out.2]; exact own_mono q3 (by simp; omega))
  have HE := Lib.hid Hput.out.1
  clear q1 q2 q3 q4
  generalize putE k nl l = E0 at HE ⊢
  have he := HE.out
  subst he
  have c0 := BT3.out.cell 0
  have c1 := BT3.out.cell 1
  go_wp2_with fail
  with_reducible refine (cget_any B m cb want k nl n _ (Hr2.out.on HB3.out) Hmc.out.1 Hmc.out.2 (HT.out.on HB3.out)).mono ?_
  rintro e w5 ⟨hb5, hm5⟩
  rw [Hget.out] at hm5
  obtain ⟨q0, A5, c5, rfl, q1, q2, q3⟩ := hm5
  have HB5 := Lib.hid (bon HB3.out hb5)
  have HO5 := Lib.hid (own_below HO3.out hb5)
  have HR5 := Lib.hid (Reads.of_own q3)
  have Q := Lib.hid (And.intro q1 q2)
  clear hb5 q0 q1 q2 q3
  obtain ⟨i0, hi0, hz0, hz1, hz2⟩ := info_parts u8_info
  have hown := Lib.hid ((Blk.new w5 5 #[.int .u8 170]).own (base := w5.heap.size) (n := 1) (xs := u8s [170]) (Nat.le_refl _) rfl rfl (by decide))
  have hs1 : 1 + m ≤ maxLen := by simp only [maxLen]; omega
  have hs2 : (1 + m) * 1 ≤ 70368744177664 := by omega
  go_wp2_with (at_builtin
               refine wpList_append_any _ rfl (.tmp 35) (.tmp 36) 22 rfl w5.heap.size 5 i0 (.int .u8 0) 1 1 Tryz.underlying22 hi0 hz0 hz1 hz2 rfl (by decide) (some ⟨w5.heap.size, 0, none⟩) 1 1 _ rfl hown.out B m cb (u8s want) rfl ((Hr2.out.on HB5.out).al _) (u8s_one _) hs1 hs2 (by simp) ?_
               intro A8 c8 w8 r1 r2 r3 r4 r5
               have R1 := Lib.hid (Reads.of_own r1)
               have R2 := Lib.hid (((Below.refl w5.heap.size w5).alloc (Nat.le_refl _) (.cells #[.int .u8 170] 5)).trans r2)
               clear r1 r2 r3 r4 r5)
  have HB8 := Lib.hid (bon HB5.out R2.out)
  with_reducible refine (eq_yes A3 A8 n3 c3 (1 + m) c8 (170 :: want) (170 :: want) _ ((Reads.of_own HO5.out).on R2.out) (by have := R1.out; rw [← u8s_append] at this; simpa using this) rfl).mono ?_
  rintro e w9 ⟨rfl, rfl⟩
  go_wp2_with fail
  with_reducible refine (eqRow_any A A5 n c _ c5 l l _ (Hr.out.on HB8.out) (HR5.out.on R2.out) (by simp only [maxLen]; omega)).mono ?_
  rintro e w9 ⟨rfl, hb9⟩
  have HB9 := Lib.hid (bon HB8.out hb9)
  have hdd : decide (l = l) = true := by simp
  have hlm : l.length = n := Hln.out
  clear hb9
  go_wp2
  go_ret
  exact ⟨rfl, HB9.out⟩
set_option maxRecDepth 100000 in
set_option maxHeartbeats 1000000 in
theorem fails_yes (k : Int) (nl : Bool) (n : Int) (er : Nat) (ei : Int) (B : Option Addr) (m cb : Nat) (xs : List UInt8) (w : World) (hr2 : Reads w w.heap.size 1 B m (u8s xs)) (hm : m ≤ cb) (hc : cb ≤ maxLen) (hg : getC k nl xs n = .error er) (hei : ei = (er : Int)) (hT : Tabs w) :
    Calls Tryz.prog 34 #[.int .i64 k, .bool nl, .int .i64 n, .int .i64 ei, .slice B m cb] w fun e w' => e = .returned (.bool true) ∧ Below w.heap.size w w' := by
  have Hg := Lib.hid hg
  clear hg
  subst hei
  go_enter Tryz.func34, Tryz.ntmps34
  go_wp2_with fail
  with_reducible refine (cget_any B m cb xs k nl n _ hr2 hm hc hT).mono ?_
  rintro e w5 ⟨hb5, hm5⟩
  rw [Hg.out] at hm5
  obtain ⟨rfl, he⟩ := hm5
  have HB := Lib.hid hb5
  clear hb5
  go_wp2
  go_ret
  exact ⟨rfl, HB.out⟩
theorem reads_lit3 (w : World) (cs : Array Value) (l : List Cl) (b n : Nat) (hb : b = w.heap.size) (h : cs.toList = cls l) (hn : l.length = n) :
    Reads (w.alloc (.cells cs 41)) (w.alloc (.cells cs 41)).heap.size 3 (some ⟨b, 0, none⟩) n (cls l) := by
  subst hb hn
  refine ⟨by rw [cls_length]; omega, fun _ => ⟨_, rfl, by simp, fun j u hu => ?_⟩⟩
  have hadd : (⟨w.heap.size, 0, none⟩ : Addr).add j = ⟨w.heap.size, j, none⟩ := by unfold Addr.add; split <;> simp_all
  rw [hadd, cell_of_row _ w.heap.size j cs 41 (0, 0) (heap_alloc_new w _)]
  simpa [← h] using hu
theorem reads_c0 {w : World} {B : Nat} {A : Option Addr} : Reads w B 3 A 0 (cls []) := ⟨rfl, fun h => absurd h (by decide)⟩
def okB (l : List Cl) : Bool := l.all fun c => decide (-9223372036854775808 ≤ c.2.1) && decide (c.2.1 ≤ 9223372036854775807) && decide (c.2.2.size ≤ 1000)
theorem ok_of (l : List Cl) (h : okB l = true) : ClOk l := by
  intro c hc
  have := List.all_eq_true.1 h c hc
  simp only [Bool.and_eq_true, decide_eq_true_eq] at this
  exact ⟨this.1.1, this.1.2, Nat.le_trans this.2 (by decide)⟩
def tx1 (l : List UInt8) : ByteArray := ⟨l.toArray⟩
set_option maxRecDepth 100000 in
set_option maxHeartbeats 4000000 in
theorem works_yes (w : World) (hT : Tabs w) : Calls Tryz.prog 17 #[] w fun e w' => e = .returned (.bool true) ∧ Below w.heap.size w w' := by
  have HT := Lib.hid hT
  clear hT
  go_enter Tryz.func17, Tryz.ntmps17
  go_wp2_with fail
  with_reducible refine (puts_yes 2 true _ _ _ [(false, 1, ⟨#[]⟩), (true, 0, ⟨#[]⟩), (false, -2, ⟨#[]⟩)] _ _ _ [5, 2, 3] _ ?_ ?_ ?_ ?_ (ok_of _ (by kernel_rfl)) ?_ ?_ (by kernel_rfl) (by kernel_rfl) (by kernel_rfl) (HT.out.on (by repeat (first | exact Below.refl _ _ | assumption | refine bal ?_ _ | refine Below.drew ?_ | refine bon ?_ (by assumption))))).mono ?_
  · repeat (first | exact reads_lit3 _ _ _ _ _ (by simp) rfl rfl | exact reads_lit _ _ _ _ _ _ (by simp) rfl rfl | exact reads_c0 | exact Reads.none_ | refine Reads.al ?_ _)
  · repeat (first | exact reads_lit3 _ _ _ _ _ (by simp) rfl rfl | exact reads_lit _ _ _ _ _ _ (by simp) rfl rfl | exact reads_c0 | exact Reads.none_ | refine Reads.al ?_ _)
  · decide
  · decide
  · decide
  · decide
  rintro e w1 ⟨rfl, hbx⟩
  have hb1 := bon (show Below w.heap.size w _ by repeat (first | exact Below.refl _ _ | assumption | refine bal ?_ _ | refine Below.drew ?_ | refine bon ?_ (by assumption))) hbx
  clear hbx
  go_wp2_with fail
  with_reducible refine (puts_yes 4 false _ _ _ [(false, 0, ⟨#[98]⟩), (false, 0, ⟨#[97]⟩), (false, 0, ⟨#[98]⟩)] _ _ _ [2, 1, 98, 1, 97, 0, 1, 0] _ ?_ ?_ ?_ ?_ (ok_of _ (by kernel_rfl)) ?_ ?_ (by kernel_rfl) (by kernel_rfl) (by kernel_rfl) (HT.out.on (by repeat (first | exact Below.refl _ _ | assumption | refine bal ?_ _ | refine Below.drew ?_ | refine bon ?_ (by assumption))))).mono ?_
  · repeat (first | exact reads_lit3 _ _ _ _ _ (by simp) rfl rfl | exact reads_lit _ _ _ _ _ _ (by simp) rfl rfl | exact reads_c0 | exact Reads.none_ | refine Reads.al ?_ _)
  · repeat (first | exact reads_lit3 _ _ _ _ _ (by simp) rfl rfl | exact reads_lit _ _ _ _ _ _ (by simp) rfl rfl | exact reads_c0 | exact Reads.none_ | refine Reads.al ?_ _)
  · decide
  · decide
  · decide
  · decide
  rintro e w2 ⟨rfl, hbx⟩
  have hb2 := bon (show Below w.heap.size w _ by repeat (first | exact Below.refl _ _ | assumption | refine bal ?_ _ | refine Below.drew ?_ | refine bon ?_ (by assumption))) hbx
  clear hbx
  go_wp2_with fail
  with_reducible refine (puts_yes 1 false _ _ _ [(false, 1, ⟨#[]⟩), (false, 0, ⟨#[]⟩), (false, 1, ⟨#[]⟩)] _ _ _ [5] _ ?_ ?_ ?_ ?_ (ok_of _ (by kernel_rfl)) ?_ ?_ (by kernel_rfl) (by kernel_rfl) (by kernel_rfl) (HT.out.on (by repeat (first | exact Below.refl _ _ | assumption | refine bal ?_ _ | refine Below.drew ?_ | refine bon ?_ (by assumption))))).mono ?_
  · repeat (first | exact reads_lit3 _ _ _ _ _ (by simp) rfl rfl | exact reads_lit _ _ _ _ _ _ (by simp) rfl rfl | exact reads_c0 | exact Reads.none_ | refine Reads.al ?_ _)
  · repeat (first | exact reads_lit3 _ _ _ _ _ (by simp) rfl rfl | exact reads_lit _ _ _ _ _ _ (by simp) rfl rfl | exact reads_c0 | exact Reads.none_ | refine Reads.al ?_ _)
  · decide
  · decide
  · decide
  · decide
  rintro e w3 ⟨rfl, hbx⟩
  have hb3 := bon (show Below w.heap.size w _ by repeat (first | exact Below.refl _ _ | assumption | refine bal ?_ _ | refine Below.drew ?_ | refine bon ?_ (by assumption))) hbx
  clear hbx
  go_wp2_with fail
  with_reducible refine (puts_yes 5 false _ _ _ [(false, 0, ⟨#[255]⟩), (false, 0, ⟨#[]⟩)] _ _ _ [1, 255, 0] _ ?_ ?_ ?_ ?_ (ok_of _ (by kernel_rfl)) ?_ ?_ (by kernel_rfl) (by kernel_rfl) (by kernel_rfl) (HT.out.on (by repeat (first | exact Below.refl _ _ | assumption | refine bal ?_ _ | refine Below.drew ?_ | refine bon ?_ (by assumption))))).mono ?_
  · repeat (first | exact reads_lit3 _ _ _ _ _ (by simp) rfl rfl | exact reads_lit _ _ _ _ _ _ (by simp) rfl rfl | exact reads_c0 | exact Reads.none_ | refine Reads.al ?_ _)
  · repeat (first | exact reads_lit3 _ _ _ _ _ (by simp) rfl rfl | exact reads_lit _ _ _ _ _ _ (by simp) rfl rfl | exact reads_c0 | exact Reads.none_ | refine Reads.al ?_ _)
  · decide
  · decide
  · decide
  · decide
  rintro e w4 ⟨rfl, hbx⟩
  have hb4 := bon (show Below w.heap.size w _ by repeat (first | exact Below.refl _ _ | assumption | refine bal ?_ _ | refine Below.drew ?_ | refine bon ?_ (by assumption))) hbx
  clear hbx
  go_wp2_with fail
  with_reducible refine (cput_any none 0 0 [] 2 false _ _ _ [(true, 0, ⟨#[]⟩)] _ Reads.none_ (by decide) ?_ ?_ (ok_of _ (by kernel_rfl)) (HT.out.on (by repeat (first | exact Below.refl _ _ | assumption | refine bal ?_ _ | refine Below.drew ?_ | refine bon ?_ (by assumption))))).mono ?_
  · repeat (first | exact reads_lit3 _ _ _ _ _ (by simp) rfl rfl | exact reads_lit _ _ _ _ _ _ (by simp) rfl rfl | exact reads_c0 | exact Reads.none_ | refine Reads.al ?_ _)
  · decide
  rw [show putE 2 false [(true, 0, ⟨#[]⟩)] = 90 by kernel_rfl]
  rintro e w5 ⟨A', n', c', rfl, -, -, -, hbx⟩
  have hb5 := bon (show Below w.heap.size w _ by repeat (first | exact Below.refl _ _ | assumption | refine bal ?_ _ | refine Below.drew ?_ | refine bon ?_ (by assumption))) hbx
  clear hbx
  go_wp2_with fail
  with_reducible refine (cput_any none 0 0 [] 9 false _ _ _ [] _ Reads.none_ (by decide) ?_ ?_ (ok_of _ (by kernel_rfl)) (HT.out.on (by repeat (first | exact Below.refl _ _ | assumption | refine bal ?_ _ | refine Below.drew ?_ | refine bon ?_ (by assumption))))).mono ?_
  · repeat (first | exact reads_lit3 _ _ _ _ _ (by simp) rfl rfl | exact reads_lit _ _ _ _ _ _ (by simp) rfl rfl | exact reads_c0 | exact Reads.none_ | refine Reads.al ?_ _)
  · decide
  rw [show putE 9 false [] = 2 by kernel_rfl]
  rintro e w6 ⟨A', n', c', rfl, -, -, -, hbx⟩
  have hb6 := bon (show Below w.heap.size w _ by repeat (first | exact Below.refl _ _ | assumption | refine bal ?_ _ | refine Below.drew ?_ | refine bon ?_ (by assumption))) hbx
  clear hbx
  go_wp2_with fail
  with_reducible refine (fails_yes 2 true 3 3 3 _ _ _ [5, 2] _ ?_ ?_ ?_ (by kernel_rfl) rfl (HT.out.on (by repeat (first | exact Below.refl _ _ | assumption | refine bal ?_ _ | refine Below.drew ?_ | refine bon ?_ (by assumption))))).mono ?_
  · repeat (first | exact reads_lit3 _ _ _ _ _ (by simp) rfl rfl | exact reads_lit _ _ _ _ _ _ (by simp) rfl rfl | exact reads_c0 | exact Reads.none_ | refine Reads.al ?_ _)
  · decide
  · decide
  rintro e w7 ⟨rfl, hbx⟩
  have hb7 := bon (show Below w.heap.size w _ by repeat (first | exact Below.refl _ _ | assumption | refine bal ?_ _ | refine Below.drew ?_ | refine bon ?_ (by assumption))) hbx
  clear hbx
  go_wp2_with fail
  with_reducible refine (fails_yes 1 false 3 140 140 _ _ _ [13] _ ?_ ?_ ?_ (by kernel_rfl) rfl (HT.out.on (by repeat (first | exact Below.refl _ _ | assumption | refine bal ?_ _ | refine Below.drew ?_ | refine bon ?_ (by assumption))))).mono ?_
  · repeat (first | exact reads_lit3 _ _ _ _ _ (by simp) rfl rfl | exact reads_lit _ _ _ _ _ _ (by simp) rfl rfl | exact reads_c0 | exact Reads.none_ | refine Reads.al ?_ _)
  · decide
  · decide
  rintro e w8 ⟨rfl, hbx⟩
  have hb8 := bon (show Below w.heap.size w _ by repeat (first | exact Below.refl _ _ | assumption | refine bal ?_ _ | refine Below.drew ?_ | refine bon ?_ (by assumption))) hbx
  clear hbx
  go_wp2_with fail
  with_reducible refine (fails_yes 2 false 1 90 90 _ _ _ [128, 128, 128, 128, 16] _ ?_ ?_ ?_ (by kernel_rfl) rfl (HT.out.on (by repeat (first | exact Below.refl _ _ | assumption | refine bal ?_ _ | refine Below.drew ?_ | refine bon ?_ (by assumption))))).mono ?_
  · repeat (first | exact reads_lit3 _ _ _ _ _ (by simp) rfl rfl | exact reads_lit _ _ _ _ _ _ (by simp) rfl rfl | exact reads_c0 | exact Reads.none_ | refine Reads.al ?_ _)
  · decide
  · decide
  rintro e w9 ⟨rfl, hbx⟩
  have hb9 := bon (show Below w.heap.size w _ by repeat (first | exact Below.refl _ _ | assumption | refine bal ?_ _ | refine Below.drew ?_ | refine bon ?_ (by assumption))) hbx
  clear hbx
  go_wp2_with fail
  with_reducible refine (fails_yes 4 false 1 90 90 _ _ _ [1, 1, 255, 0] _ ?_ ?_ ?_ (by kernel_rfl) rfl (HT.out.on (by repeat (first | exact Below.refl _ _ | assumption | refine bal ?_ _ | refine Below.drew ?_ | refine bon ?_ (by assumption))))).mono ?_
  · repeat (first | exact reads_lit3 _ _ _ _ _ (by simp) rfl rfl | exact reads_lit _ _ _ _ _ _ (by simp) rfl rfl | exact reads_c0 | exact Reads.none_ | refine Reads.al ?_ _)
  · decide
  · decide
  rintro e w10 ⟨rfl, hbx⟩
  have hb10 := bon (show Below w.heap.size w _ by repeat (first | exact Below.refl _ _ | assumption | refine bal ?_ _ | refine Below.drew ?_ | refine bon ?_ (by assumption))) hbx
  clear hbx
  go_wp2_with fail
  with_reducible refine (puts_yes 3 false _ _ _ [(false, 0, ⟨#[]⟩)] _ _ _ [0] _ ?_ ?_ ?_ ?_ (ok_of _ (by kernel_rfl)) ?_ ?_ (by kernel_rfl) (by kernel_rfl) (by kernel_rfl) (HT.out.on (by repeat (first | exact Below.refl _ _ | assumption | refine bal ?_ _ | refine Below.drew ?_ | refine bon ?_ (by assumption))))).mono ?_
  · repeat (first | exact reads_lit3 _ _ _ _ _ (by simp) rfl rfl | exact reads_lit _ _ _ _ _ _ (by simp) rfl rfl | exact reads_c0 | exact Reads.none_ | refine Reads.al ?_ _)
  · repeat (first | exact reads_lit3 _ _ _ _ _ (by simp) rfl rfl | exact reads_lit _ _ _ _ _ _ (by simp) rfl rfl | exact reads_c0 | exact Reads.none_ | refine Reads.al ?_ _)
  · decide
  · decide
  · decide
  · decide
  rintro e w11 ⟨rfl, hbx⟩
  have hb11 := bon (show Below w.heap.size w _ by repeat (first | exact Below.refl _ _ | assumption | refine bal ?_ _ | refine Below.drew ?_ | refine bon ?_ (by assumption))) hbx
  clear hbx
  go_wp2_with fail
  with_reducible refine (puts_yes 3 false _ _ _ [] _ _ _ [] _ ?_ ?_ ?_ ?_ (ok_of _ (by kernel_rfl)) ?_ ?_ (by kernel_rfl) (by kernel_rfl) (by kernel_rfl) (HT.out.on (by repeat (first | exact Below.refl _ _ | assumption | refine bal ?_ _ | refine Below.drew ?_ | refine bon ?_ (by assumption))))).mono ?_
  · repeat (first | exact reads_lit3 _ _ _ _ _ (by simp) rfl rfl | exact reads_lit _ _ _ _ _ _ (by simp) rfl rfl | exact reads_c0 | exact Reads.none_ | refine Reads.al ?_ _)
  · repeat (first | exact reads_lit3 _ _ _ _ _ (by simp) rfl rfl | exact reads_lit _ _ _ _ _ _ (by simp) rfl rfl | exact reads_c0 | exact Reads.none_ | refine Reads.al ?_ _)
  · decide
  · decide
  · decide
  · decide
  rintro e w12 ⟨rfl, hbx⟩
  have hb12 := bon (show Below w.heap.size w _ by repeat (first | exact Below.refl _ _ | assumption | refine bal ?_ _ | refine Below.drew ?_ | refine bon ?_ (by assumption))) hbx
  clear hbx
  go_wp2
  go_ret
  exact ⟨rfl, hb12⟩
end Go.Proofs.YtfgpbnfobpfacaaGreatDoor
/- Layer 15, walked: Put of the reference. -/
set_option linter.unusedVariables false
set_option linter.unusedSimpArgs false
namespace Go.Proofs.YtfgpbnfobpfacaaGreatDoor
open Go.RowKit
set_option maxRecDepth 100000 in
set_option maxHeartbeats 2000000 in
theorem refdput_any (A : Option Addr) (n c : Nat) (xs : List UInt8) (B : Option Addr) (m c2 : Nat) (l : List ByteArray) (w : World) (hr : Reads w w.heap.size 1 A n (u8s xs))
    (hr2 : Reads w w.heap.size 1 B m (txs l)) (hm : m ≤ 1099511627776) (htot : (xs ++ putD l).length ≤ 1099511627776) :
    Calls Tryz.prog 56 #[.slice A n c, .slice B m c2] w (Wrote (xs ++ putD l) w) := by
  obtain ⟨i0, hi0, hz0, hz1, hz2⟩ := info_parts u8_info
  have hst := put1_start l xs
  have Hlen2 := Lib.hid (tlen hr2)
  have hsl := splitL_len l
  have hsm := split_small l
  generalize hT : xs ++ putD l = tot at hst htot ⊢
  have Hst := Lib.hid hst
  have Hsm := Lib.hid hsm
  clear hT hst hsm
  go_enter Tryz.func56, Tryz.ntmps56
  go_wp2_with fail
  with_reducible refine (refsplit_any B m c2 l _ hr2 hm).mono ?_
  rintro e w1 ⟨A1, c3, A2, c4, rfl, g1, g2, g3, g4, o1, o2, hb1⟩
  have r1 := own_reads o1
  have r2 := own_reads o2
  have hr1 := hr.on hb1
  have hlx := reads_len hr
  have hnl : l.length = m := Hlen2.out
  rw [hnl] at g3 r2 hsl
  simp only [hnl]
  obtain ⟨hsl1, hsl2⟩ := hsl
  have HNS := Lib.hid hsl2
  generalize (splitL l).2 = ns at r2 Hst Hsm HNS
  have hd0 : (splitL l).1.length < 18446744073709551616 := by omega
  generalize (splitL l).1 = d at r1 Hst hsl1 g1 Hsm hd0 ⊢
  clear o1 o2 hnl hsl2 hr hr2
  have hnt : n ≤ 1099511627776 := by have h := congrArg List.length Hst.out; simp only [List.length_append] at h; omega
  clear hlx
  have hdm : d.length ≤ 1099511627776 := by omega
  go_wp2_with fail
  with_reducible refine (refPut_any A n c d.length xs _ hr1 hnt hd0).mono ?_
  rintro e w2 ⟨A3, c5, rfl, hc5, hd5, o3, hb2⟩
  have Hl3 := Lib.hid (reads_len (own_reads o3))
  go_wp2
  go_loopw [7, 8] (fun v i wr => ∃ (k q : Nat) (Aq : Option Addr) (cq : Nat) (cur : List UInt8), k ≤ d.length ∧ q ≤ cq ∧ cq ≤ maxLen ∧ i = .int .i64 (k : Int) ∧ v = .slice Aq q cq ∧ Hid (Put1 d ns tot k cur) ∧
    wr.ownsRow w1.heap.size 5 1 (.slice Aq q cq) q (u8s cur) ∧ Below w1.heap.size w1 wr) (fun _ i _ => d.length - (intOf i).toNat)
  case atStart => exact ⟨0, _, A3, c5, _, Nat.zero_le _, hc5, hd5, rfl, rfl, Hst, o3, hb2⟩
  case round =>
    clear o3 hb2 Hl3 hc5
    obtain ⟨k, q, Aq, cq, cur, hk, hq1, hq2, rfl, rfl, hp, hown, hB⟩ := hrel
    have Hq := Lib.hid (reads_len (own_reads hown))
    by_cases hlt : k < d.length
    · obtain ⟨ad, v, rfl, hbk, hx, hcell⟩ := r1.at_ hlt
      rw [← hB.cell (p := ad.add k) (by rw [block_of_add]; exact hbk)] at hcell
      obtain ⟨s, hs', rfl⟩ := txs_get _ _ _ hx
      obtain ⟨hp2, hle⟩ := put1_step hp.out hs'
      have hql : cur.length = q := Hq.out
      rw [hql] at hle
      have hss : s.size < 18446744073709551616 := by rw [← bts_len]; omega
      have hq0 : q ≤ 1099511627776 := by omega
      have hbl := bts_len s
      have Hp2 := Lib.hid hp2
      have hbs := hB.size
      have Hbl := Lib.hid hbl
      rw [hbl] at hle
      clear hx hs' hp2 hp hql hbl
      have hss2 : s.size ≤ 9223372036854775807 := by omega
      go_wp2
      have hS := hB.drew
      have hL : ∀ w', Below w1.heap.size w1 w' → w'.cell? (ad.add k) = some (.string s) := fun w' h => by
        rw [h.cell (p := ad.add k) (by rw [block_of_add]; exact hbk)]
        rwa [hB.cell (p := ad.add k) (by rw [block_of_add]; exact hbk)] at hcell
      have HL := Lib.hid hL
      clear hL hcell
      refine wp_region_keep (Below w1.heap.size w1) [(0, false), (1, false), (2, false), (3, false), (4, false), (5, false), (6, false), (8, false), (9, false), (10, false), (11, false), (7, true), (12, true), (13, false)] (by kernel_rfl) (by kernel_rfl) (by kernel_rfl) (fun d _ _ _ _ h => by cases d <;> exact h) ?_
      refine held_pure (v := ?_) rfl rfl (by simp [Region.wanted, yielded]) hS ?_ ?_
      rotate_left
      · intro w hw; go_simp; try with_reducible rfl
      try simp only [Act.put, List.setIfInBounds_toArray, List.set_cons_succ, List.set_cons_zero]
      refine held_pure (v := ?_) rfl rfl (by simp [Region.wanted, yielded]) hS ?_ ?_
      rotate_left
      · intro w hw; go_simp; try with_reducible rfl
      try simp only [Act.put, List.setIfInBounds_toArray, List.set_cons_succ, List.set_cons_zero]
      refine held_pure (v := ?_) rfl rfl (by simp [Region.wanted, yielded]) hS ?_ ?_
      rotate_left
      · intro w hw; go_simp; try with_reducible rfl
      try simp only [Act.put, List.setIfInBounds_toArray, List.set_cons_succ, List.set_cons_zero]
      refine held_pure (v := ?_) rfl rfl (by simp [Region.wanted, yielded]) hS ?_ ?_
      rotate_left
      · intro w hw; go_simp; try with_reducible rfl
      try simp only [Act.put, List.setIfInBounds_toArray, List.set_cons_succ, List.set_cons_zero]
      refine held_pure (v := ?_) rfl rfl (by simp [Region.wanted, yielded]) hS ?_ ?_
      rotate_left
      · intro w hw; have c0 := HL.out w hw; clear hw; go_simp; try with_reducible rfl
      try simp only [Act.put, List.setIfInBounds_toArray, List.set_cons_succ, List.set_cons_zero]
      refine held_pure (v := ?_) rfl rfl (by simp [Region.wanted, yielded]) hS ?_ ?_
      rotate_left
      · intro w hw; go_simp; try with_reducible rfl
      try simp only [Act.put, List.setIfInBounds_toArray, List.set_cons_succ, List.set_cons_zero]
      refine held_pure (v := ?_) rfl rfl (by simp [Region.wanted, yielded]) hS ?_ ?_
      rotate_left
      · intro w hw; go_simp; try with_reducible rfl
      try simp only [Act.put, List.setIfInBounds_toArray, List.set_cons_succ, List.set_cons_zero]
      refine held_pure (v := ?_) rfl rfl (by simp [Region.wanted, yielded]) hS ?_ ?_
      rotate_left
      · intro w hw; go_simp; try with_reducible rfl
      try simp only [Act.put, List.setIfInBounds_toArray, List.set_cons_succ, List.set_cons_zero]
      refine held_pure (v := ?_) rfl rfl (by simp [Region.wanted, yielded]) hS ?_ ?_
      rotate_left
      · intro w hw; go_simp; try with_reducible rfl
      try simp only [Act.put, List.setIfInBounds_toArray, List.set_cons_succ, List.set_cons_zero]
      refine held_pure (v := ?_) rfl rfl (by simp [Region.wanted, yielded]) hS ?_ ?_
      rotate_left
      · intro w hw; go_simp; try with_reducible rfl
      try simp only [Act.put, List.setIfInBounds_toArray, List.set_cons_succ, List.set_cons_zero]
      refine held_pure (v := ?_) rfl rfl (by simp [Region.wanted, yielded]) hS ?_ ?_
      rotate_left
      · intro w hw; have c0 := HL.out w hw; clear hw; go_simp; try with_reducible rfl
      try simp only [Act.put, List.setIfInBounds_toArray, List.set_cons_succ, List.set_cons_zero]
      refine held_eff1 rfl (by simp [Region.wanted, yielded]) fun K hK => ?_
      go_simp
      rw [u64_wrap _ hss]
      with_reducible refine (refPut_any Aq q cq s.size cur _ (own_reads hown).drew hq0 hss).mono ?_
      rintro e w3 ⟨A6, c6, rfl, hc6, hd6, o6, hb3⟩
      replace o6 := own_mono o6 hbs
      have hB3 := hB.drew.trans (hb3.mono hbs)
      have hbase3 := hB3.size
      have hs63 : q + (leb s.size).length + s.data.toList.length ≤ 70368744177664 := by
        have := Hbl.out
        unfold bts at this
        omega
      refine held_go hK (by exact hB3) fun hS => ?_
      clear hK K
      try simp only [Act.put, List.setIfInBounds_toArray, List.set_cons_succ, List.set_cons_zero]
      refine held_eff1 rfl (by simp [Region.wanted, yielded]) fun K hK => ?_
      refine wp_append_str (.tmp 33) (.tmp 37) 22 9 rfl w1.heap.size 5 i0 Tryz.underlying22 Tryz.underlying9 hi0 hz0 hz1 hz2 A6 _ c6 _ rfl o6 s rfl hs63 hbase3 ?_
      intro A7 c7 w7 o7 hb7 hg7 hc7 hd7
      refine held_go hK (by exact hB3.trans hb7) fun hS => ?_
      clear hK K
      try simp only [Act.put, List.setIfInBounds_toArray, List.set_cons_succ, List.set_cons_zero]
      refine held_pure (v := ?_) rfl rfl (by simp [Region.wanted, yielded]) hS ?_ ?_
      rotate_left
      · intro w hw; go_simp; try with_reducible rfl
      try simp only [Act.put, List.setIfInBounds_toArray, List.set_cons_succ, List.set_cons_zero]
      refine held_end ?_
      go_wp2
      have hB7 := hB3.trans hb7
      have Hp3 : Hid (Put1 d ns tot (k + 1) (cur ++ leb s.size ++ s.data.toList)) := by
        have := Hp2.out
        rw [Hbl.out] at this
        exact this
      go_roundw
      case rel => exact ⟨k + 1, _, A7, c7, _, by omega, hc7, hd7, by go_num, rfl, Hp3, o7, hB7⟩
      case measure => simp [intOf]; omega
    · have hkd : k = d.length := by omega
      subst hkd
      have Hp0 := Lib.hid (put1_end hp.out)
      clear hp
      go_wp2
      go_loopw [7, 9] (fun v i wr => ∃ (k q : Nat) (Aq : Option Addr) (cq : Nat) (cur : List UInt8), k ≤ m ∧ q ≤ cq ∧ cq ≤ maxLen ∧ i = .int .i64 (k : Int) ∧ v = .slice Aq q cq ∧ Hid (Put2 ns tot k cur) ∧
        wr.ownsRow w1.heap.size 5 1 (.slice Aq q cq) q (u8s cur) ∧ Below w1.heap.size w1 wr) (fun _ i _ => m - (intOf i).toNat)
      case atStart => exact ⟨0, _, Aq, cq, _, Nat.zero_le _, hq1, hq2, rfl, rfl, Hp0, hown, hB⟩
      case round =>
        clear hown hB Hq hq1
        obtain ⟨k, q, Aq, cq, cur, hk, hq1, hq2, rfl, rfl, hp, hown, hB⟩ := hrel
        have Hq := Lib.hid (reads_len (own_reads hown))
        by_cases hlt : k < m
        · obtain ⟨ad, v, rfl, hbk, hx, hcell⟩ := r2.at_ hlt
          rw [← hB.cell (p := ad.add k) (by rw [block_of_add]; exact hbk)] at hcell
          obtain ⟨y, hs', rfl⟩ := nns_get _ _ _ hx
          obtain ⟨hp2, hle⟩ := put2_step hp.out hs'
          have hql : cur.length = q := Hq.out
          rw [hql] at hle
          have hy := Hsm.out y (List.mem_of_getElem? hs')
          have hy0 : y < 18446744073709551616 := by omega
          have hy1 : y ≤ 9223372036854775807 := by omega
          have hq0 : q ≤ 1099511627776 := by omega
          have Hp2 := Lib.hid hp2
          have hbs := hB.size
          clear hx hs' hp2 hp hql
          go_wp2_with fail
          with_reducible refine (refPut_any Aq q cq y cur _ (own_reads hown) hq0 hy0).mono ?_
          rintro e w3 ⟨A6, c6, rfl, hc6, hd6, o6, hb3⟩
          replace o6 := own_mono o6 hbs
          have hB3 := hB.trans (hb3.mono hbs)
          go_wp2
          go_roundw
          case rel => exact ⟨k + 1, _, A6, c6, _, by omega, hc6, hd6, by go_num, rfl, Hp2, o6, hB3⟩
          case measure => simp [intOf]; omega
        · have hkm : k = ns.length := by have := HNS.out; omega
          have hp0 := hp.out
          rw [hkm] at hp0
          have Hp0 := Lib.hid (put2_end hp0)
          clear hp0 hp hkm
          go_wp2
          go_ret
          have hcur := Hp0.out
          have hql := Hq.out
          subst hcur hql
          exact ⟨Aq, cq, rfl, hq1, hq2, own_mono hown hb1.size, hb1.trans (hB.mono hb1.size)⟩
end Go.Proofs.YtfgpbnfobpfacaaGreatDoor
/- Layer 9, walked: the document's May, of, Check. -/
set_option linter.unusedVariables false
set_option linter.unusedSimpArgs false
namespace Go.Proofs.YtfgpbnfobpfacaaGreatDoor
open Go.RowKit
set_option maxRecDepth 100000 in
theorem rmay_any (k : Int) (nl : Bool) (w : World) : Calls Tryz.prog 29 #[.agg #[.int .i64 k, .bool nl]] w fun e w' => e = .returned (.bool (mayK k)) ∧ Below w.heap.size w w' := by
  unfold mayK
  by_cases h1 : 1 ≤ k
  · have d1 : decide (1 ≤ k) = true := decide_eq_true h1
    by_cases h2 : k ≤ 5
    · have d2 : decide (k ≤ 5) = true := decide_eq_true h2
      rw [decide_eq_true (by omega : 1 ≤ k ∧ k ≤ 5)]
      go_enter Tryz.func29, Tryz.ntmps29
      go_wp2
      go_ret
      exact ⟨rfl, (Below.refl _ _).alloc (Nat.le_refl _) _⟩
    · have d2 : decide (k ≤ 5) = false := decide_eq_false h2
      rw [decide_eq_false (by omega : ¬ (1 ≤ k ∧ k ≤ 5))]
      go_enter Tryz.func29, Tryz.ntmps29
      go_wp2
      go_ret
      exact ⟨rfl, (Below.refl _ _).alloc (Nat.le_refl _) _⟩
  · have d1 : decide (1 ≤ k) = false := decide_eq_false h1
    rw [decide_eq_false (by omega : ¬ (1 ≤ k ∧ k ≤ 5))]
    go_enter Tryz.func29, Tryz.ntmps29
    go_wp2
    go_ret
    exact ⟨rfl, (Below.refl _ _).alloc (Nat.le_refl _) _⟩
def ofB (k : Int) (nl : Bool) (c : Cl) : Bool := if c.1 then nl && decide (c.2.1 = 0 ∧ c.2.2 = ⟨#[]⟩) else isC k c
abbrev K9 (n : Int) : Prop := -9223372036854775808 ≤ n ∧ n ≤ 9223372036854775807
set_option maxRecDepth 100000 in
theorem rof_null (k : Int) (nl : Bool) (n : Int) (s : ByteArray) (w : World) : Calls Tryz.prog 53 #[.agg #[.int .i64 k, .bool nl], .agg #[.bool true, .int .i64 n, .string s]] w fun e w' => e = .returned (.bool (ofB k nl (true, n, s))) ∧ Below w.heap.size w w' := by
  cases nl with
  | false =>
    rw [show ofB k false (true, n, s) = false from rfl]
    go_enter Tryz.func53, Tryz.ntmps53
    go_wp2
    go_ret
    exact ⟨rfl, ((Below.refl _ _).alloc (Nat.le_refl _) _).alloc (by simp) _⟩
  | true =>
    by_cases hn : n = 0
    · subst hn
      by_cases hs : s = ⟨#[]⟩
      · subst hs
        rw [show ofB k true (true, 0, ⟨#[]⟩) = true by simp [ofB]]
        go_enter Tryz.func53, Tryz.ntmps53
        go_wp2
        go_ret
        exact ⟨rfl, ((Below.refl _ _).alloc (Nat.le_refl _) _).alloc (by simp) _⟩
      · have hss := empty_no hs
        rw [show ofB k true (true, 0, s) = false by simp [ofB, hs]]
        go_enter Tryz.func53, Tryz.ntmps53
        go_wp2
        go_ret
        exact ⟨rfl, ((Below.refl _ _).alloc (Nat.le_refl _) _).alloc (by simp) _⟩
    · have hnn : (n == 0) = false := by simpa using hn
      rw [show ofB k true (true, n, s) = false by simp [ofB, hn]]
      go_enter Tryz.func53, Tryz.ntmps53
      go_wp2
      go_ret
      exact ⟨rfl, ((Below.refl _ _).alloc (Nat.le_refl _) _).alloc (by simp) _⟩
set_option maxRecDepth 100000 in
theorem rof_one (nl : Bool) (n : Int) (s : ByteArray) (w : World) : Calls Tryz.prog 53 #[.agg #[.int .i64 1, .bool nl], .agg #[.bool false, .int .i64 n, .string s]] w fun e w' => e = .returned (.bool (ofB 1 nl (false, n, s))) ∧ Below w.heap.size w w' := by
  by_cases hs : s = ⟨#[]⟩
  · subst hs
    by_cases h0 : n = 0
    · subst h0
      rw [show ofB 1 nl (false, 0, ⟨#[]⟩) = true by simp [ofB, isC]]
      go_enter Tryz.func53, Tryz.ntmps53
      go_wp2
      go_ret
      exact ⟨rfl, ((Below.refl _ _).alloc (Nat.le_refl _) _).alloc (by simp) _⟩
    · have hn0 : (n == 0) = false := by simpa using h0
      by_cases h1 : n = 1
      · subst h1
        rw [show ofB 1 nl (false, 1, ⟨#[]⟩) = true by simp [ofB, isC]]
        go_enter Tryz.func53, Tryz.ntmps53
        go_wp2
        go_ret
        exact ⟨rfl, ((Below.refl _ _).alloc (Nat.le_refl _) _).alloc (by simp) _⟩
      · have hn1 : (n == 1) = false := by simpa using h1
        rw [show ofB 1 nl (false, n, ⟨#[]⟩) = false by simp [ofB, isC]; omega]
        go_enter Tryz.func53, Tryz.ntmps53
        go_wp2
        go_ret
        exact ⟨rfl, ((Below.refl _ _).alloc (Nat.le_refl _) _).alloc (by simp) _⟩
  · have hss := empty_no hs
    rw [show ofB 1 nl (false, n, s) = false by simp [ofB, isC, hs]]
    go_enter Tryz.func53, Tryz.ntmps53
    go_wp2
    go_ret
    exact ⟨rfl, ((Below.refl _ _).alloc (Nat.le_refl _) _).alloc (by simp) _⟩
set_option maxRecDepth 100000 in
theorem rof_two (nl : Bool) (n : Int) (s : ByteArray) (w : World) : Calls Tryz.prog 53 #[.agg #[.int .i64 2, .bool nl], .agg #[.bool false, .int .i64 n, .string s]] w fun e w' => e = .returned (.bool (ofB 2 nl (false, n, s))) ∧ Below w.heap.size w w' := by
  by_cases hs : s = ⟨#[]⟩
  · subst hs
    by_cases h0 : -2147483648 ≤ n
    · have d0 : decide (-2147483648 ≤ n) = true := decide_eq_true h0
      rw [show ofB 2 nl (false, n, ⟨#[]⟩) = decide (n ≤ 2147483647) by simp [ofB, isC, h0]]
      go_enter Tryz.func53, Tryz.ntmps53
      go_wp2
      go_ret
      exact ⟨rfl, ((Below.refl _ _).alloc (Nat.le_refl _) _).alloc (by simp) _⟩
    · have d0 : decide (-2147483648 ≤ n) = false := decide_eq_false h0
      rw [show ofB 2 nl (false, n, ⟨#[]⟩) = false by simp [ofB, isC]; omega]
      go_enter Tryz.func53, Tryz.ntmps53
      go_wp2
      go_ret
      exact ⟨rfl, ((Below.refl _ _).alloc (Nat.le_refl _) _).alloc (by simp) _⟩
  · have hss := empty_no hs
    rw [show ofB 2 nl (false, n, s) = false by simp [ofB, isC, hs]]
    go_enter Tryz.func53, Tryz.ntmps53
    go_wp2
    go_ret
    exact ⟨rfl, ((Below.refl _ _).alloc (Nat.le_refl _) _).alloc (by simp) _⟩
set_option maxRecDepth 100000 in
theorem rof_three (nl : Bool) (n : Int) (s : ByteArray) (w : World) (hn : K9 n) : Calls Tryz.prog 53 #[.agg #[.int .i64 3, .bool nl], .agg #[.bool false, .int .i64 n, .string s]] w fun e w' => e = .returned (.bool (ofB 3 nl (false, n, s))) ∧ Below w.heap.size w w' := by
  obtain ⟨h1, h2⟩ := hn
  by_cases hs : s = ⟨#[]⟩
  · subst hs
    rw [show ofB 3 nl (false, n, ⟨#[]⟩) = true by simp [ofB, isC]; omega]
    clear h1 h2
    go_enter Tryz.func53, Tryz.ntmps53
    go_wp2
    go_ret
    exact ⟨rfl, ((Below.refl _ _).alloc (Nat.le_refl _) _).alloc (by simp) _⟩
  · have hss := empty_no hs
    rw [show ofB 3 nl (false, n, s) = false by simp [ofB, isC, hs]]
    clear h1 h2
    go_enter Tryz.func53, Tryz.ntmps53
    go_wp2
    go_ret
    exact ⟨rfl, ((Below.refl _ _).alloc (Nat.le_refl _) _).alloc (by simp) _⟩
set_option maxRecDepth 100000 in
theorem rof_five (nl : Bool) (n : Int) (s : ByteArray) (w : World) : Calls Tryz.prog 53 #[.agg #[.int .i64 5, .bool nl], .agg #[.bool false, .int .i64 n, .string s]] w fun e w' => e = .returned (.bool (ofB 5 nl (false, n, s))) ∧ Below w.heap.size w w' := by
  by_cases hn : n = 0
  · subst hn
    have hv : ofB 5 nl (false, 0, s) = decide (s.size ≤ 1024) := by simp [ofB, isC, sizeC]
    rw [hv]
    clear hv
    by_cases hs : s.size ≤ 1024
    · have d1 : decide ((s.size : Int) ≤ 1024) = true := by simp; omega
      rw [decide_eq_true hs]
      go_enter Tryz.func53, Tryz.ntmps53
      go_wp2
      go_ret
      exact ⟨rfl, ((Below.refl _ _).alloc (Nat.le_refl _) _).alloc (by simp) _⟩
    · have d1 : decide ((s.size : Int) ≤ 1024) = false := by simp; omega
      rw [decide_eq_false hs]
      go_enter Tryz.func53, Tryz.ntmps53
      go_wp2
      go_ret
      exact ⟨rfl, ((Below.refl _ _).alloc (Nat.le_refl _) _).alloc (by simp) _⟩
  · have hnn : (n == 0) = false := by simpa using hn
    rw [show ofB 5 nl (false, n, s) = false by simp [ofB, isC, sizeC, hn]]
    go_enter Tryz.func53, Tryz.ntmps53
    go_wp2
    go_ret
    exact ⟨rfl, ((Below.refl _ _).alloc (Nat.le_refl _) _).alloc (by simp) _⟩
set_option maxRecDepth 100000 in
theorem rof_four (nl : Bool) (n : Int) (s : ByteArray) (w : World) : Calls Tryz.prog 53 #[.agg #[.int .i64 4, .bool nl], .agg #[.bool false, .int .i64 n, .string s]] w fun e w' => e = .returned (.bool (ofB 4 nl (false, n, s))) ∧ Below w.heap.size w w' := by
  by_cases hn : n = 0
  · subst hn
    by_cases hs : s.size ≤ 1024
    · have d1 : decide ((s.size : Int) ≤ 1024) = true := by simp; omega
      have hv : ofB 4 nl (false, 0, s) = Lib.validD s.data.toList := by simp [ofB, isC, sizeC, hs]
      rw [hv]
      clear hv
      have hss : s.size ≤ maxLen := Nat.le_trans hs (by decide)
      have HS := Lib.hid hss
      clear hss
      go_enter Tryz.func53, Tryz.ntmps53
      go_wp2_with fail
      with_reducible refine (uvalid_any s _ HS.out).mono ?_
      rintro e w2 ⟨rfl, hb2⟩
      go_wp2
      go_ret
      exact ⟨rfl, bon (((Below.refl _ _).alloc (Nat.le_refl _) _).alloc (by simp) _) hb2⟩
    · have d1 : decide ((s.size : Int) ≤ 1024) = false := by simp; omega
      rw [show ofB 4 nl (false, 0, s) = false by simp [ofB, isC, sizeC, hs]]
      go_enter Tryz.func53, Tryz.ntmps53
      go_wp2
      go_ret
      exact ⟨rfl, ((Below.refl _ _).alloc (Nat.le_refl _) _).alloc (by simp) _⟩
  · have hnn : (n == 0) = false := by simpa using hn
    rw [show ofB 4 nl (false, n, s) = false by simp [ofB, isC, sizeC, hn]]
    go_enter Tryz.func53, Tryz.ntmps53
    go_wp2
    go_ret
    exact ⟨rfl, ((Below.refl _ _).alloc (Nat.le_refl _) _).alloc (by simp) _⟩
theorem rof_any (k : Int) (nl : Bool) (c : Cl) (w : World) (h1 : 1 ≤ k) (h5 : k ≤ 5) (hn : K9 c.2.1) : Calls Tryz.prog 53 #[.agg #[.int .i64 k, .bool nl], clV c] w fun e w' => e = .returned (.bool (ofB k nl c)) ∧ Below w.heap.size w w' := by
  obtain ⟨nu, n, s⟩ := c
  cases nu with
  | true => exact rof_null k nl n s w
  | false =>
    rcases (show k = 1 ∨ k = 2 ∨ k = 3 ∨ k = 4 ∨ k = 5 by omega) with rfl | rfl | rfl | rfl | rfl
    · exact rof_one nl n s w
    · exact rof_two nl n s w
    · exact rof_three nl n s w hn
    · exact rof_four nl n s w
    · exact rof_five nl n s w
theorem rof_any3 (k : Int) (nl nu : Bool) (n : Int) (s : ByteArray) (w : World) (h1 : 1 ≤ k) (h5 : k ≤ 5) (hn : K9 n) : Calls Tryz.prog 53 #[.agg #[.int .i64 k, .bool nl], .agg #[.bool nu, .int .i64 n, .string s]] w fun e w' => e = .returned (.bool (ofB k nl (nu, n, s))) ∧ Below w.heap.size w w' := rof_any k nl (nu, n, s) w h1 h5 hn
set_option maxRecDepth 100000 in
theorem rcheck_any (k : Int) (nl : Bool) (c : Cl) (w : World) (hn : K9 c.2.1) : Calls Tryz.prog 30 #[.agg #[.int .i64 k, .bool nl], clV c] w fun e w' => e = .returned (.int .i64 (checkE k nl c)) ∧ Below w.heap.size w w' := by
  obtain ⟨nu, n, s⟩ := c
  have Hn := Lib.hid hn
  clear hn
  show Calls Tryz.prog 30 #[.agg #[.int .i64 k, .bool nl], .agg #[.bool nu, .int .i64 n, .string s]] w _
  have hb0 := Lib.hid (show Below w.heap.size w ((w.alloc (.cells #[.int .i64 k, .bool nl] 24)).alloc (.cells #[.bool nu, .int .i64 n, .string s] 41)) from ((Below.refl _ _).alloc (Nat.le_refl _) _).alloc (by simp) _)
  have B2 := Lib.hid ((Blk.new w 24 #[.int .i64 k, .bool nl]).alloc (.cells #[.bool nu, .int .i64 n, .string s] 41))
  have B3 := Lib.hid (Blk.new' (w.alloc (.cells #[.int .i64 k, .bool nl] 24)) 41 #[.bool nu, .int .i64 n, .string s] (w.heap.size + 1) (by simp))
  go_enter Tryz.func30, Tryz.ntmps30
  go_wp2_with fail
  with_reducible refine (rmay_any k nl _).mono ?_
  rintro e w1 ⟨rfl, hb1⟩
  have hb2 := Lib.hid (bon hb0.out hb1)
  replace B2 := Lib.hid (B2.out.on hb1)
  replace B3 := Lib.hid (B3.out.on hb1)
  clear hb1 hb0
  have c20 := B2.out.cell 0
  have c21 := B2.out.cell 1
  have c30 := B3.out.cell 0
  have c31 := B3.out.cell 1
  have c32 := B3.out.cell 2
  cases hm : mayK k with
  | false =>
    go_wp2
    go_ret
    exact ⟨by simp [checkE, hm], hb2.out⟩
  | true =>
    obtain ⟨hk1, hk5⟩ : 1 ≤ k ∧ k ≤ 5 := by simpa [mayK] using hm
    go_wp2_with fail
    with_reducible refine (rof_any3 k nl nu n s _ hk1 hk5 Hn.out).mono ?_
    rintro e w2 ⟨rfl, hb3⟩
    have hb4 := Lib.hid (bon hb2.out hb3)
    have HE := Lib.hid (show checkE k nl (nu, n, s) = if ofB k nl (nu, n, s) then 0 else 90 by simp [checkE, hm, ofB])
    clear hb3
    generalize hI : ofB k nl (nu, n, s) = I at HE ⊢
    cases I with
    | true =>
      go_wp2
      go_ret
      exact ⟨by first | (rw [HE.out]; rfl) | rfl, hb4.out⟩
    | false =>
      go_wp2
      go_ret
      exact ⟨by first | (rw [HE.out]; rfl) | rfl, hb4.out⟩
end Go.Proofs.YtfgpbnfobpfacaaGreatDoor
