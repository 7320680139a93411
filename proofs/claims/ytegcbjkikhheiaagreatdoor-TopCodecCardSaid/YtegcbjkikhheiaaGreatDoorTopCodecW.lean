/- The law TopCodec, walked. Conditions: none of its own; each lemma states what it asks. -/
import Derived.Test.YtegcbjkikhheiaaGreatDoorGu1
set_option linter.unusedVariables false
set_option linter.unusedSimpArgs false
namespace Go.Proofs.YtegcbjkikhheiaaGreatDoor
open Go.RowKit
theorem match_bad {cs : List Co} {b : Ba} {xs : List UInt8} (h : batE cs b ≠ 0) : (matchV cs b xs == 0) = false := by rw [matchV_no h]; simpa using h
theorem top_left {E : Int} (h : E ≠ 0) : (E != 0) = true := by simpa using h
set_option maxRecDepth 100000 in
set_option maxHeartbeats 8000000 in
theorem topCodec_walk (A : Option Addr) (n c : Nat) (l : List Co) (v s : Int) (I : Option Addr) (m d : Nat) (li : List It) (B0 : Option Addr) (m0 cb0 : Nat) (xs0 : List UInt8) (B1 : Option Addr) (m1 cb1 : Nat) (xs1 : List UInt8) (w : World) (hr : Reads w w.heap.size 7 A n (cos l)) (hn : n ≤ c) (hc : c ≤ maxLen) (hok : CoOk l)
    (hv : -9223372036854775808 ≤ v ∧ v ≤ 9223372036854775807) (hs : -9223372036854775808 ≤ s ∧ s ≤ 9223372036854775807) (hi : ItemsAt w w.heap.size I m li) (hm : m ≤ d) (hd : d ≤ maxLen) (hit : ItOk li)
    (hx0 : Reads w w.heap.size 1 B0 m0 (u8s xs0)) (hm0 : m0 ≤ cb0) (hc0 : cb0 ≤ maxLen) (hx1 : Reads w w.heap.size 1 B1 m1 (u8s xs1)) (hm1 : m1 ≤ cb1) (hc1 : cb1 ≤ maxLen) (hT : Tab2 w.heap.size w) :
    Calls Tryz.prog 3 #[.slice A n c, .agg #[.int .i64 v, .int .i64 s, .slice I m d], .agg #[.slice B0 m0 cb0, .slice B1 m1 cb1]] w fun e w' => e = .returned (.bool true) ∧ Below w.heap.size w w' := by
  obtain ⟨i0, hi0, hz0, hz1, hz2⟩ := info_parts u8_info
  obtain ⟨mk, hmk⟩ : ∃ mk : Nat, mk = min n 40 := ⟨_, rfl⟩
  have hmi : min (n : Int) 40 = (mk : Int) := by omega
  have h1 : mk ≤ n := by omega
  have h2 : mk ≤ 40 := by omega
  have h3 : mk ≤ c := by omega
  have h4 : (mk : Int) ≤ (c : Int) := by omega
  have hc63 : c ≤ 9223372036854775807 := by simp only [maxLen] at hc; omega
  have ht := hr.head h1
  rw [cos_take] at ht
  have HCr := Lib.hid ht
  generalize l.take mk = lc at HCr
  clear hmk ht
  have Hr := Lib.hid hr
  have HT := Lib.hid hT
  have Hi := Lib.hid hi
  have Hit := Lib.hid hit
  have Hs := Lib.hid hs.2
  have hmm : m ≤ maxLen := Nat.le_trans hm hd
  have HP := Lib.hid (Blk.new w 25 #[.int .i64 v, .int .i64 s, .slice I m d])
  have HB := Lib.hid (bal (Below.refl w.heap.size w) (.cells #[.int .i64 v, .int .i64 s, .slice I m d] 25))
  clear hr hT hi hit hs hv hm hd hok
  have HX0 := Lib.hid hx0
  have HX1 := Lib.hid hx1
  have Hc0 := Lib.hid hc0
  have Hc1 := Lib.hid hc1
  clear hx0 hx1 hc0 hc1 Hr
  have HP := Lib.hid (HP.out.alloc (.cells #[.slice B0 m0 cb0, .slice B1 m1 cb1] 27))
  have HB := Lib.hid (bal HB.out (.cells #[.slice B0 m0 cb0, .slice B1 m1 cb1] 27))
  have HQ := Lib.hid (Blk.new (w.alloc (.cells #[.int .i64 v, .int .i64 s, .slice I m d] 25)) 27 #[.slice B0 m0 cb0, .slice B1 m1 cb1])
  rw [show (w.alloc (.cells #[.int .i64 v, .int .i64 s, .slice I m d] 25)).heap.size = w.heap.size + 1 by simp] at HQ
  go_enter Tryz.func3, Tryz.ntmps3
  go_wp2
  generalize hW : (w.alloc (.cells #[.int .i64 v, .int .i64 s, .slice I m d] 25)).alloc (.cells #[.slice B0 m0 cb0, .slice B1 m1 cb1] 27) = W1 at *
  clear hW
  have HL0 := Lib.hid (show ∀ w', Below W1.heap.size W1 w' → w'.cell? ⟨w.heap.size, 0, none⟩ = some (.int .i64 v) from fun w' h => (HP.out.on h).cell 0)
  have HL1 := Lib.hid (show ∀ w', Below W1.heap.size W1 w' → w'.cell? ⟨w.heap.size, 1, none⟩ = some (.int .i64 s) from fun w' h => (HP.out.on h).cell 1)
  have HL2 := Lib.hid (show ∀ w', Below W1.heap.size W1 w' → w'.cell? ⟨w.heap.size, 2, none⟩ = some (.slice I m d) from fun w' h => (HP.out.on h).cell 2)
  have hS : Below W1.heap.size W1 W1.drew := (Below.refl _ _).drew
  refine wp_region_phase (fun w' => Below W1.heap.size W1 w') [0, 1, 2, 3, 4, 6] [(0, false), (1, false), (2, false), (3, false), (4, false), (6, false), (5, true), (7, true)] (fun _ => True) [(8, false), (9, true)] (by kernel_rfl) (by kernel_rfl) (by kernel_rfl) (fun d _ _ _ _ h => by cases d <;> exact h) ?_
  refine phase_pure (v := ?_) rfl rfl (by simp [Region.wanted, yielded]) hS ?_ ?_
  rotate_left
  · intro w hw; go_simp; try with_reducible rfl
  try simp only [Act.put, List.setIfInBounds_toArray, List.set_cons_succ, List.set_cons_zero]
  refine phase_pure (v := ?_) rfl rfl (by simp [Region.wanted, yielded]) hS ?_ ?_
  rotate_left
  · intro w hw; go_simp; try with_reducible rfl
  try simp only [Act.put, List.setIfInBounds_toArray, List.set_cons_succ, List.set_cons_zero]
  refine phase_pure (v := ?_) rfl rfl (by simp [Region.wanted, yielded]) hS ?_ ?_
  rotate_left
  · intro w hw; go_simp; try with_reducible rfl
  try simp only [Act.put, List.setIfInBounds_toArray, List.set_cons_succ, List.set_cons_zero]
  refine phase_pure (v := ?_) rfl rfl (by simp [Region.wanted, yielded]) hS ?_ ?_
  rotate_left
  · intro w hw; go_simp; try with_reducible rfl
  try simp only [Act.put, List.setIfInBounds_toArray, List.set_cons_succ, List.set_cons_zero]
  refine phase_pure (v := ?_) rfl rfl (by simp [Region.wanted, yielded]) hS ?_ ?_
  rotate_left
  · intro w hw; go_simp; try with_reducible rfl
  try simp only [Act.put, List.setIfInBounds_toArray, List.set_cons_succ, List.set_cons_zero]
  refine phase_pure (v := ?_) rfl rfl (by simp [Region.wanted, yielded]) hS ?_ ?_
  rotate_left
  · intro w hw; have c0 := HL0.out w hw; have c1 := HL1.out w hw; have c2 := HL2.out w hw; clear hw; go_simp; try with_reducible rfl
  try simp only [Act.put, List.setIfInBounds_toArray, List.set_cons_succ, List.set_cons_zero]
  refine phase_eff1 rfl (by simp [Region.wanted, yielded]) fun K hK => ?_
  go_simp
  with_reducible refine (copyCols_any A mk c lc _ (HCr.out.on (bon HB.out hS)) (by omega)).mono ?_
  rintro e w2 ⟨A1, c1, rfl, -, -, o1, hb2⟩
  have HS2 := Lib.hid (bon hS hb2)
  have HO := Lib.hid o1
  clear o1 hb2
  refine held_go hK (by exact HS2.out) fun hS => ?_
  clear hK K
  try simp only [Act.put, List.setIfInBounds_toArray, List.set_cons_succ, List.set_cons_zero]
  refine phase_eff1 rfl (by simp [Region.wanted, yielded]) fun K hK => ?_
  go_simp
  with_reducible refine (small_any v s I m d li _ (Hi.out.on (bon HB.out HS2.out)) hmm Hit.out).mono ?_
  rintro e w3 ⟨A3, k3, c3, rfl, o3, hb3⟩
  have HS3 := Lib.hid (bon HS2.out hb3)
  have HO := Lib.hid (own_below HO.out hb3)
  have HIo := Lib.hid o3
  clear o3 hb3
  refine held_go hK (by exact HS3.out) fun hS => ?_
  clear hK K
  try simp only [Act.put, List.setIfInBounds_toArray, List.set_cons_succ, List.set_cons_zero]
  refine phase_end ?_
  have HP3 := Lib.hid (HP.out.on HS3.out)
  have HBc := Lib.hid (bon HB.out HS3.out)
  have HQ3 := Lib.hid (HQ.out.on HS3.out)
  clear hS HL0 HL1 HL2 HS2 HP HQ
  have hS : True := trivial
  refine held_pure (v := ?_) rfl rfl (by simp [Region.wanted, yielded]) hS ?_ ?_
  rotate_left
  · intro w hw; go_simp; try with_reducible rfl
  try simp only [Act.put, List.setIfInBounds_toArray, List.set_cons_succ, List.set_cons_zero]
  have a0 := HP3.out.cell 0
  have a1 := HP3.out.cell 1
  have a2 := HP3.out.cell 2
  have f0 := HP3.out.frozen 0
  have f1 := HP3.out.frozen 1
  have f2 := HP3.out.frozen 2
  refine held_eff1 rfl (by simp [Region.wanted, yielded]) fun K hK => ?_
  go_simp
  clear a0 a1 a2 f0 f1 f2
  obtain ⟨w4, hw4⟩ : ∃ w4, w4 = ((w3.setCell ⟨w.heap.size, 0, none⟩ (.int .i64 v)).setCell ⟨w.heap.size, 1, none⟩ (.int .i64 s)).setCell ⟨w.heap.size, 2, none⟩ (.slice A3 k3 c3) := ⟨_, rfl⟩
  obtain ⟨g1, g2, g3, g4, g5, g6⟩ := box_put HP3.out HIo.out hw4
  have HQ := Lib.hid (g6 HQ3.out (by omega))
  rw [← hw4]
  have hk3 : k3 ≤ 30 := by
    have := HIo.out.len
    have := cutl_len li
    omega
  have H := Lib.hid (show LawB w A1 mk lc v s A3 k3 c3 (cutl li) w4 from ⟨HBc.out.trans (g3 _ (Nat.le_refl _)), g1, own_reads (g4 HO.out (by decide)), g2.at_, HT.out.on (HBc.out.trans (g3 _ (Nat.le_refl _))), h2, hk3, cutl_ok Hit.out, Hs.out⟩)
  clear hw4 g1 g2 g3 g4 g5 g6 HP3 HQ3 HO HIo HBc HS3
  refine held_go hK (by exact trivial) fun hS => ?_
  clear hK K
  try simp only [Act.put, List.setIfInBounds_toArray, List.set_cons_succ, List.set_cons_zero]
  refine held_end ?_
  clear HB HCr Hi Hit Hs hmi h1 h3 h4 hc63 hS
  generalize cutl li = lb at H
  have a0 := H.out.box.cell 0
  have a1 := H.out.box.cell 1
  have a2 := H.out.box.cell 2
  go_wp2_with fail
  with_reducible refine (benc_any A1 mk c1 lc v s A3 k3 c3 lb _ H.out.cols H.out.max1 H.out.items H.out.max2 H.out.baok H.out.ok H.out.tab).mono ?_
  rintro e w5 ⟨hb5, ⟨hE, A5, c5, rfl, ho⟩ | ⟨hE, rfl⟩⟩
  · have hf := (fits_iff _ _).1 hE
    have hbk := hf.back H.out.baok
    have hle := hf.enc_le
    have hcc := own_caps ho
    have Hms := Lib.hid (match_self hE)
    have Hsv := Lib.hid (sizeV_ok hE)
    have HE0 := Lib.hid hE
    obtain ⟨es, hes⟩ : ∃ es, encA lc (v, s, lb) = es := ⟨_, rfl⟩
    rw [hes] at hbk hle hcc ho Hms Hsv ⊢
    obtain ⟨el, hel⟩ : ∃ el, es.length = el := ⟨_, rfl⟩
    rw [hel] at hle hcc ho Hsv ⊢
    have HX := Lib.hid (own_reads ho)
    have Hbk := Lib.hid hbk
    have Hcc := Lib.hid hcc
    have hem : el ≤ maxLen := Nat.le_trans hcc.1 hcc.2
    replace H := Lib.hid (H.out.on hb5)
    replace HQ := Lib.hid (HQ.out.on hb5)
    clear a0 a1 a2 ho hb5 hbk hf hE hcc hes hel
    go_wp2_with fail
    with_reducible refine (bdec_any A1 mk c1 lc A5 el c5 es _ H.out.cols H.out.max1 HX.out Hcc.out.1 Hcc.out.2 H.out.tab).mono ?_
    rw [Hbk.out]
    rintro e w6 ⟨hb6, J, kk, dd, rfl, hio⟩
    have hkk := hio.len
    have hkl := H.out.items.len
    simp only at hkk ⊢
    obtain rfl : k3 = kk := by omega
    have HJ := Lib.hid (hio.at_.al (.cells #[.int .i64 v, .int .i64 s, .slice J k3 dd] 25))
    have HP6 := Lib.hid (Blk.new w6 25 #[.int .i64 v, .int .i64 s, .slice J k3 dd])
    replace H := Lib.hid ((H.out.on hb6).al (.cells #[.int .i64 v, .int .i64 s, .slice J k3 dd] 25))
    replace HX := Lib.hid ((HX.out.on hb6).al (.cells #[.int .i64 v, .int .i64 s, .slice J k3 dd] 25))
    replace HQ := Lib.hid ((HQ.out.on hb6).alloc (.cells #[.int .i64 v, .int .i64 s, .slice J k3 dd] 25))
    clear hio hb6 hkk hkl
    have a0 := H.out.box.cell 0
    have a1 := H.out.box.cell 1
    have a2 := H.out.box.cell 2
    go_wp2_with fail
    with_reducible refine (gsize_any A1 mk c1 lc v s A3 k3 c3 lb _ H.out.cols H.out.max1 H.out.items H.out.max2 H.out.sok H.out.ok H.out.tab).mono ?_
    rw [Hsv.out, HE0.out]
    rintro e w7 ⟨rfl, hb7⟩
    replace H := Lib.hid (H.out.on hb7)
    replace HX := Lib.hid (HX.out.on hb7)
    replace HQ := Lib.hid (HQ.out.on hb7)
    replace HJ := Lib.hid (HJ.out.on hb7)
    replace HP6 := Lib.hid (HP6.out.on hb7)
    clear hb7 a0 a1 a2
    have a0 := H.out.box.cell 0
    have a1 := H.out.box.cell 1
    have a2 := H.out.box.cell 2
    have e0 := HP6.out.cell 0
    have e1 := HP6.out.cell 1
    have e2 := HP6.out.cell 2
    go_wp2_with fail
    with_reducible refine (bsame_any v s A3 k3 c3 lb v s J k3 dd lb _ H.out.items HJ.out H.out.max2).mono ?_
    rw [sameBa_self]
    rintro e w8 ⟨rfl, hb8⟩
    replace H := Lib.hid (H.out.on hb8)
    replace HX := Lib.hid (HX.out.on hb8)
    replace HQ := Lib.hid (HQ.out.on hb8)
    clear hb8 a0 a1 a2 e0 e1 e2 HJ HP6
    have a0 := H.out.box.cell 0
    have a1 := H.out.box.cell 1
    have a2 := H.out.box.cell 2
    have t1 : ((el : Int) != (el : Int)) = false := by simp
    go_wp2_with fail
    with_reducible refine (gmatch_any A1 mk c1 lc v s A3 k3 c3 lb A5 el c5 es _ H.out.cols H.out.max1 H.out.items H.out.max2 H.out.sok H.out.ok HX.out hem H.out.tab).mono ?_
    rw [Hms.out]
    rintro e w9 ⟨rfl, hb9⟩
    replace H := Lib.hid (H.out.on hb9)
    replace HQ := Lib.hid (HQ.out.on hb9)
    clear hb9 a0 a1 a2 HX t1
    have q0 := HQ.out.cell 0
    obtain ⟨mn, hmn⟩ : ∃ mn : Nat, mn = min m0 2000 := ⟨_, rfl⟩
    have hmi : min (m0 : Int) 2000 = (mn : Int) := by omega
    have h1 : mn ≤ m0 := by omega
    have h3 : mn ≤ cb0 := by omega
    have h4 : (mn : Int) ≤ (cb0 : Int) := by omega
    have hc63 : cb0 ≤ 9223372036854775807 := by have := Hc0.out; simp only [maxLen] at this; omega
    have hmk : mn ≤ 2000 := by omega
    have HX0h := Lib.hid (show Reads w w.heap.size 1 B0 mn (u8s (xs0.take mn)) by have := HX0.out.head h1; rwa [Nat.mul_one, u8s_take] at this)
    generalize xs0.take mn = ys at HX0h
    clear hmn
    go_wp2_with fail
    with_reducible refine (copyBytes_any B0 mn cb0 ys _ (HX0h.out.on H.out.below) (by omega)).mono ?_
    rintro e w20 ⟨A20, c20, rfl, hk1, hk2, o20, hb20⟩
    replace H := Lib.hid (H.out.on hb20)
    replace HQ := Lib.hid (HQ.out.on hb20)
    have HI := Lib.hid (own_reads o20)
    have HKc := Lib.hid (And.intro hk1 hk2)
    have hyl : ys.length = mn := by have := HI.out.1; simpa [u8s] using this
    have Hyl := Lib.hid hyl
    clear o20 hb20 q0 hmi h1 h3 h4 hc63 HX0h hk1 hk2 hyl
    obtain ⟨mt, hmt⟩ : ∃ mt : Nat, mt = min m1 60 := ⟨_, rfl⟩
    have hmi : min (m1 : Int) 60 = (mt : Int) := by omega
    have h1 : mt ≤ m1 := by omega
    have h3 : mt ≤ cb1 := by omega
    have h4 : (mt : Int) ≤ (cb1 : Int) := by omega
    have hc63 : cb1 ≤ 9223372036854775807 := by have := Hc1.out; simp only [maxLen] at this; omega
    have hmt60 : mt ≤ 60 := by omega
    have HX1h := Lib.hid (show Reads w w.heap.size 1 B1 mt (u8s (xs1.take mt)) by have := HX1.out.head h1; rwa [Nat.mul_one, u8s_take] at this)
    generalize xs1.take mt = zt at HX1h
    clear hmt
    go_wp2
    have hS : w20.drew.cell? ⟨w.heap.size + 1, 1, none⟩ = some (.slice B1 m1 cb1) := HQ.out.drew.cell 1
    have HLT := Lib.hid (show ∀ w' : World, w'.cell? ⟨w.heap.size + 1, 1, none⟩ = some (.slice B1 m1 cb1) → w'.cell? ⟨w.heap.size + 1, 1, none⟩ = some (.slice B1 m1 cb1) from fun _ h => h)
    refine wp_region_keep (fun w' => w'.cell? ⟨w.heap.size + 1, 1, none⟩ = some (.slice B1 m1 cb1)) [(0, false), (2, false), (3, false), (4, false), (5, false), (6, false), (7, false), (8, false), (1, true), (9, true), (10, false)] (by kernel_rfl) (by kernel_rfl) (by kernel_rfl) (fun d _ _ _ _ h => by cases d <;> exact h) ?_
    have Hd := Lib.hid (show Below w20.heap.size w20 w20.drew from (Below.refl _ _).drew)
    replace H := Lib.hid (H.out.on Hd.out)
    replace HQ := Lib.hid (HQ.out.on Hd.out)
    replace HI := Lib.hid (HI.out.on Hd.out)
    clear Hd
    refine held_pure (v := ?_) rfl rfl (by simp [Region.wanted, yielded]) hS ?_ ?_
    rotate_left
    · intro w hw; go_simp; try with_reducible rfl
    try simp only [Act.put, List.setIfInBounds_toArray, List.set_cons_succ, List.set_cons_zero]
    refine held_pure (v := ?_) rfl rfl (by simp [Region.wanted, yielded]) hS ?_ ?_
    rotate_left
    · intro w hw; go_simp; try with_reducible rfl
    try simp only [Act.put, List.setIfInBounds_toArray, List.set_cons_succ, List.set_cons_zero]
    refine held_pure (v := ?_) rfl rfl (by simp [Region.wanted, yielded]) hS ?_ ?_
    rotate_left
    · intro w hw; have c0 := HLT.out w hw; clear hw; go_simp; try with_reducible rfl
    try simp only [Act.put, List.setIfInBounds_toArray, List.set_cons_succ, List.set_cons_zero]
    refine held_pure (v := ?_) rfl rfl (by simp [Region.wanted, yielded]) hS ?_ ?_
    rotate_left
    · intro w hw; go_simp; try with_reducible rfl
    try simp only [Act.put, List.setIfInBounds_toArray, List.set_cons_succ, List.set_cons_zero]
    refine held_pure (v := ?_) rfl rfl (by simp [Region.wanted, yielded]) hS ?_ ?_
    rotate_left
    · intro w hw; have c0 := HLT.out w hw; clear hw; go_simp; try with_reducible rfl
    try simp only [Act.put, List.setIfInBounds_toArray, List.set_cons_succ, List.set_cons_zero]
    refine held_pure (v := ?_) rfl rfl (by simp [Region.wanted, yielded]) hS ?_ ?_
    rotate_left
    · intro w hw; go_simp; try with_reducible rfl
    try simp only [Act.put, List.setIfInBounds_toArray, List.set_cons_succ, List.set_cons_zero]
    refine held_pure (v := ?_) rfl rfl (by simp [Region.wanted, yielded]) hS ?_ ?_
    rotate_left
    · intro w hw; go_simp; try with_reducible rfl
    try simp only [Act.put, List.setIfInBounds_toArray, List.set_cons_succ, List.set_cons_zero]
    refine held_pure (v := ?_) rfl rfl (by simp [Region.wanted, yielded]) hS ?_ ?_
    rotate_left
    · intro w hw; go_simp; try with_reducible rfl
    try simp only [Act.put, List.setIfInBounds_toArray, List.set_cons_succ, List.set_cons_zero]
    refine held_eff1 rfl (by simp [Region.wanted, yielded]) fun K hK => ?_
    go_simp
    with_reducible refine (copyBytes_any A20 mn c20 ys _ HI.out (by omega)).mono ?_
    rintro e w21 ⟨A21, c21, rfl, -, -, o21, hb21⟩
    have HS21 := Lib.hid ((HQ.out.on hb21).cell 1)
    have HO21 := Lib.hid o21
    have HB21 := Lib.hid hb21
    clear o21 hb21
    refine held_go hK (by exact HS21.out) fun hS => ?_
    clear hK K
    try simp only [Act.put, List.setIfInBounds_toArray, List.set_cons_succ, List.set_cons_zero]
    refine held_eff1 rfl (by simp [Region.wanted, yielded]) fun K hK => ?_
    refine wp_append_any _ (.tmp 103) (.tmp 110) 26 rfl _ 5 i0 (.int .u8 0) 1 1 Tryz.underlying26 hi0 hz0 hz1 hz2 rfl (by decide) A21 mn c21 _ rfl HO21.out B1 mt cb1 (u8s zt) rfl ((HX1h.out.on H.out.below).on HB21.out) (u8s_one _) (by simp only [maxLen]; omega) (by omega) HB21.out.size ?_
    intro A22 c22 w22 r1 r2 r3 r4 r5
    have HB22 := Lib.hid (HB21.out.trans r2)
    have hr4 : mn ≤ c22 := by omega
    have hr4i : (mn : Int) ≤ (c22 : Int) := by omega
    have hc22 : c22 ≤ 9223372036854775807 := by have := r5; simp only [maxLen] at this; omega
    have Hr5 := Lib.hid r5
    have HR := Lib.hid (show Reads w22 w22.heap.size 1 A22 mn (u8s ys) by
      have h9 := (own_reads r1).head (k := mn) (Nat.le_add_right _ _)
      rw [← u8s_append, Nat.mul_one, u8s_take, ← Hyl.out, List.take_left] at h9
      rw [Hyl.out] at h9
      exact h9)
    replace H := Lib.hid (H.out.on HB22.out)
    replace HQ := Lib.hid (HQ.out.on HB22.out)
    replace HI := Lib.hid (HI.out.on HB22.out)
    have HS22 := Lib.hid (HQ.out.cell 1)
    clear r1 r2 r3 r4 r5 HO21 HB21 HB22 HS21
    refine held_go hK (by exact HS22.out) fun hS => ?_
    clear hK K
    try simp only [Act.put, List.setIfInBounds_toArray, List.set_cons_succ, List.set_cons_zero]
    refine held_pure (v := ?_) rfl rfl (by simp [Region.wanted, yielded]) hS ?_ ?_
    rotate_left
    · intro w hw; go_simp; try with_reducible rfl
    try simp only [Act.put, List.setIfInBounds_toArray, List.set_cons_succ, List.set_cons_zero]
    refine held_end ?_
    clear HLT HS22 hS HQ hmi h1 h3 h4 hc63 HX1h
    rcases hd : decB lc ys with er | b2
    · have Hd := Lib.hid hd
      clear hd
      go_wp2_with fail
      with_reducible refine (bdec_any A1 mk c1 lc A20 mn c20 ys _ H.out.cols H.out.max1 HI.out HKc.out.1 HKc.out.2 H.out.tab).mono ?_
      rw [Hd.out]
      rintro e w23 ⟨hb23, rfl, her⟩
      have d1 : ((er : Int) != 0) = true := by simp; omega
      have d2 : ((er : Int) != (er : Int)) = false := by simp
      replace H := Lib.hid ((H.out.on hb23).al (.cells #[.int .i64 0, .int .i64 0, .slice none 0 0] 25))
      replace HR := Lib.hid ((HR.out.on hb23).al (.cells #[.int .i64 0, .int .i64 0, .slice none 0 0] 25))
      have HC := Lib.hid (Blk.new w23 25 #[.int .i64 0, .int .i64 0, .slice none 0 0])
      clear hb23 HI
      go_wp2_with fail
      with_reducible refine (bdec_any A1 mk c1 lc A22 mn c22 ys _ H.out.cols H.out.max1 HR.out hr4 Hr5.out H.out.tab).mono ?_
      rw [Hd.out]
      rintro e w24 ⟨hb24, rfl, -⟩
      replace H := Lib.hid ((H.out.on hb24).al (.cells #[.int .i64 0, .int .i64 0, .slice none 0 0] 25))
      replace HC := Lib.hid ((HC.out.on hb24).alloc (.cells #[.int .i64 0, .int .i64 0, .slice none 0 0] 25))
      have HD := Lib.hid (Blk.new w24 25 #[.int .i64 0, .int .i64 0, .slice none 0 0])
      clear hb24 HR her
      have e0 := HC.out.cell 0
      have e1 := HC.out.cell 1
      have e2 := HC.out.cell 2
      have g0 := HD.out.cell 0
      have g1 := HD.out.cell 1
      have g2 := HD.out.cell 2
      go_wp2_with fail
      with_reducible refine (bsame_any 0 0 none 0 0 [] 0 0 none 0 0 [] _ ItemsAt.nil ItemsAt.nil (by decide)).mono ?_
      rw [sameBa_self]
      rintro e w25 ⟨rfl, hb25⟩
      replace H := Lib.hid (H.out.on hb25)
      replace HC := Lib.hid (HC.out.on hb25)
      clear hb25 e0 e1 e2 g0 g1 g2 HD
      have e0 := HC.out.cell 0
      have e1 := HC.out.cell 1
      have e2 := HC.out.cell 2
      go_wp2_with fail
      with_reducible refine (bsame_any 0 0 none 0 0 [] 0 0 none 0 0 [] _ ItemsAt.nil ItemsAt.nil (by decide)).mono ?_
      rw [sameBa_self]
      rintro e w26 ⟨rfl, hb26⟩
      replace H := Lib.hid (H.out.on hb26)
      clear hb26
      go_wp2
      go_ret
      exact ⟨rfl, H.out.below⟩
    · obtain ⟨hf2, hbo2, henc⟩ := decB_only hd
      obtain ⟨hm0', hm1'⟩ := match_dec_ok hd H.out.baok
      have Hm0 := Lib.hid hm0'
      have Hm1 := Lib.hid hm1'
      have HE2 := Lib.hid ((fits_iff lc b2).2 hf2)
      have Hbo2 := Lib.hid hbo2
      have Hs9 := Lib.hid hbo2.1
      have Hok2 := Lib.hid (hf2.itOk hbo2)
      have Hrows := Lib.hid hf2.rows
      have Henc := Lib.hid henc
      have Hcutd := Lib.hid (show ∀ j, j < mn → ∃ er, decB lc (ys.take j) = .error er by
        intro j hj
        have h9 := hf2.cut hbo2 j (by rw [henc, Hyl.out]; exact hj)
        rwa [henc] at h9)
      have Hd := Lib.hid hd
      clear hd hf2 hbo2 henc hm0' hm1'
      obtain ⟨v2, s2, l2⟩ := b2
      simp only at Hrows Hok2 Hs9
      go_wp2_with fail
      with_reducible refine (bdec_any A1 mk c1 lc A20 mn c20 ys _ H.out.cols H.out.max1 HI.out HKc.out.1 HKc.out.2 H.out.tab).mono ?_
      rw [Hd.out]
      rintro e w23 ⟨hb23, J1, j1, f1, rfl, hio⟩
      simp only at hio ⊢
      have hj1 : j1 ≤ maxLen := by
        have h8 := hio.len
        have h9 := Hrows.out
        simp only [maxLen]
        omega
      have hjl := hio.len
      replace H := Lib.hid ((H.out.on hb23).al (.cells #[.int .i64 v2, .int .i64 s2, .slice J1 j1 f1] 25))
      replace HI := Lib.hid ((HI.out.on hb23).al (.cells #[.int .i64 v2, .int .i64 s2, .slice J1 j1 f1] 25))
      replace HR := Lib.hid ((HR.out.on hb23).al (.cells #[.int .i64 v2, .int .i64 s2, .slice J1 j1 f1] 25))
      have HC := Lib.hid (Blk.new w23 25 #[.int .i64 v2, .int .i64 s2, .slice J1 j1 f1])
      have HJ := Lib.hid (hio.at_.al (.cells #[.int .i64 v2, .int .i64 s2, .slice J1 j1 f1] 25))
      clear hb23 hio
      go_wp2_with fail
      with_reducible refine (bdec_any A1 mk c1 lc A22 mn c22 ys _ H.out.cols H.out.max1 HR.out hr4 Hr5.out H.out.tab).mono ?_
      rw [Hd.out]
      rintro e w24 ⟨hb24, J2, j2, f2, rfl, hio⟩
      simp only at hio ⊢
      have hj2 := hio.len
      obtain rfl : j1 = j2 := by omega
      replace H := Lib.hid ((H.out.on hb24).al (.cells #[.int .i64 v2, .int .i64 s2, .slice J2 j1 f2] 25))
      replace HI := Lib.hid ((HI.out.on hb24).al (.cells #[.int .i64 v2, .int .i64 s2, .slice J2 j1 f2] 25))
      replace HC := Lib.hid ((HC.out.on hb24).alloc (.cells #[.int .i64 v2, .int .i64 s2, .slice J2 j1 f2] 25))
      replace HJ := Lib.hid ((HJ.out.on hb24).al (.cells #[.int .i64 v2, .int .i64 s2, .slice J2 j1 f2] 25))
      have HD := Lib.hid (Blk.new w24 25 #[.int .i64 v2, .int .i64 s2, .slice J2 j1 f2])
      have HK := Lib.hid (hio.at_.al (.cells #[.int .i64 v2, .int .i64 s2, .slice J2 j1 f2] 25))
      obtain ⟨gc, hgc⟩ : ∃ gc, gc = w23.heap.size := ⟨_, rfl⟩
      rw [← hgc] at HC ⊢
      clear hb24 hio HR hjl hj2 Hd hgc
      have e0 := HC.out.cell 0
      have e1 := HC.out.cell 1
      have e2 := HC.out.cell 2
      have g0 := HD.out.cell 0
      have g1 := HD.out.cell 1
      have g2 := HD.out.cell 2
      go_wp2_with fail
      with_reducible refine (bsame_any v2 s2 J1 j1 f1 l2 v2 s2 J2 j1 f2 l2 _ HJ.out HK.out hj1).mono ?_
      rw [sameBa_self]
      rintro e w25 ⟨rfl, hb25⟩
      replace H := Lib.hid (H.out.on hb25)
      replace HI := Lib.hid (HI.out.on hb25)
      replace HJ := Lib.hid (HJ.out.on hb25)
      replace HC := Lib.hid (HC.out.on hb25)
      clear hb25 e0 e1 e2
      have e0 := HC.out.cell 0
      have e1 := HC.out.cell 1
      have e2 := HC.out.cell 2
      clear g0 g1 g2 HD HK
      go_wp2_with fail
      with_reducible refine (benc_any A1 mk c1 lc v2 s2 J1 j1 f1 l2 _ H.out.cols H.out.max1 HJ.out hj1 Hbo2.out Hok2.out H.out.tab).mono ?_
      rintro e w26 ⟨hb26, ⟨-, A26, c26, rfl, o26⟩ | ⟨h0, -⟩⟩
      case inr => exact absurd HE2.out h0
      rw [Henc.out, Hyl.out] at o26 ⊢
      have HZ := Lib.hid (own_reads o26)
      replace H := Lib.hid (H.out.on hb26)
      replace HI := Lib.hid (HI.out.on hb26)
      replace HJ := Lib.hid (HJ.out.on hb26)
      replace HC := Lib.hid (HC.out.on hb26)
      clear hb26 e0 e1 e2
      have e0 := HC.out.cell 0
      have e1 := HC.out.cell 1
      have e2 := HC.out.cell 2
      clear o26
      go_wp2_with fail
      with_reducible refine (eq_yes A26 A20 mn c26 mn c20 ys ys _ HZ.out HI.out rfl).mono ?_
      rintro e w27 ⟨rfl, rfl⟩
      clear HZ
      go_wp2_with fail
      have hmm2 : mn ≤ maxLen := by simp only [maxLen]; omega
      with_reducible refine (gmatch_any A1 mk c1 lc v2 s2 J1 j1 f1 l2 A20 mn c20 ys _ H.out.cols H.out.max1 HJ.out hj1 Hs9.out Hok2.out HI.out hmm2 H.out.tab).mono ?_
      rw [Hm0.out]
      rintro e w28 ⟨rfl, hb28⟩
      replace H := Lib.hid (H.out.on hb28)
      replace HI := Lib.hid (HI.out.on hb28)
      replace HJ := Lib.hid (HJ.out.on hb28)
      replace HC := Lib.hid (HC.out.on hb28)
      clear hb28 e0 e1 e2
      have e0 := HC.out.cell 0
      have e1 := HC.out.cell 1
      have e2 := HC.out.cell 2
      clear e0 e1 e2
      go_wp2
      go_loopw [21] (fun ix wr => ∃ q : Nat, q ≤ mn ∧ ix = .int .i64 (q : Int) ∧ Hid (LawB w A1 mk lc v s A3 k3 c3 lb wr) ∧ Hid (Reads wr wr.heap.size 1 A20 mn (u8s ys)) ∧ Hid (ItemsAt wr wr.heap.size J1 j1 l2) ∧ Hid (Blk wr gc 25 #[.int .i64 v2, .int .i64 s2, .slice J1 j1 f1])) (fun ix _ => mn - (intOf ix).toNat)
      case atStart => exact ⟨0, Nat.zero_le _, rfl, H, HI, HJ, HC⟩
      case round =>
        clear H HI HJ HC
        obtain ⟨q, hq, rfl, H, HI, HJ, HC⟩ := hrel
        by_cases hqn : q < mn
        · have d1 : decide ((q : Int) < (mn : Int)) = true := by simp; omega
          have hqc : q ≤ c20 := by have := HKc.out.1; omega
          have hqi : (q : Int) ≤ (c20 : Int) := by omega
          have hc63 : c20 ≤ 9223372036854775807 := by have := HKc.out.2; simp only [maxLen] at this; omega
          obtain ⟨er, hdec⟩ := Hcutd.out q hqn
          have Hdec := Lib.hid hdec
          have HIq := Lib.hid (show Reads wr wr.heap.size 1 A20 q (u8s (ys.take q)) by have := HI.out.head (k := q) hq; rwa [Nat.mul_one, u8s_take] at this)
          clear hdec
          go_wp2_with fail
          with_reducible refine (bdec_any A1 mk c1 lc A20 q c20 (ys.take q) _ H.out.cols H.out.max1 HIq.out hqc HKc.out.2 H.out.tab).mono ?_
          rw [Hdec.out]
          rintro e w30 ⟨hb30, rfl, her⟩
          have d2 : ((er : Int) == 0) = false := by simp; omega
          have hbz := bal hb30 (.cells #[.int .i64 0, .int .i64 0, .slice none 0 0] 25)
          replace H := Lib.hid (H.out.on hbz)
          replace HI := Lib.hid (HI.out.on hbz)
          replace HJ := Lib.hid (HJ.out.on hbz)
          replace HC := Lib.hid (HC.out.on hbz)
          clear hb30 her hbz HIq
          go_wp2
          go_roundw
          case rel => exact ⟨q + 1, hqn, by go_num, H, HI, HJ, HC⟩
          case measure => simp [intOf]; omega
        · obtain rfl : q = mn := by omega
          have d1 : decide ((q : Int) < (q : Int)) = false := by simp
          have a0 := H.out.box.cell 0
          have a1 := H.out.box.cell 1
          have a2 := H.out.box.cell 2
          go_wp2_with fail
          with_reducible refine (gmatch_any A1 mk c1 lc v s A3 k3 c3 lb A20 q c20 ys _ H.out.cols H.out.max1 H.out.items H.out.max2 H.out.sok H.out.ok HI.out hmm2 H.out.tab).mono ?_
          rintro e w31 ⟨rfl, hb31⟩
          replace H := Lib.hid (H.out.on hb31)
          replace HJ := Lib.hid (HJ.out.on hb31)
          replace HC := Lib.hid (HC.out.on hb31)
          clear hb31 a0 a1 a2
          obtain ⟨mv, hmv⟩ : ∃ mv, matchV lc (v, s, lb) ys = mv := ⟨_, rfl⟩
          rw [hmv]
          have HS := Lib.hid (show (mv == 0) = sameBa (v, s, lb) (v2, s2, l2) by rw [← hmv]; exact Hm1.out)
          clear hmv
          have a0 := H.out.box.cell 0
          have a1 := H.out.box.cell 1
          have a2 := H.out.box.cell 2
          have e0 := HC.out.cell 0
          have e1 := HC.out.cell 1
          have e2 := HC.out.cell 2
          go_wp2_with fail
          with_reducible refine (bsame_any v s A3 k3 c3 lb v2 s2 J1 j1 f1 l2 _ H.out.items HJ.out H.out.max2).mono ?_
          rw [← HS.out]
          rintro e w32 ⟨rfl, hb32⟩
          replace H := Lib.hid (H.out.on hb32)
          clear hb32
          have dq : ((mv == 0) == (mv == 0)) = true := by simp
          go_wp2
          go_ret
          exact ⟨rfl, H.out.below⟩
  · replace H := Lib.hid (H.out.on hb5)
    replace HQ := Lib.hid (HQ.out.on hb5)
    have Hmz := Lib.hid (fun ys => @match_bad lc (v, s, lb) ys hE)
    have Hmn := Lib.hid (matchV_no hE [])
    obtain ⟨E, hEE⟩ : ∃ E, batE lc (v, s, lb) = E := ⟨_, rfl⟩
    rw [hEE] at hE Hmn ⊢
    have HE := Lib.hid hEE
    have t1 : (E == 0) = false := by simpa using hE
    have t2 : (E != E) = false := by simp
    clear hb5 a0 a1 a2 hE hEE
    have a0 := H.out.box.cell 0
    have a1 := H.out.box.cell 1
    have a2 := H.out.box.cell 2
    go_wp2_with fail
    with_reducible refine (gmatch_any A1 mk c1 lc v s A3 k3 c3 lb none 0 0 [] _ H.out.cols H.out.max1 H.out.items H.out.max2 H.out.sok H.out.ok Reads.none_ (by decide) H.out.tab).mono ?_
    rw [Hmn.out]
    rintro e w6 ⟨rfl, hb6⟩
    replace H := Lib.hid (H.out.on hb6)
    replace HQ := Lib.hid (HQ.out.on hb6)
    clear hb6 a0 a1 a2
    have a0 := H.out.box.cell 0
    have a1 := H.out.box.cell 1
    have a2 := H.out.box.cell 2
    go_wp2_with fail
    with_reducible refine (bCheck_any A1 mk c1 lc v s A3 k3 c3 lb _ H.out.cols H.out.max1 H.out.items H.out.max2 H.out.tab.tabs).mono ?_
    rw [HE.out]
    rintro e w7 ⟨rfl, hb7⟩
    replace H := Lib.hid (H.out.on hb7)
    replace HQ := Lib.hid (HQ.out.on hb7)
    clear hb7 a0 a1 a2
    have q0 := HQ.out.cell 0
    obtain ⟨mn, hmn⟩ : ∃ mn : Nat, mn = min m0 2000 := ⟨_, rfl⟩
    have hmi : min (m0 : Int) 2000 = (mn : Int) := by omega
    have h1 : mn ≤ m0 := by omega
    have h3 : mn ≤ cb0 := by omega
    have h4 : (mn : Int) ≤ (cb0 : Int) := by omega
    have hc63 : cb0 ≤ 9223372036854775807 := by have := Hc0.out; simp only [maxLen] at this; omega
    have hmk : mn ≤ 2000 := by omega
    have HX0h := Lib.hid (show Reads w w.heap.size 1 B0 mn (u8s (xs0.take mn)) by have := HX0.out.head h1; rwa [Nat.mul_one, u8s_take] at this)
    generalize xs0.take mn = ys at HX0h
    clear hmn
    go_wp2_with fail
    with_reducible refine (copyBytes_any B0 mn cb0 ys _ (HX0h.out.on H.out.below) (by omega)).mono ?_
    rintro e w20 ⟨A20, c20, rfl, hk1, hk2, o20, hb20⟩
    replace H := Lib.hid (H.out.on hb20)
    replace HQ := Lib.hid (HQ.out.on hb20)
    have HI := Lib.hid (own_reads o20)
    have HKc := Lib.hid (And.intro hk1 hk2)
    have hyl : ys.length = mn := by have := HI.out.1; simpa [u8s] using this
    have Hyl := Lib.hid hyl
    clear o20 hb20 q0 hmi h1 h3 h4 hc63 HX0h hk1 hk2 hyl
    obtain ⟨mt, hmt⟩ : ∃ mt : Nat, mt = min m1 60 := ⟨_, rfl⟩
    have hmi : min (m1 : Int) 60 = (mt : Int) := by omega
    have h1 : mt ≤ m1 := by omega
    have h3 : mt ≤ cb1 := by omega
    have h4 : (mt : Int) ≤ (cb1 : Int) := by omega
    have hc63 : cb1 ≤ 9223372036854775807 := by have := Hc1.out; simp only [maxLen] at this; omega
    have hmt60 : mt ≤ 60 := by omega
    have HX1h := Lib.hid (show Reads w w.heap.size 1 B1 mt (u8s (xs1.take mt)) by have := HX1.out.head h1; rwa [Nat.mul_one, u8s_take] at this)
    generalize xs1.take mt = zt at HX1h
    clear hmt
    go_wp2
    have hS : w20.drew.cell? ⟨w.heap.size + 1, 1, none⟩ = some (.slice B1 m1 cb1) := HQ.out.drew.cell 1
    have HLT := Lib.hid (show ∀ w' : World, w'.cell? ⟨w.heap.size + 1, 1, none⟩ = some (.slice B1 m1 cb1) → w'.cell? ⟨w.heap.size + 1, 1, none⟩ = some (.slice B1 m1 cb1) from fun _ h => h)
    refine wp_region_keep (fun w' => w'.cell? ⟨w.heap.size + 1, 1, none⟩ = some (.slice B1 m1 cb1)) [(0, false), (2, false), (3, false), (4, false), (5, false), (6, false), (7, false), (8, false), (1, true), (9, true), (10, false)] (by kernel_rfl) (by kernel_rfl) (by kernel_rfl) (fun d _ _ _ _ h => by cases d <;> exact h) ?_
    have Hd := Lib.hid (show Below w20.heap.size w20 w20.drew from (Below.refl _ _).drew)
    replace H := Lib.hid (H.out.on Hd.out)
    replace HQ := Lib.hid (HQ.out.on Hd.out)
    replace HI := Lib.hid (HI.out.on Hd.out)
    clear Hd
    refine held_pure (v := ?_) rfl rfl (by simp [Region.wanted, yielded]) hS ?_ ?_
    rotate_left
    · intro w hw; go_simp; try with_reducible rfl
    try simp only [Act.put, List.setIfInBounds_toArray, List.set_cons_succ, List.set_cons_zero]
    refine held_pure (v := ?_) rfl rfl (by simp [Region.wanted, yielded]) hS ?_ ?_
    rotate_left
    · intro w hw; go_simp; try with_reducible rfl
    try simp only [Act.put, List.setIfInBounds_toArray, List.set_cons_succ, List.set_cons_zero]
    refine held_pure (v := ?_) rfl rfl (by simp [Region.wanted, yielded]) hS ?_ ?_
    rotate_left
    · intro w hw; have c0 := HLT.out w hw; clear hw; go_simp; try with_reducible rfl
    try simp only [Act.put, List.setIfInBounds_toArray, List.set_cons_succ, List.set_cons_zero]
    refine held_pure (v := ?_) rfl rfl (by simp [Region.wanted, yielded]) hS ?_ ?_
    rotate_left
    · intro w hw; go_simp; try with_reducible rfl
    try simp only [Act.put, List.setIfInBounds_toArray, List.set_cons_succ, List.set_cons_zero]
    refine held_pure (v := ?_) rfl rfl (by simp [Region.wanted, yielded]) hS ?_ ?_
    rotate_left
    · intro w hw; have c0 := HLT.out w hw; clear hw; go_simp; try with_reducible rfl
    try simp only [Act.put, List.setIfInBounds_toArray, List.set_cons_succ, List.set_cons_zero]
    refine held_pure (v := ?_) rfl rfl (by simp [Region.wanted, yielded]) hS ?_ ?_
    rotate_left
    · intro w hw; go_simp; try with_reducible rfl
    try simp only [Act.put, List.setIfInBounds_toArray, List.set_cons_succ, List.set_cons_zero]
    refine held_pure (v := ?_) rfl rfl (by simp [Region.wanted, yielded]) hS ?_ ?_
    rotate_left
    · intro w hw; go_simp; try with_reducible rfl
    try simp only [Act.put, List.setIfInBounds_toArray, List.set_cons_succ, List.set_cons_zero]
    refine held_pure (v := ?_) rfl rfl (by simp [Region.wanted, yielded]) hS ?_ ?_
    rotate_left
    · intro w hw; go_simp; try with_reducible rfl
    try simp only [Act.put, List.setIfInBounds_toArray, List.set_cons_succ, List.set_cons_zero]
    refine held_eff1 rfl (by simp [Region.wanted, yielded]) fun K hK => ?_
    go_simp
    with_reducible refine (copyBytes_any A20 mn c20 ys _ HI.out (by omega)).mono ?_
    rintro e w21 ⟨A21, c21, rfl, -, -, o21, hb21⟩
    have HS21 := Lib.hid ((HQ.out.on hb21).cell 1)
    have HO21 := Lib.hid o21
    have HB21 := Lib.hid hb21
    clear o21 hb21
    refine held_go hK (by exact HS21.out) fun hS => ?_
    clear hK K
    try simp only [Act.put, List.setIfInBounds_toArray, List.set_cons_succ, List.set_cons_zero]
    refine held_eff1 rfl (by simp [Region.wanted, yielded]) fun K hK => ?_
    refine wp_append_any _ (.tmp 103) (.tmp 110) 26 rfl _ 5 i0 (.int .u8 0) 1 1 Tryz.underlying26 hi0 hz0 hz1 hz2 rfl (by decide) A21 mn c21 _ rfl HO21.out B1 mt cb1 (u8s zt) rfl ((HX1h.out.on H.out.below).on HB21.out) (u8s_one _) (by simp only [maxLen]; omega) (by omega) HB21.out.size ?_
    intro A22 c22 w22 r1 r2 r3 r4 r5
    have HB22 := Lib.hid (HB21.out.trans r2)
    have hr4 : mn ≤ c22 := by omega
    have hr4i : (mn : Int) ≤ (c22 : Int) := by omega
    have hc22 : c22 ≤ 9223372036854775807 := by have := r5; simp only [maxLen] at this; omega
    have Hr5 := Lib.hid r5
    have HR := Lib.hid (show Reads w22 w22.heap.size 1 A22 mn (u8s ys) by
      have h9 := (own_reads r1).head (k := mn) (Nat.le_add_right _ _)
      rw [← u8s_append, Nat.mul_one, u8s_take, ← Hyl.out, List.take_left] at h9
      rw [Hyl.out] at h9
      exact h9)
    replace H := Lib.hid (H.out.on HB22.out)
    replace HQ := Lib.hid (HQ.out.on HB22.out)
    replace HI := Lib.hid (HI.out.on HB22.out)
    have HS22 := Lib.hid (HQ.out.cell 1)
    clear r1 r2 r3 r4 r5 HO21 HB21 HB22 HS21
    refine held_go hK (by exact HS22.out) fun hS => ?_
    clear hK K
    try simp only [Act.put, List.setIfInBounds_toArray, List.set_cons_succ, List.set_cons_zero]
    refine held_pure (v := ?_) rfl rfl (by simp [Region.wanted, yielded]) hS ?_ ?_
    rotate_left
    · intro w hw; go_simp; try with_reducible rfl
    try simp only [Act.put, List.setIfInBounds_toArray, List.set_cons_succ, List.set_cons_zero]
    refine held_end ?_
    clear HLT HS22 hS HQ hmi h1 h3 h4 hc63 HX1h
    rcases hd : decB lc ys with er | b2
    · have Hd := Lib.hid hd
      clear hd
      go_wp2_with fail
      with_reducible refine (bdec_any A1 mk c1 lc A20 mn c20 ys _ H.out.cols H.out.max1 HI.out HKc.out.1 HKc.out.2 H.out.tab).mono ?_
      rw [Hd.out]
      rintro e w23 ⟨hb23, rfl, her⟩
      have d1 : ((er : Int) != 0) = true := by simp; omega
      have d2 : ((er : Int) != (er : Int)) = false := by simp
      replace H := Lib.hid ((H.out.on hb23).al (.cells #[.int .i64 0, .int .i64 0, .slice none 0 0] 25))
      replace HR := Lib.hid ((HR.out.on hb23).al (.cells #[.int .i64 0, .int .i64 0, .slice none 0 0] 25))
      have HC := Lib.hid (Blk.new w23 25 #[.int .i64 0, .int .i64 0, .slice none 0 0])
      clear hb23 HI
      go_wp2_with fail
      with_reducible refine (bdec_any A1 mk c1 lc A22 mn c22 ys _ H.out.cols H.out.max1 HR.out hr4 Hr5.out H.out.tab).mono ?_
      rw [Hd.out]
      rintro e w24 ⟨hb24, rfl, -⟩
      replace H := Lib.hid ((H.out.on hb24).al (.cells #[.int .i64 0, .int .i64 0, .slice none 0 0] 25))
      replace HC := Lib.hid ((HC.out.on hb24).alloc (.cells #[.int .i64 0, .int .i64 0, .slice none 0 0] 25))
      have HD := Lib.hid (Blk.new w24 25 #[.int .i64 0, .int .i64 0, .slice none 0 0])
      clear hb24 HR her
      have e0 := HC.out.cell 0
      have e1 := HC.out.cell 1
      have e2 := HC.out.cell 2
      have g0 := HD.out.cell 0
      have g1 := HD.out.cell 1
      have g2 := HD.out.cell 2
      go_wp2_with fail
      with_reducible refine (bsame_any 0 0 none 0 0 [] 0 0 none 0 0 [] _ ItemsAt.nil ItemsAt.nil (by decide)).mono ?_
      rw [sameBa_self]
      rintro e w25 ⟨rfl, hb25⟩
      replace H := Lib.hid (H.out.on hb25)
      replace HC := Lib.hid (HC.out.on hb25)
      clear hb25 e0 e1 e2 g0 g1 g2 HD
      have e0 := HC.out.cell 0
      have e1 := HC.out.cell 1
      have e2 := HC.out.cell 2
      go_wp2_with fail
      with_reducible refine (bsame_any 0 0 none 0 0 [] 0 0 none 0 0 [] _ ItemsAt.nil ItemsAt.nil (by decide)).mono ?_
      rw [sameBa_self]
      rintro e w26 ⟨rfl, hb26⟩
      replace H := Lib.hid (H.out.on hb26)
      clear hb26
      go_wp2
      go_ret
      exact ⟨rfl, H.out.below⟩
    · obtain ⟨hf2, hbo2, henc⟩ := decB_only hd
      obtain ⟨hm0', hm1'⟩ := match_dec_ok hd H.out.baok
      have Hm0 := Lib.hid hm0'
      have Hm1 := Lib.hid hm1'
      have HE2 := Lib.hid ((fits_iff lc b2).2 hf2)
      have Hbo2 := Lib.hid hbo2
      have Hs9 := Lib.hid hbo2.1
      have Hok2 := Lib.hid (hf2.itOk hbo2)
      have Hrows := Lib.hid hf2.rows
      have Henc := Lib.hid henc
      have Hcutd := Lib.hid (show ∀ j, j < mn → ∃ er, decB lc (ys.take j) = .error er by
        intro j hj
        have h9 := hf2.cut hbo2 j (by rw [henc, Hyl.out]; exact hj)
        rwa [henc] at h9)
      have Hd := Lib.hid hd
      clear hd hf2 hbo2 henc hm0' hm1'
      obtain ⟨v2, s2, l2⟩ := b2
      simp only at Hrows Hok2 Hs9
      go_wp2_with fail
      with_reducible refine (bdec_any A1 mk c1 lc A20 mn c20 ys _ H.out.cols H.out.max1 HI.out HKc.out.1 HKc.out.2 H.out.tab).mono ?_
      rw [Hd.out]
      rintro e w23 ⟨hb23, J1, j1, f1, rfl, hio⟩
      simp only at hio ⊢
      have hj1 : j1 ≤ maxLen := by
        have h8 := hio.len
        have h9 := Hrows.out
        simp only [maxLen]
        omega
      have hjl := hio.len
      replace H := Lib.hid ((H.out.on hb23).al (.cells #[.int .i64 v2, .int .i64 s2, .slice J1 j1 f1] 25))
      replace HI := Lib.hid ((HI.out.on hb23).al (.cells #[.int .i64 v2, .int .i64 s2, .slice J1 j1 f1] 25))
      replace HR := Lib.hid ((HR.out.on hb23).al (.cells #[.int .i64 v2, .int .i64 s2, .slice J1 j1 f1] 25))
      have HC := Lib.hid (Blk.new w23 25 #[.int .i64 v2, .int .i64 s2, .slice J1 j1 f1])
      have HJ := Lib.hid (hio.at_.al (.cells #[.int .i64 v2, .int .i64 s2, .slice J1 j1 f1] 25))
      clear hb23 hio
      go_wp2_with fail
      with_reducible refine (bdec_any A1 mk c1 lc A22 mn c22 ys _ H.out.cols H.out.max1 HR.out hr4 Hr5.out H.out.tab).mono ?_
      rw [Hd.out]
      rintro e w24 ⟨hb24, J2, j2, f2, rfl, hio⟩
      simp only at hio ⊢
      have hj2 := hio.len
      obtain rfl : j1 = j2 := by omega
      replace H := Lib.hid ((H.out.on hb24).al (.cells #[.int .i64 v2, .int .i64 s2, .slice J2 j1 f2] 25))
      replace HI := Lib.hid ((HI.out.on hb24).al (.cells #[.int .i64 v2, .int .i64 s2, .slice J2 j1 f2] 25))
      replace HC := Lib.hid ((HC.out.on hb24).alloc (.cells #[.int .i64 v2, .int .i64 s2, .slice J2 j1 f2] 25))
      replace HJ := Lib.hid ((HJ.out.on hb24).al (.cells #[.int .i64 v2, .int .i64 s2, .slice J2 j1 f2] 25))
      have HD := Lib.hid (Blk.new w24 25 #[.int .i64 v2, .int .i64 s2, .slice J2 j1 f2])
      have HK := Lib.hid (hio.at_.al (.cells #[.int .i64 v2, .int .i64 s2, .slice J2 j1 f2] 25))
      obtain ⟨gc, hgc⟩ : ∃ gc, gc = w23.heap.size := ⟨_, rfl⟩
      rw [← hgc] at HC ⊢
      clear hb24 hio HR hjl hj2 Hd hgc
      have e0 := HC.out.cell 0
      have e1 := HC.out.cell 1
      have e2 := HC.out.cell 2
      have g0 := HD.out.cell 0
      have g1 := HD.out.cell 1
      have g2 := HD.out.cell 2
      go_wp2_with fail
      with_reducible refine (bsame_any v2 s2 J1 j1 f1 l2 v2 s2 J2 j1 f2 l2 _ HJ.out HK.out hj1).mono ?_
      rw [sameBa_self]
      rintro e w25 ⟨rfl, hb25⟩
      replace H := Lib.hid (H.out.on hb25)
      replace HI := Lib.hid (HI.out.on hb25)
      replace HJ := Lib.hid (HJ.out.on hb25)
      replace HC := Lib.hid (HC.out.on hb25)
      clear hb25 e0 e1 e2
      have e0 := HC.out.cell 0
      have e1 := HC.out.cell 1
      have e2 := HC.out.cell 2
      clear g0 g1 g2 HD HK
      go_wp2_with fail
      with_reducible refine (benc_any A1 mk c1 lc v2 s2 J1 j1 f1 l2 _ H.out.cols H.out.max1 HJ.out hj1 Hbo2.out Hok2.out H.out.tab).mono ?_
      rintro e w26 ⟨hb26, ⟨-, A26, c26, rfl, o26⟩ | ⟨h0, -⟩⟩
      case inr => exact absurd HE2.out h0
      rw [Henc.out, Hyl.out] at o26 ⊢
      have HZ := Lib.hid (own_reads o26)
      replace H := Lib.hid (H.out.on hb26)
      replace HI := Lib.hid (HI.out.on hb26)
      replace HJ := Lib.hid (HJ.out.on hb26)
      replace HC := Lib.hid (HC.out.on hb26)
      clear hb26 e0 e1 e2
      have e0 := HC.out.cell 0
      have e1 := HC.out.cell 1
      have e2 := HC.out.cell 2
      clear o26
      go_wp2_with fail
      with_reducible refine (eq_yes A26 A20 mn c26 mn c20 ys ys _ HZ.out HI.out rfl).mono ?_
      rintro e w27 ⟨rfl, rfl⟩
      clear HZ
      go_wp2_with fail
      have hmm2 : mn ≤ maxLen := by simp only [maxLen]; omega
      with_reducible refine (gmatch_any A1 mk c1 lc v2 s2 J1 j1 f1 l2 A20 mn c20 ys _ H.out.cols H.out.max1 HJ.out hj1 Hs9.out Hok2.out HI.out hmm2 H.out.tab).mono ?_
      rw [Hm0.out]
      rintro e w28 ⟨rfl, hb28⟩
      replace H := Lib.hid (H.out.on hb28)
      replace HI := Lib.hid (HI.out.on hb28)
      replace HJ := Lib.hid (HJ.out.on hb28)
      replace HC := Lib.hid (HC.out.on hb28)
      clear hb28 e0 e1 e2
      have e0 := HC.out.cell 0
      have e1 := HC.out.cell 1
      have e2 := HC.out.cell 2
      clear e0 e1 e2
      go_wp2
      go_loopw [21] (fun ix wr => ∃ q : Nat, q ≤ mn ∧ ix = .int .i64 (q : Int) ∧ Hid (LawB w A1 mk lc v s A3 k3 c3 lb wr) ∧ Hid (Reads wr wr.heap.size 1 A20 mn (u8s ys)) ∧ Hid (ItemsAt wr wr.heap.size J1 j1 l2) ∧ Hid (Blk wr gc 25 #[.int .i64 v2, .int .i64 s2, .slice J1 j1 f1])) (fun ix _ => mn - (intOf ix).toNat)
      case atStart => exact ⟨0, Nat.zero_le _, rfl, H, HI, HJ, HC⟩
      case round =>
        clear H HI HJ HC
        obtain ⟨q, hq, rfl, H, HI, HJ, HC⟩ := hrel
        by_cases hqn : q < mn
        · have d1 : decide ((q : Int) < (mn : Int)) = true := by simp; omega
          have hqc : q ≤ c20 := by have := HKc.out.1; omega
          have hqi : (q : Int) ≤ (c20 : Int) := by omega
          have hc63 : c20 ≤ 9223372036854775807 := by have := HKc.out.2; simp only [maxLen] at this; omega
          obtain ⟨er, hdec⟩ := Hcutd.out q hqn
          have Hdec := Lib.hid hdec
          have HIq := Lib.hid (show Reads wr wr.heap.size 1 A20 q (u8s (ys.take q)) by have := HI.out.head (k := q) hq; rwa [Nat.mul_one, u8s_take] at this)
          clear hdec
          go_wp2_with fail
          with_reducible refine (bdec_any A1 mk c1 lc A20 q c20 (ys.take q) _ H.out.cols H.out.max1 HIq.out hqc HKc.out.2 H.out.tab).mono ?_
          rw [Hdec.out]
          rintro e w30 ⟨hb30, rfl, her⟩
          have d2 : ((er : Int) == 0) = false := by simp; omega
          have hbz := bal hb30 (.cells #[.int .i64 0, .int .i64 0, .slice none 0 0] 25)
          replace H := Lib.hid (H.out.on hbz)
          replace HI := Lib.hid (HI.out.on hbz)
          replace HJ := Lib.hid (HJ.out.on hbz)
          replace HC := Lib.hid (HC.out.on hbz)
          clear hb30 her hbz HIq
          go_wp2
          go_roundw
          case rel => exact ⟨q + 1, hqn, by go_num, H, HI, HJ, HC⟩
          case measure => simp [intOf]; omega
        · obtain rfl : q = mn := by omega
          have d1 : decide ((q : Int) < (q : Int)) = false := by simp
          have a0 := H.out.box.cell 0
          have a1 := H.out.box.cell 1
          have a2 := H.out.box.cell 2
          go_wp2_with fail
          with_reducible refine (gmatch_any A1 mk c1 lc v s A3 k3 c3 lb A20 q c20 ys _ H.out.cols H.out.max1 H.out.items H.out.max2 H.out.sok H.out.ok HI.out hmm2 H.out.tab).mono ?_
          rintro e w31 ⟨rfl, hb31⟩
          replace H := Lib.hid (H.out.on hb31)
          replace HJ := Lib.hid (HJ.out.on hb31)
          replace HC := Lib.hid (HC.out.on hb31)
          clear hb31 a0 a1 a2
          have hmz := Hmz.out ys
          obtain ⟨mv, hmv⟩ : ∃ mv, matchV lc (v, s, lb) ys = mv := ⟨_, rfl⟩
          rw [hmv] at hmz ⊢
          clear hmv
          go_wp2
          go_ret
          exact ⟨rfl, H.out.below⟩
end Go.Proofs.YtegcbjkikhheiaaGreatDoor
