/- The law BatchBurst, walked. -/
import Derived.Test.YtdajddkbkbnoiaaGreatDoorBp20
set_option linter.unusedVariables false
set_option linter.unusedSimpArgs false
namespace Go.Proofs.YtdajddkbkbnoiaaGreatDoor
open Go.RowKit
theorem bit_tmod (b i : Nat) : ((b : Int) / 2 ^ i).tmod 2 = ((b / 2 ^ i % 2 : Nat) : Int) := by
  have e : ((2 : Int) ^ i) = ((2 ^ i : Nat) : Int) := by rw [Int.natCast_pow]; rfl
  rw [e, ← Int.natCast_ediv]
  rfl
theorem flipB_set : ∀ (xs : List UInt8) (p : Nat) (b : UInt8), xs[p / 8]? = some b → flipB xs p = xs.set (p / 8) (b ^^^ UInt8.ofNat (2 ^ (p % 8)))
  | [], p, b, h => by simp at h
  | c :: xs, p, b, h => by
    unfold flipB
    by_cases hp : p < 8
    · have h0 : p / 8 = 0 := by omega
      rw [if_pos hp]
      rw [h0] at h ⊢
      simp only [List.getElem?_cons_zero, Option.some.injEq] at h
      subst h
      rw [Nat.mod_eq_of_lt hp]
      rfl
    · have h0 : p / 8 = (p - 8) / 8 + 1 := by omega
      rw [if_neg hp]
      rw [h0] at h ⊢
      rw [List.getElem?_cons_succ] at h
      rw [flipB_set xs (p - 8) b h, List.set_cons_succ, show (p - 8) % 8 = p % 8 by omega]
theorem xor_byte (b : UInt8) (q : Nat) (hq : q < 8) : bits .xor .u8 (b.toNat : Int) ((2 : Int) ^ q % 256) = ((b ^^^ UInt8.ofNat (2 ^ q)).toNat : Int) := by
  have h2 : (2 : Nat) ^ q ≤ 2 ^ 7 := Nat.pow_le_pow_right (by omega) (by omega)
  have e : ((2 : Int) ^ q) % 256 = ((2 ^ q : Nat) : Int) := by
    have e : ((2 : Int) ^ q) = ((2 ^ q : Nat) : Int) := by rw [Int.natCast_pow]; rfl
    rw [e]
    generalize 2 ^ q = z at h2 ⊢
    omega
  rw [e, u8_xor_nat _ _ b.toNat_lt (by omega), UInt8.toNat_xor, ofNat_toNat' _ (by omega)]
set_option maxRecDepth 100000 in
set_option maxHeartbeats 4000000 in
theorem batchBurst_walk (A : Option Addr) (n c : Nat) (l : List Co) (v s : Int) (I : Option Addr) (m d : Nat) (li : List It) (ta tb : Int) (w : World) (hr : Reads w w.heap.size 7 A n (cos l)) (hn : n ≤ c) (hc : c ≤ maxLen) (hok : CoOk l)
    (hv : -9223372036854775808 ≤ v ∧ v ≤ 9223372036854775807) (hs : -9223372036854775808 ≤ s ∧ s ≤ 9223372036854775807) (hi : ItemsAt w w.heap.size I m li) (hm : m ≤ d) (hd : d ≤ maxLen) (hit : ItOk li)
    (hta : -9223372036854775808 ≤ ta ∧ ta ≤ 9223372036854775807) (htb : -9223372036854775808 ≤ tb ∧ tb ≤ 9223372036854775807) (hT : Tab2 w.heap.size w) :
    Calls Tryz.prog 10 #[.slice A n c, .agg #[.int .i64 v, .int .i64 s, .slice I m d], .agg #[.int .i64 ta, .int .i64 tb]] w fun e w' => e = .returned (.bool true) ∧ Below w.heap.size w w' := by
  have Hr := Lib.hid hr
  have HT := Lib.hid hT
  have Hi := Lib.hid hi
  have Hit := Lib.hid hit
  have Hs := Lib.hid hs.2
  have hmm : m ≤ maxLen := Nat.le_trans hm hd
  have HP := Lib.hid (Blk.new w 25 #[.int .i64 v, .int .i64 s, .slice I m d])
  have HB := Lib.hid (bal (Below.refl w.heap.size w) (.cells #[.int .i64 v, .int .i64 s, .slice I m d] 25))
  clear hr hT hi hit hs hv hm hd hok
  have Hta := Lib.hid hta
  obtain ⟨bt, hbt, hbt2⟩ : ∃ bt : Nat, IntKind.u32.wrap tb = (bt : Int) ∧ bt < 4294967296 := by
    refine ⟨(IntKind.u32.wrap tb).toNat, ?_, ?_⟩ <;> simp [IntKind.wrap, IntKind.signed, IntKind.bits] <;> omega
  have Hbt := Lib.hid hbt
  clear hta htb hbt
  have HP := Lib.hid (HP.out.alloc (.cells #[.int .i64 ta, .int .i64 tb] 48))
  have HB := Lib.hid (bal HB.out (.cells #[.int .i64 ta, .int .i64 tb] 48))
  have HQ := Lib.hid (Blk.new (w.alloc (.cells #[.int .i64 v, .int .i64 s, .slice I m d] 25)) 48 #[.int .i64 ta, .int .i64 tb])
  rw [show (w.alloc (.cells #[.int .i64 v, .int .i64 s, .slice I m d] 25)).heap.size = w.heap.size + 1 by simp] at HQ
  go_enter Tryz.func10, Tryz.ntmps10
  go_wp2
  generalize hW : (w.alloc (.cells #[.int .i64 v, .int .i64 s, .slice I m d] 25)).alloc (.cells #[.int .i64 ta, .int .i64 tb] 48) = W1 at *
  clear hW
  have HL0 := Lib.hid (show ∀ w', Below W1.heap.size W1 w' → w'.cell? ⟨w.heap.size, 0, none⟩ = some (.int .i64 v) from fun w' h => (HP.out.on h).cell 0)
  have HL1 := Lib.hid (show ∀ w', Below W1.heap.size W1 w' → w'.cell? ⟨w.heap.size, 1, none⟩ = some (.int .i64 s) from fun w' h => (HP.out.on h).cell 1)
  have HL2 := Lib.hid (show ∀ w', Below W1.heap.size W1 w' → w'.cell? ⟨w.heap.size, 2, none⟩ = some (.slice I m d) from fun w' h => (HP.out.on h).cell 2)
  have hS : Below W1.heap.size W1 W1.drew := (Below.refl _ _).drew
  refine wp_region_phase (fun w' => Below W1.heap.size W1 w') [0, 2] [(0, false), (2, false), (1, true), (3, true)] (fun _ => True) [(4, false), (5, true)] (by kernel_rfl) (by kernel_rfl) (by kernel_rfl) (fun d _ _ _ _ h => by cases d <;> exact h) ?_
  refine phase_pure (v := ?_) rfl rfl (by simp [Region.wanted, yielded]) hS ?_ ?_
  rotate_left
  · intro w hw; go_simp; try with_reducible rfl
  try simp only [Act.put, List.setIfInBounds_toArray, List.set_cons_succ, List.set_cons_zero]
  refine phase_pure (v := ?_) rfl rfl (by simp [Region.wanted, yielded]) hS ?_ ?_
  rotate_left
  · intro w hw; have c0 := HL0.out w hw; have c1 := HL1.out w hw; have c2 := HL2.out w hw; clear hw; go_simp; try with_reducible rfl
  try simp only [Act.put, List.setIfInBounds_toArray, List.set_cons_succ, List.set_cons_zero]
  refine phase_eff1 rfl (by simp [Region.wanted, yielded]) fun K hK => ?_
  go_simp
  with_reducible refine (columns17_any A n c l _ (Hr.out.on (bon HB.out hS)) hn hc).mono ?_
  rintro e w2 ⟨A1, k1, c1, rfl, hk1, o1, hb2⟩
  have HS2 := Lib.hid (bon hS hb2)
  have HO := Lib.hid o1
  clear o1 hb2
  refine held_go hK (by exact HS2.out) fun hS => ?_
  clear hK K
  try simp only [Act.put, List.setIfInBounds_toArray, List.set_cons_succ, List.set_cons_zero]
  refine phase_eff1 rfl (by simp [Region.wanted, yielded]) fun K hK => ?_
  go_simp
  with_reducible refine (cut17_any v s I m d li _ (Hi.out.on (bon HB.out HS2.out)) hmm Hit.out).mono ?_
  rintro e w3 ⟨A3, k3, c3, rfl, o3, hb3⟩
  have HS3 := Lib.hid (bon HS2.out hb3)
  have HO := Lib.hid (own_below HO.out hb3)
  have HIo := Lib.hid o3
  clear o3 hb3
  refine held_go hK (by exact HS3.out) fun hS => ?_
  clear hK K
  try simp only [Act.put, List.setIfInBounds_toArray, List.set_cons_succ, List.set_cons_zero]
  refine phase_end ?_
  have HP3 := Lib.hid (HP.out.on HS3.out)
  have HBc := Lib.hid (bon HB.out HS3.out)
  clear hS HL0 HL1 HL2 HS2 HP
  have hS : True := trivial
  refine held_pure (v := ?_) rfl rfl (by simp [Region.wanted, yielded]) hS ?_ ?_
  rotate_left
  · intro w hw; go_simp; try with_reducible rfl
  try simp only [Act.put, List.setIfInBounds_toArray, List.set_cons_succ, List.set_cons_zero]
  have a0 := HP3.out.cell 0
  have a1 := HP3.out.cell 1
  have a2 := HP3.out.cell 2
  have f0 := HP3.out.frozen 0
  have f1 := HP3.out.frozen 1
  have f2 := HP3.out.frozen 2
  refine held_eff1 rfl (by simp [Region.wanted, yielded]) fun K hK => ?_
  go_simp
  clear a0 a1 a2 f0 f1 f2
  obtain ⟨w4, hw4⟩ : ∃ w4, w4 = ((w3.setCell ⟨w.heap.size, 0, none⟩ (.int .i64 v)).setCell ⟨w.heap.size, 1, none⟩ (.int .i64 s)).setCell ⟨w.heap.size, 2, none⟩ (.slice A3 k3 c3) := ⟨_, rfl⟩
  obtain ⟨g1, g2, g3, g4, g5, g6⟩ := box_put HP3.out HIo.out hw4
  have HQ := Lib.hid (g6 (HQ.out.on HS3.out) (by omega))
  rw [← hw4]
  have hk3 : k3 ≤ 30 := by
    have := HIo.out.len
    have := cutl_len li
    omega
  have H := Lib.hid (show LawB w A1 k1 (l.take 40) v s A3 k3 c3 (cutl li) w4 from ⟨HBc.out.trans (g3 _ (Nat.le_refl _)), g1, own_reads (g4 HO.out (by decide)), g2.at_, HT.out.on (HBc.out.trans (g3 _ (Nat.le_refl _))), hk1, hk3, cutl_ok Hit.out, Hs.out⟩)
  generalize l.take 40 = lc at H
  clear hw4 g1 g2 g3 g4 g5 g6 HP3 HO HIo HBc HS3
  refine held_go hK (by exact trivial) fun hS => ?_
  clear hK K
  try simp only [Act.put, List.setIfInBounds_toArray, List.set_cons_succ, List.set_cons_zero]
  refine held_end ?_
  clear HB Hr Hi Hit Hs
  generalize cutl li = lb at H
  have a0 := H.out.box.cell 0
  have a1 := H.out.box.cell 1
  have a2 := H.out.box.cell 2
  go_wp2_with fail
  with_reducible refine (benc_any A1 k1 c1 lc v s A3 k3 c3 lb _ H.out.cols H.out.max1 H.out.items H.out.max2 H.out.baok H.out.ok H.out.tab).mono ?_
  rintro e w5 ⟨hb5, ⟨hE, A5, c5, rfl, ho⟩ | ⟨hE, rfl⟩⟩
  · have hf := (fits_iff _ _).1 hE
    have hbk := hf.back H.out.baok
    have hbu := fun at_ => hf.burst at_ bt hbt2
    have hle := hf.enc_le
    have h4 := encA_four lc (v, s, lb)
    have hcc := own_caps ho
    generalize encA lc (v, s, lb) = xs at *
    obtain ⟨xl, hxl⟩ : ∃ xl, xs.length = xl := ⟨_, rfl⟩
    rw [hxl] at ho hle hcc h4 ⊢
    simp only [hxl] at hbu
    have HO := Lib.hid ho
    have Hbk := Lib.hid hbk
    have Hbu := Lib.hid hbu
    have Hcc := Lib.hid hcc
    have Hxl := Lib.hid hxl
    have HK := Lib.hid H.out
    have HB5 := Lib.hid hb5
    have HQ := Lib.hid (HQ.out.on hb5)
    have H := Lib.hid (H.out.on hb5)
    have q0 := HQ.out.cell 0
    have q1 := HQ.out.cell 1
    have d4 : decide ((xl : Int) < 4) = false := by simp; omega
    clear a0 a1 a2 ho hb5 hbk hf hE hcc hxl hbu
    go_wp2_with fail
    have hm0 := Int.emod_nonneg ta (show (8 * (xl : Int) - 31) ≠ 0 by omega)
    have hm1 := Int.emod_lt_of_pos ta (show (0 : Int) < 8 * (xl : Int) - 31 by omega)
    obtain ⟨at_, hat⟩ : ∃ at_ : Nat, ta % (8 * (xl : Int) - 31) = (at_ : Int) := ⟨(ta % (8 * (xl : Int) - 31)).toNat, by omega⟩
    rw [hat] at hm0 hm1
    have hax : at_ + 32 ≤ 8 * xl := by omega
    have Hat := Lib.hid hat
    clear hat hm0 hm1
    with_reducible refine (bring_any ta (8 * (xl : Int) - 31) _ Hta.out.1 Hta.out.2 (by omega) (by omega)).mono ?_
    rw [Hat.out]
    rintro e w6 ⟨rfl, rfl⟩
    have hw := Hbt.out
    go_wp2
    clear q0 q1 d4 hw Hta Hat HQ
    obtain ⟨g, rfl, hg, -, -, -⟩ := own_at HO.out (by omega)
    go_loopw [11] (fun ix wr => ∃ i : Nat, i ≤ 32 ∧ ix = .int .i64 (i : Int) ∧ Hid (wr.ownsRow w4.heap.size 5 1 (.slice (some ⟨g, 0, none⟩) xl c5) xl (u8s (burstB xs at_ bt i))) ∧ Hid (Below w4.heap.size w4 wr)) (fun ix _ => 32 - (intOf ix).toNat)
    case atStart => exact ⟨0, Nat.zero_le _, rfl, HO, HB5⟩
    case round =>
      clear HO HB5
      obtain ⟨i, hi, rfl, HO, HB5⟩ := hrel
      by_cases hlt : i < 32
      · have d1 : decide ((i : Int) < 32) = true := by simp; omega
        obtain ⟨p, hp⟩ : ∃ p : Nat, p = at_ + i := ⟨_, rfl⟩
        have hpi : (at_ : Int) + (i : Int) = (p : Int) := by omega
        have hi1 : i + 1 ≤ 32 := hlt
        have hbt := bit_tmod bt i
        have hlb := burstB_len xs at_ bt i
        by_cases hbit : bt / 2 ^ i % 2 = 1
        · rw [hbit] at hbt
          have hcond : (((bt : Int) / 2 ^ i).tmod 2 == 1) = true := by rw [hbt]; rfl
          have hp8 : p / 8 < xl := by omega
          obtain ⟨b, hb⟩ : ∃ b, (burstB xs at_ bt i)[p / 8]? = some b := ⟨_, List.getElem?_eq_getElem (by rw [hlb, Hxl.out]; exact hp8)⟩
          have c1 : wr.cell? ⟨g, p / 8, none⟩ = some (.int .u8 (b.toNat : Int)) := by
            rw [HO.out.cellAt (p / 8) (by omega)]
            simp [u8s, hb]
          have f1 := HO.out.frozenAt (p / 8)
          have hfl := flipB_set (burstB xs at_ bt i) p b hb
          have hnx := burstB_succ xs at_ bt i
          rw [if_pos hbit, ← hp, hfl] at hnx
          have Hnx := Lib.hid hnx
          have HO2 := Lib.hid (HO.out.stored (p / 8) (.int .u8 ((b ^^^ UInt8.ofNat (2 ^ (p % 8))).toNat : Int))).1
          rw [u8s_set, ← Hnx.out] at HO2
          have HB6 := Lib.hid (HB5.out.setCell (p := ⟨g, p / 8, none⟩) hg (.int .u8 ((b ^^^ UInt8.ofNat (2 ^ (p % 8))).toNat : Int)))
          have Hv := Lib.hid (xor_byte b (p % 8) (by omega))
          clear hb hfl hnx hlb hbit hbt hp
          go_wp2
          go_region
          rw [Hv.out]
          have HO2 := Lib.hid (HO2.out.drew)
          have HB6 := Lib.hid (HB6.out.drew)
          go_wp2
          go_roundw
          case rel => exact ⟨i + 1, hi1, by go_num, HO2, HB6⟩
          case measure => simp [intOf]; omega
        · have hb0 : bt / 2 ^ i % 2 = 0 := by omega
          rw [hb0] at hbt
          have hcond : (((bt : Int) / 2 ^ i).tmod 2 == 1) = false := by rw [hbt]; rfl
          have hnx := burstB_succ xs at_ bt i
          rw [if_neg hbit] at hnx
          have HO2 := HO.out
          rw [← hnx] at HO2
          have HO2 := Lib.hid HO2
          clear hlb hbit hbt hb0 hnx hp
          go_wp2
          go_roundw
          case rel => exact ⟨i + 1, hi1, by go_num, HO2, HB5⟩
          case measure => simp [intOf]; omega
      · have d1 : decide ((i : Int) < 32) = false := by simp; omega
        obtain rfl : i = 32 := by omega
        have H := Lib.hid (HK.out.on HB5.out)
        have HXr := Lib.hid (own_reads HO.out)
        clear HO HB5 HK
        by_cases hb0 : bt = 0
        · subst hb0
          have d2 : (((0 : Nat) : Int) == 0) = true := rfl
          rw [burst_zero] at HXr
          go_wp2_with fail
          with_reducible refine (bdec_any A1 k1 c1 lc _ xl c5 xs _ H.out.cols H.out.max1 HXr.out Hcc.out.1 Hcc.out.2 H.out.tab).mono ?_
          rw [Hbk.out]
          rintro e w7 ⟨hb7, J, kk, dd, rfl, hio⟩
          simp only
          have HJ := Lib.hid (hio.at_.al (.cells #[.int .i64 v, .int .i64 s, .slice J kk dd] 25))
          have H := Lib.hid ((H.out.on hb7).al (.cells #[.int .i64 v, .int .i64 s, .slice J kk dd] 25))
          have a0 := H.out.box.cell 0
          have a1 := H.out.box.cell 1
          have a2 := H.out.box.cell 2
          clear hio hb7 HXr
          go_wp2_with fail
          with_reducible refine (bsame_any v s A3 k3 c3 lb v s J kk dd lb _ H.out.items HJ.out H.out.max2).mono ?_
          rw [sameBa_self]
          rintro e w8 ⟨rfl, hb8⟩
          have H := Lib.hid (H.out.on hb8)
          clear hb8 a0 a1 a2 HJ
          go_wp2_with fail
          with_reducible refine (bworks_yes _ H.out.tab).mono ?_
          rintro e w9 ⟨rfl, hb9⟩
          have H := Lib.hid (H.out.on hb9)
          clear hb9
          go_wp2
          go_ret
          exact ⟨rfl, H.out.below⟩
        · have d2 : ((bt : Int) == 0) = false := by simp; omega
          have hdd := Hbu.out at_ hax hb0
          generalize burstB xs at_ bt 32 = ys at HXr hdd
          have Hdd := Lib.hid hdd
          clear hdd hb0 Hbu
          go_wp2_with fail
          with_reducible refine (bdec_any A1 k1 c1 lc _ xl c5 ys _ H.out.cols H.out.max1 HXr.out Hcc.out.1 Hcc.out.2 H.out.tab).mono ?_
          rw [Hdd.out]
          rintro e w7 ⟨hb7, rfl, -⟩
          have H := Lib.hid ((H.out.on hb7).al (.cells #[.int .i64 0, .int .i64 0, .slice none 0 0] 25))
          clear hb7 HXr
          go_wp2_with fail
          with_reducible refine (bsame_any 0 0 none 0 0 [] 0 0 none 0 0 [] _ ItemsAt.nil ItemsAt.nil (by decide)).mono ?_
          rw [sameBa_self]
          rintro e w8 ⟨rfl, hb8⟩
          have H := Lib.hid (H.out.on hb8)
          clear hb8
          go_wp2_with fail
          with_reducible refine (bworks_yes _ H.out.tab).mono ?_
          rintro e w9 ⟨rfl, hb9⟩
          have H := Lib.hid (H.out.on hb9)
          clear hb9
          go_wp2
          go_ret
          exact ⟨rfl, H.out.below⟩
  · have H := Lib.hid (H.out.on hb5)
    generalize batE lc (v, s, lb) = E at *
    have d1 : (E != 0) = true := by simpa using hE
    clear hb5 hE a0 a1 a2
    go_wp2_with fail
    with_reducible refine (bworks_yes _ H.out.tab).mono ?_
    rintro e w9 ⟨rfl, hb9⟩
    have H := Lib.hid (H.out.on hb9)
    clear hb9
    go_wp2
    go_ret
    exact ⟨rfl, H.out.below⟩
end Go.Proofs.YtdajddkbkbnoiaaGreatDoor
