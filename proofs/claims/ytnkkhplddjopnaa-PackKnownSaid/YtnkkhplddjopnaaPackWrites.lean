/- The law PackWrites, walked. -/
import Derived.Test.YtnkkhplddjopnaaPackBoth
set_option linter.unusedVariables false
set_option linter.unusedSimpArgs false
namespace Go.Proofs.Ytnkkhplddjopnaa
open Go.RowKit
theorem rawB_le (B : List UInt8) (m : Int) (f : Bool) (b : List UInt8) : (rawB B m f b).1.length ≤ B.length + b.length := by
  unfold rawB
  split
  · exact Nat.le_add_right _ _
  · rw [List.length_append]
    exact Nat.le_refl _
theorem newR_base (base : Nat) (most : Int) (w : World) (h1 : -9223372036854775808 ≤ most) (h2 : most ≤ 9223372036854775807) (hb : base ≤ w.heap.size) :
    Calls Try.prog 12 #[.int .i64 most] w fun e w' => ∃ g, e = .returned (.pointer (some ⟨g, 0, none⟩)) ∧ RWr w' base g none [] (max most 0) false ∧ Below w.heap.size w w' := by
  refine (newR_any most w h1 h2).mono ?_
  rintro e w' ⟨h3, ⟨k1, A, c, k2, k3, k4⟩, h5, h6⟩
  exact ⟨_, h3, ⟨Nat.le_trans hb k1, A, c, k2, own_mono k3 hb, k4⟩, h5⟩
/-- What Done hands back, in one form. -/
theorem Doned.uni {B : List UInt8} {full : Bool} {w w' : World} {e : Ending} (h : Doned B full w e w') :
    ∃ (ys : List UInt8) (er : Int) (A : Option Addr) (c : Nat), e = .returned (.tuple #[.slice A ys.length c, .int .i64 er]) ∧ w'.ownsRow w.heap.size 5 1 (.slice A ys.length c) ys.length (u8s ys) ∧ Below w.heap.size w w' ∧ ys = (if full then [] else B) ∧ er = (if full then 5 else 0) := by
  obtain ⟨hb, h⟩ := h
  rcases full with _ | _
  · obtain ⟨A, c, h1, h2, h3, h4⟩ := h
    exact ⟨B, 0, A, c, h1, h4, hb, rfl, rfl⟩
  · exact ⟨[], 5, none, 0, h, World.ownsRow_nil _ _ _ _, hb, rfl, rfl⟩
set_option maxRecDepth 100000 in
set_option maxHeartbeats 4000000 in
theorem packWrites_walk (most : Int) (A : Option Addr) (n c : Nat) (l : List Pc) (w : World) (h1 : -9223372036854775808 ≤ most) (h2 : most ≤ 9223372036854775807)
    (hr : Reads w w.heap.size 3 A n (pcs l)) (hl : n ≤ c) (hc : c ≤ maxLen) (hok : PcOk l) :
    Calls Try.prog 3 #[.int .i64 most, .slice A n c] w fun e w' => e = .returned (.bool true) ∧ Below w.heap.size w w' := by
  have hln := pcs_len hr
  have Hln := Lib.hid hln
  clear hln
  obtain ⟨base, hbase⟩ : ∃ g, g = w.heap.size := ⟨_, rfl⟩
  have Hz := Lib.hid (Nat.le_of_eq hbase)
  obtain ⟨m, hm⟩ : ∃ m, max most 0 = m := ⟨_, rfl⟩
  have Hm1 := Lib.hid (show 0 ≤ m by omega)
  have Hm2 := Lib.hid (show m ≤ 9223372036854775807 by omega)
  have h0 : Calls Try.prog 11 #[.int .i64 most] w fun e w' => e = .returned (.pointer (some ⟨base, 0, none⟩)) ∧ PWr w' base base none [] m false ∧ Below base w w' ∧ base < w'.heap.size := by
    subst hbase hm
    exact newW_any most w h1 h2
  rw [← hbase] at hr ⊢
  have Hr := Lib.hid hr
  have Hok := Lib.hid hok
  go_enter Try.func3, Try.ntmps3
  go_wp2_with fail
  with_reducible refine (h0).mono ?_
  rintro e w1 ⟨rfl, hp, hb, hs⟩
  clear h0 hbase hr hok
  go_wp2_with fail
  with_reducible refine (newR_base base most _ h1 h2 (Nat.le_of_lt hs)).mono ?_
  rintro e w2 ⟨g2, rfl, hq, hb2⟩
  rw [hm] at hq
  replace hp := hp.on hb2
  replace hb := hb.trans (hb2.mono (Nat.le_of_lt hs))
  clear hm hb2 hs h1 h2
  have HB : Both w2 base base g2 [] m false [] false := ⟨none, none, hp, hq, fun k hk => by cases hk⟩
  clear hp hq
  go_wp2
  go_loopw [7] (fun i wr => ∃ (k : Nat) (B : List UInt8) (f : Bool), k ≤ n ∧ k ≤ 40 ∧ i = .int .i64 (k : Int) ∧ Both wr base base g2 B m f B f ∧ Below base w wr ∧ B.length ≤ 60 * k) (fun i _ => n - (intOf i).toNat)
  case atStart => exact ⟨0, [], false, Nat.zero_le _, Nat.zero_le _, rfl, HB, hb, Nat.le_refl _⟩
  case round =>
    clear HB hb
    obtain ⟨k, B, f, hk, hk40, rfl, HB, hb, hBl⟩ := hrel
    by_cases hlt : k < n
    · have d1 : decide ((k : Int) < (n : Int)) = true := by simp; omega
      by_cases hlt4 : k < 40
      · have d2 : decide ((k : Int) < 40) = true := by simp; omega
        have hsz := Nat.le_trans Hz.out hb.size
        obtain ⟨ad, ⟨kind, num, s⟩, rfl, had, hlk, hcell⟩ := pcs_at (Hr.out.below hb) hlt
        obtain ⟨o1, o2, o3, o4⟩ := Hok.out _ (List.mem_of_getElem? hlk)
        simp only [] at o1 o2 o3 o4 hcell
        have e0 := hcell 0 _ rfl
        have e1 := hcell 1 _ rfl
        have e2 := hcell 2 _ rfl
        rw [add_zero3] at e0
        rw [add_pos3 _ _ (by decide)] at e1 e2
        clear hcell
        have Hb := Lib.hid hb
        obtain ⟨r1, r2, hp, hq, hne⟩ := HB
        have hmul : 60 * k ≤ 2400 := by omega
        clear hlk
        go_wp2_with fail
        with_reducible refine (pwput_any base base r1 B m f kind num s _ hp Hm1.out Hm2.out o1 o2 o3 o4 (by omega)).mono ?_
        rintro e w3 hw
        obtain ⟨rfl, hb3, HB⟩ := Both.put hp hq hne hw hsz
        have hpl := pieceB_le (kind % 6) num s
        have hrl := rawB_le B m f (pieceB (kind % 6) num s)
        have Hpl := Lib.hid hpl
        have Hrl := Lib.hid hrl
        clear hw hp hq hne hpl hrl
        obtain ⟨r1, r2, hp, hq, hne⟩ := HB
        replace e0 := (hb3.cell (p := ad.add (k * 3)) (by rw [block_of_add]; exact had)).trans e0
        replace e1 := (hb3.cell (p := ⟨(ad.add (k * 3)).block, (ad.add (k * 3)).off + 1, none⟩) (by show (ad.add (k * 3)).block < base; rw [block_of_add]; exact had)).trans e1
        replace e2 := (hb3.cell (p := ⟨(ad.add (k * 3)).block, (ad.add (k * 3)).off + 2, none⟩) (by show (ad.add (k * 3)).block < base; rw [block_of_add]; exact had)).trans e2
        have hsz3 := Nat.le_trans hsz hb3.size
        go_wp2_with fail
        with_reducible refine (prput_any base g2 r2 B m f kind num s _ hq Hm1.out Hm2.out o1 o2 o3 o4 (by omega)).mono ?_
        rintro e w4 hw
        obtain ⟨rfl, hb4, HB⟩ := Both.own hp hq hne hw hsz3
        clear hw hp hq hne e0 e1 e2 o1 o2 o3 o4
        have hrl := Hrl.out
        have hpl := Hpl.out
        generalize (rawB B m f (pieceB (kind % 6) num s)).1 = B2 at *
        generalize (rawB B m f (pieceB (kind % 6) num s)).2 = f2 at *
        have hB2 : B2.length ≤ 60 * k + 60 := by omega
        clear Hrl Hpl hrl hpl hBl
        have hsz4 := Nat.le_trans hsz3 hb4.size
        replace hb := (hb.trans hb3).trans hb4
        clear hb3 hb4 hsz hsz3
        have HB4 := Lib.hid HB
        have Hb4 := Lib.hid hb
        obtain ⟨r1, r2, hp, hq, hne⟩ := HB
        go_wp2_with fail
        with_reducible refine (wdone_any base base r1 B2 m f2 _ hp (by omega)).mono ?_
        rintro e w5 hd
        obtain ⟨ya, ea, Aa, ca, rfl, oa, hb5, hya, hea⟩ := hd.uni
        replace hp := hp.on hb5
        replace hq := hq.on hb5
        have Hya := Lib.hid hya
        have Hea := Lib.hid hea
        clear hd hya hea
        go_wp2_with fail
        with_reducible refine (rdone_any base g2 r2 B2 m f2 _ hq (by omega)).mono ?_
        rintro e w6 hd
        obtain ⟨yb, eb, Ab, cb, rfl, ob, hb6, hyb, heb⟩ := hd.uni
        rw [← Hya.out] at hyb
        rw [← Hea.out] at heb
        subst hyb heb
        replace hp := hp.on hb6
        replace hq := hq.on hb6
        replace oa := own_below oa hb6
        clear hd
        have ra := own_reads oa
        have rb := own_reads ob
        obtain ⟨hbg, A9, c9, hblk, hown9, hrr9⟩ := hq
        have HL := Lib.hid (show ∀ w', w' = w6.drew → w'.cell? ⟨g2, 0, none⟩ = some (.slice A9 B2.length c9) from fun w' h => by rw [h]; exact hblk.cell 0)
        have Hlen := Lib.hid (wlen_any base base r1 B2 m f2 _ (hp.on (Below.refl _ _).drew))
        have Hoa := Lib.hid oa
        have Hb46 := Lib.hid (hb5.trans (hb6.mono hb5.size))
        clear hp hbg hblk hown9 hrr9 oa ob hb hb5 hb6 hne
        go_wp2
        have hS : w6.drew = w6.drew := rfl
        refine wp_region_keep (fun w' => w' = w6.drew) [(0, false), (2, false), (3, false), (4, false), (5, false), (6, false), (1, true), (7, false), (8, false), (9, false), (10, false), (11, false), (12, false), (13, false), (14, false), (15, false), (16, true), (17, false), (18, false)] (by kernel_rfl) (by kernel_rfl) (by kernel_rfl) (fun d _ _ _ _ h => by cases d <;> exact h) ?_
        refine held_pure (v := ?_) rfl rfl (by simp [Region.wanted, yielded]) hS ?_ ?_
        rotate_left
        · intro w hw; go_simp; try with_reducible rfl
        try simp only [Act.put, List.setIfInBounds_toArray, List.set_cons_succ, List.set_cons_zero]
        refine held_pure (v := ?_) rfl rfl (by simp [Region.wanted, yielded]) hS ?_ ?_
        rotate_left
        · intro w hw; go_simp; try with_reducible rfl
        try simp only [Act.put, List.setIfInBounds_toArray, List.set_cons_succ, List.set_cons_zero]
        refine held_pure (v := ?_) rfl rfl (by simp [Region.wanted, yielded]) hS ?_ ?_
        rotate_left
        · intro w hw; go_simp; try with_reducible rfl
        try simp only [Act.put, List.setIfInBounds_toArray, List.set_cons_succ, List.set_cons_zero]
        refine held_pure (v := ?_) rfl rfl (by simp [Region.wanted, yielded]) hS ?_ ?_
        rotate_left
        · intro w hw; go_simp; try with_reducible rfl
        try simp only [Act.put, List.setIfInBounds_toArray, List.set_cons_succ, List.set_cons_zero]
        refine held_pure (v := ?_) rfl rfl (by simp [Region.wanted, yielded]) hS ?_ ?_
        rotate_left
        · intro w hw; have c0 := HL.out w hw; clear hw; go_simp; try with_reducible rfl
        try simp only [Act.put, List.setIfInBounds_toArray, List.set_cons_succ, List.set_cons_zero]
        refine held_pure (v := ?_) rfl rfl (by simp [Region.wanted, yielded]) hS ?_ ?_
        rotate_left
        · intro w hw; go_simp; try with_reducible rfl
        try simp only [Act.put, List.setIfInBounds_toArray, List.set_cons_succ, List.set_cons_zero]
        refine held_eff1 rfl (by simp [Region.wanted, yielded]) fun K hK => ?_
        go_simp
        with_reducible refine Hlen.out.mono ?_
        rintro e w' ⟨rfl, rfl⟩
        refine held_go hK (by exact hS) fun hS => ?_
        clear hK K
        try simp only [Act.put, List.setIfInBounds_toArray, List.set_cons_succ, List.set_cons_zero]
        refine held_pure (v := ?_) rfl rfl (by simp [Region.wanted, yielded]) hS ?_ ?_
        rotate_left
        · intro w hw; go_simp; try with_reducible rfl
        try simp only [Act.put, List.setIfInBounds_toArray, List.set_cons_succ, List.set_cons_zero]
        refine held_pure (v := ?_) rfl rfl (by simp [Region.wanted, yielded]) hS ?_ ?_
        rotate_left
        · intro w hw; go_simp; try with_reducible rfl
        try simp only [Act.put, List.setIfInBounds_toArray, List.set_cons_succ, List.set_cons_zero]
        refine held_pure (v := ?_) rfl rfl (by simp [Region.wanted, yielded]) hS ?_ ?_
        rotate_left
        · intro w hw; go_simp; try with_reducible rfl
        try simp only [Act.put, List.setIfInBounds_toArray, List.set_cons_succ, List.set_cons_zero]
        refine held_pure (v := ?_) rfl rfl (by simp [Region.wanted, yielded]) hS ?_ ?_
        rotate_left
        · intro w hw; go_simp; try with_reducible rfl
        try simp only [Act.put, List.setIfInBounds_toArray, List.set_cons_succ, List.set_cons_zero]
        refine held_pure (v := ?_) rfl rfl (by simp [Region.wanted, yielded]) hS ?_ ?_
        rotate_left
        · intro w hw; go_simp; try with_reducible rfl
        try simp only [Act.put, List.setIfInBounds_toArray, List.set_cons_succ, List.set_cons_zero]
        refine held_pure (v := ?_) rfl rfl (by simp [Region.wanted, yielded]) hS ?_ ?_
        rotate_left
        · intro w hw; go_simp; try with_reducible rfl
        try simp only [Act.put, List.setIfInBounds_toArray, List.set_cons_succ, List.set_cons_zero]
        refine held_pure (v := ?_) rfl rfl (by simp [Region.wanted, yielded]) hS ?_ ?_
        rotate_left
        · intro w hw; go_simp; try with_reducible rfl
        try simp only [Act.put, List.setIfInBounds_toArray, List.set_cons_succ, List.set_cons_zero]
        refine held_pure (v := ?_) rfl rfl (by simp [Region.wanted, yielded]) hS ?_ ?_
        rotate_left
        · intro w hw; go_simp; try with_reducible rfl
        try simp only [Act.put, List.setIfInBounds_toArray, List.set_cons_succ, List.set_cons_zero]
        refine held_pure (v := ?_) rfl rfl (by simp [Region.wanted, yielded]) hS ?_ ?_
        rotate_left
        · intro w hw; go_simp; try with_reducible rfl
        try simp only [Act.put, List.setIfInBounds_toArray, List.set_cons_succ, List.set_cons_zero]
        refine held_eff1 rfl (by simp [Region.wanted, yielded]) fun K hK => ?_
        go_simp
        with_reducible refine (eq_yes _ _ _ _ _ _ yb yb _ (ra.drew) (rb.drew) rfl).mono ?_
        rintro e w' ⟨rfl, rfl⟩
        refine held_go hK (by exact hS) fun hS => ?_
        clear hK K
        try simp only [Act.put, List.setIfInBounds_toArray, List.set_cons_succ, List.set_cons_zero]
        refine held_pure (v := ?_) rfl rfl (by simp [Region.wanted, yielded]) hS ?_ ?_
        rotate_left
        · intro w hw; go_simp; try with_reducible rfl
        try simp only [Act.put, List.setIfInBounds_toArray, List.set_cons_succ, List.set_cons_zero]
        refine held_pure (v := ?_) rfl rfl (by simp [Region.wanted, yielded]) hS ?_ ?_
        rotate_left
        · intro w hw; go_simp; try with_reducible rfl
        try simp only [Act.put, List.setIfInBounds_toArray, List.set_cons_succ, List.set_cons_zero]
        refine held_end ?_
        clear hS ra rb HL Hlen
        have hyl : yb.length ≤ 1099511627776 := by
          rw [Hya.out]
          split
          · exact Nat.zero_le _
          · omega
        have Hyl := Lib.hid hyl
        clear hyl
        go_wp2_with fail
        with_reducible refine (spoil_any Aa yb.length ca w4.heap.size yb _ (ownsRow_drew Hoa.out) Hyl.out Hb46.out.drew.size).mono ?_
        rintro e w7 ⟨rfl, hb7⟩
        have hb47 := Hb46.out.drew.trans hb7
        have HB7 := HB4.out.on hb47
        have hb := Hb4.out.trans (hb47.mono hsz4)
        clear hb47 hb7
        go_wp2
        go_roundw
        case rel => exact ⟨k + 1, B2, f2, by omega, by omega, by go_num, HB7, hb, by omega⟩
        case measure => simp [intOf]; omega
      · have d2 : decide ((k : Int) < 40) = false := by simp; omega
        clear HB hBl
        have Hb := Lib.hid hb
        have hsz := Nat.le_trans Hz.out hb.size
        clear hb
        go_wp2_with fail
        with_reducible refine (works_any _).mono ?_
        rintro e w7 ⟨rfl, hb7⟩
        go_wp2
        go_ret
        exact ⟨rfl, Hb.out.trans (hb7.mono hsz)⟩
    · have d1 : decide ((k : Int) < (n : Int)) = false := by simp; omega
      clear HB hBl
      have Hb := Lib.hid hb
      have hsz := Nat.le_trans Hz.out hb.size
      clear hb
      go_wp2_with fail
      with_reducible refine (works_any _).mono ?_
      rintro e w7 ⟨rfl, hb7⟩
      go_wp2
      go_ret
      exact ⟨rfl, Hb.out.trans (hb7.mono hsz)⟩
end Go.Proofs.Ytnkkhplddjopnaa
