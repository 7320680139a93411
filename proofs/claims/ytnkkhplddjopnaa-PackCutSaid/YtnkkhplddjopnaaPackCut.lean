/- The law PackCut, walked. -/
import Derived.Test.YtnkkhplddjopnaaPackBack
set_option linter.unusedVariables false
set_option linter.unusedSimpArgs false
namespace Go.Proofs.Ytnkkhplddjopnaa
open Go.RowKit
theorem Reads.head1 {w : World} {B n k : Nat} {A : Option Addr} {l : List UInt8} (h : Reads w B 1 A n (u8s l)) (hk : k ≤ n) : Reads w B 1 A k (u8s (l.take k)) := by
  have := h.head hk
  rwa [Nat.mul_one, u8s_take] at this
set_option maxRecDepth 100000 in
set_option maxHeartbeats 8000000 in
theorem packCut_walk (A : Option Addr) (n c : Nat) (l : List Pc) (cut : Int) (w : World)
    (hr : Reads w w.heap.size 3 A n (pcs l)) (hl : n ≤ c) (hc : c ≤ maxLen) (hok : PcOk l) (hcut1 : -9223372036854775808 ≤ cut) (hcut2 : cut ≤ 9223372036854775807) :
    Calls Try.prog 9 #[.slice A n c, .int .i64 cut] w fun e w' => e = .returned (.bool true) ∧ Below w.heap.size w w' := by
  obtain ⟨base, hbase⟩ : ∃ g, g = w.heap.size := ⟨_, rfl⟩
  have Hz := Lib.hid (Nat.le_of_eq hbase)
  obtain ⟨N, hN⟩ : ∃ N, min n 40 = N := ⟨_, rfl⟩
  have HN := Lib.hid hN
  have Hln := Lib.hid (pcs_len hr)
  rw [← hbase] at hr ⊢
  have Hr := Lib.hid hr
  have Hok := Lib.hid hok
  have hs0 := Hz.out
  clear hr hok hN
  go_enter Try.func9, Try.ntmps9
  go_wp2_with fail
  with_reducible refine (newW_any 1048576 _ (by decide) (by decide)).mono ?_
  rintro e w1 ⟨rfl, ⟨q1, A9, c9, q2, q3, q4⟩, hb1, hs1⟩
  have HP : PW1 w1 base w.heap.size [] 1048576 false := ⟨none, Nat.le_trans hs0 q1, A9, c9, q2, own_mono q3 hs0, q4⟩
  have hb := hb1.mono hs0
  rw [← hbase] at HP ⊢
  obtain ⟨g, hg⟩ : ∃ g, base = g := ⟨_, rfl⟩
  have HP : PW1 w1 base g (pcB (l.take 0)) 1048576 false := by rw [← hg]; exact HP
  rw [show (some (⟨base, 0, none⟩ : Addr)) = some ⟨g, 0, none⟩ from by rw [hg]]
  clear hs0 q1 q2 q3 q4 hb1 hs1 hg hbase
  go_wp2
  go_loopw [6] (fun i wr => ∃ (k : Nat), k ≤ N ∧ i = .int .i64 (k : Int) ∧ PW1 wr base g (pcB (l.take k)) 1048576 false ∧ Below base w wr) (fun i _ => n - (intOf i).toNat)
  case atStart => exact ⟨0, Nat.zero_le _, rfl, HP, hb⟩
  case round =>
    clear HP hb
    obtain ⟨k, hk, rfl, HP, hb⟩ := hrel
    by_cases hkN : k < N
    · have hlt : k < n := by have := HN.out; omega
      have hlt4 : k < 40 := by have := HN.out; omega
      have d1 : decide ((k : Int) < (n : Int)) = true := by simp; omega
      have d2 : decide ((k : Int) < 40) = true := by simp; omega
      have hsz := Nat.le_trans Hz.out hb.size
      obtain ⟨ad, ⟨kind, num, s⟩, rfl, had, hlk, hcell⟩ := pcs_at (Hr.out.below hb) hlt
      obtain ⟨o1, o2, o3, o4⟩ := Hok.out _ (List.mem_of_getElem? hlk)
      simp only [] at o1 o2 o3 o4 hcell
      have e0 := hcell 0 _ rfl
      have e1 := hcell 1 _ rfl
      have e2 := hcell 2 _ rfl
      rw [add_zero3] at e0
      rw [add_pos3 _ _ (by decide)] at e1 e2
      have Hb := Lib.hid hb
      obtain ⟨r, hp⟩ := HP
      have hBl := pcB_le (l.take k)
      have hBk : (l.take k).length ≤ 40 := by rw [List.length_take]; omega
      have hpl := pieceB_le (kind % 6) num s
      have Hfit := Lib.hid (show ((pcB (l.take k)).length : Int) + ((pieceB (kind % 6) num s).length : Int) ≤ 1048576 by omega)
      have Hblen := Lib.hid (show (pcB (l.take k)).length ≤ 1000000000 by omega)
      have Hsucc := Lib.hid (pcB_succ hlk)
      simp only [] at Hsucc
      clear hlk hcell hb hpl hBl hBk
      go_wp2_with fail
      with_reducible refine (pwput_any base g r (pcB (l.take k)) 1048576 false kind num s _ hp (by decide) (by decide) o1 o2 o3 o4 Hblen.out).mono ?_
      rintro e w3 hw
      obtain ⟨rfl, hb3, HP⟩ := PW1.put hp hw hsz
      rw [rawB_fit Hfit.out] at HP
      simp only [] at HP
      rw [← Hsucc.out] at HP
      have HP2 := Lib.hid HP
      have hb4 := Lib.hid (Hb.out.trans hb3)
      clear hw hp HP hb3 e0 e1 e2
      go_wp2
      go_roundw
      case rel => exact ⟨k + 1, by omega, by go_num, HP2.out, hb4.out⟩
      case measure => simp [intOf]; omega
    · obtain rfl : k = N := by omega
      by_cases hlt : k < n
      · have d1 : decide ((k : Int) < (n : Int)) = true := by simp; omega
        have d2 : decide ((k : Int) < 40) = false := by simp; have := HN.out; omega
        have Hb := Lib.hid hb
        have hsz := Nat.le_trans Hz.out hb.size
        have Hxl := Lib.hid (show (pcB (l.take k)).length ≤ 2400 by have := pcB_le (l.take k); have : (l.take k).length ≤ 40 := by { rw [List.length_take]; have := HN.out; omega }; omega)
        clear hb
        obtain ⟨r, hp⟩ := HP
        go_wp2_with fail
        with_reducible refine (wdone_any base g r (pcB (l.take k)) 1048576 false _ hp (by have := Hxl.out; omega)).mono ?_
        rintro e w5 ⟨hb5, A5, c5, rfl, j1, j2, o5⟩
        have r5 := own_reads o5
        have hb6 := Lib.hid (Hb.out.trans (hb5.mono hsz))
        have hs5 := Nat.le_trans Hz.out hb6.out.size
        clear hp Hb hb5 o5
        obtain ⟨xs, hxs⟩ : ∃ xs, pcB (l.take k) = xs := ⟨_, rfl⟩
        rw [hxs] at r5 j1 Hxl ⊢
        have Hxs := Lib.hid hxs
        clear hxs
        obtain ⟨L, hL⟩ : ∃ L, xs.length = L := ⟨_, rfl⟩
        rw [hL] at r5 j1 Hxl ⊢
        have HL := Lib.hid hL
        clear hL
        have hLs : (L : Int) + 1 = ((L + 1 : Nat) : Int) := by omega
        obtain ⟨ct, hct⟩ : ∃ ct : Nat, cut % ((L + 1 : Nat) : Int) = (ct : Int) := ⟨(cut % ((L + 1 : Nat) : Int)).toNat, by have := Int.emod_nonneg cut (by omega : ((L + 1 : Nat) : Int) ≠ 0); omega⟩
        have hctl : ct ≤ L := by have := Int.emod_lt_of_pos cut (by omega : 0 < ((L + 1 : Nat) : Int)); omega
        have Hct := Lib.hid hct
        have Hbring := Lib.hid (fun w1 => bring_any cut ((L + 1 : Nat) : Int) w1 hcut1 hcut2 (by omega) (by have := Hxl.out; omega))
        have Hls := Lib.hid hLs
        have hL63 : L + 1 ≤ 9223372036854775807 := by have := Hxl.out; omega
        clear hct hLs
        go_wp2_with fail
        rw [Hls.out]
        with_reducible refine (Hbring.out _).mono ?_
        rintro e w' ⟨rfl, rfl⟩
        rw [Hct.out]
        have hctc : ct ≤ c5 := by omega
        have r6 := r5.head1 hctl
        have Hct3 := Lib.hid (show ct ≤ 35184372088832 by have := Hxl.out; omega)
        clear r5 Hbring
        go_wp2_with fail
        with_reducible refine (pnew_any A5 ct c5 (xs.take ct) _ r6 Hct3.out).mono ?_
        rintro e w6 ⟨q, rfl, hq, hp, hb7⟩
        have hqb : base ≤ q := Nat.le_trans hs5 hq
        have hb := hb6.out.trans (hb7.mono hs5)
        have Hys := Lib.hid (show (xs.take ct).length = ct from by rw [List.length_take]; have := HL.out; omega)
        clear hb7 hb6 hq r6 hs5 hsz hL63
        have Hx1 := Lib.hid (show (xs.take ct).length ≤ 1099511627776 by have := Hys.out; have := Hxl.out; omega)
        have Hctl := Lib.hid hctl
        clear hctl
        go_wp2
        go_loopw [10, 11] (fun a i wr => ∃ (t p : Nat), t ≤ k ∧ i = .int .i64 (t : Int) ∧ a = .int .i64 (p : Int) ∧ p = (pcB (l.take t)).length ∧ p ≤ ct ∧ PRd wr q (xs.take ct) p 0 ∧ Below base w wr) (fun a i _ => n - (intOf i).toNat)
        case atStart => exact ⟨0, 0, Nat.zero_le _, rfl, rfl, rfl, Nat.zero_le _, hp, hb⟩
        case round =>
          clear hp hb
          obtain ⟨t, p, hk, rfl, rfl, hpt, hpc, hp, hb⟩ := hrel
          have Hpt := Lib.hid hpt
          clear hpt
          by_cases hkN : t < k
          · have hlt : t < n := by have := HN.out; omega
            have hlt4 : t < 40 := by have := HN.out; omega
            have d1 : decide ((t : Int) < (n : Int)) = true := by simp; omega
            have d2 : decide ((t : Int) < 40) = true := by simp; omega
            have hsz := Nat.le_trans Hz.out hb.size
            obtain ⟨ad, ⟨kind, num, s⟩, rfl, had, hlk, hcell⟩ := pcs_at (Hr.out.below hb) hlt
            obtain ⟨o1, o2, o3, o4⟩ := Hok.out _ (List.mem_of_getElem? hlk)
            simp only [] at o1 o2 o3 o4 hcell
            have e0 := hcell 0 _ rfl
            have e1 := hcell 1 _ rfl
            have e2 := hcell 2 _ rfl
            rw [add_zero3] at e0
            rw [add_pos3 _ _ (by decide)] at e1 e2
            have hdrop := pcB_drop hlk hkN
            rw [Hxs.out, ← Hpt.out] at hdrop
            simp only [] at hdrop
            have hsucc := pcB_succ hlk
            simp only [] at hsucc
            have Hp2 := Lib.hid (show p + (pieceB (kind % 6) num s).length = (pcB (l.take (t + 1))).length by rw [hsucc, List.length_append, Hpt.out])
            have Htake := Lib.hid (fun w1 (hw : PRd w1 q (xs.take ct) p 0) => ptakes_any q (xs.take ct) p 0 kind num s w1 hw Hx1.out o1 o2 o3 o4)
            have Hsize := Lib.hid (fun w1 => psize_any kind num s w1 o1 o2 o3 o4)
            have hpl := pieceB_le (kind % 6) num s
            have hdt : (xs.take ct).drop p = (xs.drop p).take (ct - p) := List.drop_take
            rw [hdrop] at hdt
            obtain ⟨z, hz⟩ : ∃ z, (pieceB (kind % 6) num s).length = z := ⟨_, rfl⟩
            have Hpc := Lib.hid hpc
            have hsum : (p : Int) + (z : Int) = ((p + z : Nat) : Int) := by omega
            have hpz : p + z ≤ 9223372036854775807 := by have := Hx1.out; have := Hys.out; omega
            have Hb := Lib.hid hb
            have Hp := Lib.hid hp
            clear hlk hcell hb hdrop hsucc hp hpl hpc
            by_cases hfit : p + z ≤ ct
            · have hdt2 : (xs.take ct).drop p = pieceB (kind % 6) num s ++ (pcB ((l.take k).drop (t + 1))).take (ct - p - z) := by
                rw [hdt, List.take_append, List.take_of_length_le (by omega), hz]
              have htk := takeA_ok (xs.take ct) p (kind % 6) num s _ (kind6 kind) o3 hdt2
              rw [htk] at Htake
              rw [hz] at Hp2 Hsize Htake
              have db : decide (((p + z : Nat) : Int) ≤ (ct : Int)) = true := by simp; omega
              have db2 : decide ((ct : Int) < ((p + z : Nat) : Int)) = false := by simp; omega
              have Hfit := Lib.hid hfit
              obtain ⟨pz, hpzz⟩ : ∃ pz, p + z = pz := ⟨_, rfl⟩
              rw [hpzz] at hsum hpz Hp2 Htake db db2 Hfit
              clear hdt hdt2 htk hz hfit hpzz
              simp only [] at Htake
              go_wp2_with fail
              with_reducible refine (Hsize.out _).mono ?_
              rintro e w7 ⟨rfl, hb7⟩
              have hsz7 := Nat.le_trans hsz hb7.size
              have Hb7 := Lib.hid (Hb.out.trans (hb7.mono hsz))
              have Hp7 := Lib.hid (Hp.out.on hb7)
              have hbb := hb7.mono hsz
              clear hb7
              replace e0 := (hbb.cell (p := ad.add (t * 3)) (by rw [block_of_add]; exact had)).trans e0
              replace e1 := (hbb.cell (p := ⟨(ad.add (t * 3)).block, (ad.add (t * 3)).off + 1, none⟩) (by show (ad.add (t * 3)).block < base; rw [block_of_add]; exact had)).trans e1
              replace e2 := (hbb.cell (p := ⟨(ad.add (t * 3)).block, (ad.add (t * 3)).off + 2, none⟩) (by show (ad.add (t * 3)).block < base; rw [block_of_add]; exact had)).trans e2
              clear hbb
              go_wp2_with fail
              with_reducible refine (Htake.out _ Hp7.out).mono ?_
              rintro e w8 ⟨rfl, hg8, hp8⟩
              have Hb8 := Lib.hid (Hb7.out.trans (grown_under hg8 hsz7 hqb))
              have Hp8 := Lib.hid hp8
              clear hg8 hp8 e0 e1 e2
              go_wp2_with fail
              with_reducible refine (perr_any q _ _ 0 _ Hp8.out).mono ?_
              rintro e w' ⟨rfl, rfl⟩
              go_wp2_with fail
              with_reducible refine (pat_any q _ _ 0 _ Hp8.out).mono ?_
              rintro e w' ⟨rfl, rfl⟩
              go_wp2
              go_roundw
              case rel => exact ⟨t + 1, _, by omega, by go_num, rfl, Hp2.out, Hfit.out, Hp8.out, Hb8.out⟩
              case measure => simp [intOf]; omega
            · have hdt2 : (xs.take ct).drop p = (pieceB (kind % 6) num s).take (ct - p) := by
                rw [hdt, List.take_append_of_le_length (by omega)]
              have htk := takeA_cut (xs.take ct) p (kind % 6) num s (ct - p) (kind6 kind) o3 hdt2 (by have := Hpc.out; omega)
              generalize takeA (xs.take ct) p 0 (kind % 6) num s = tk at htk Htake
              obtain ⟨isb, p9, e9⟩ := tk
              cases htk
              rw [hz] at Hp2 Hsize
              have db : decide (((p + z : Nat) : Int) ≤ (ct : Int)) = false := by simp; omega
              have db2 : decide ((ct : Int) < ((p + z : Nat) : Int)) = true := by simp; omega
              have hsub : ((p + z : Nat) : Int) - (z : Int) = (p : Int) := by omega
              obtain ⟨pz, hpzz⟩ : ∃ pz, p + z = pz := ⟨_, rfl⟩
              rw [hpzz] at hsum hpz Hp2 db db2 hsub hfit
              have hlt9 : ct < pz := by omega
              have Hw2 := Lib.hid (show IntKind.i64.wrap (p : Int) = (p : Int) from i64_wrap_in _ (by omega) (by omega))
              have Hw := Lib.hid (show IntKind.i64.wrap ((pz : Int) - (z : Int)) = (p : Int) from by rw [hsub]; exact i64_wrap_in _ (by omega) (by omega))
              clear hdt hdt2 hz hpzz
              simp only [] at Htake
              go_wp2_with fail
              with_reducible refine (Hsize.out _).mono ?_
              rintro e w7 ⟨rfl, hb7⟩
              have hsz7 := Nat.le_trans hsz hb7.size
              have Hb7 := Lib.hid (Hb.out.trans (hb7.mono hsz))
              have Hp7 := Lib.hid (Hp.out.on hb7)
              have hbb := hb7.mono hsz
              clear hb7
              replace e0 := (hbb.cell (p := ad.add (t * 3)) (by rw [block_of_add]; exact had)).trans e0
              replace e1 := (hbb.cell (p := ⟨(ad.add (t * 3)).block, (ad.add (t * 3)).off + 1, none⟩) (by show (ad.add (t * 3)).block < base; rw [block_of_add]; exact had)).trans e1
              replace e2 := (hbb.cell (p := ⟨(ad.add (t * 3)).block, (ad.add (t * 3)).off + 2, none⟩) (by show (ad.add (t * 3)).block < base; rw [block_of_add]; exact had)).trans e2
              clear hbb
              go_wp2_with fail
              with_reducible refine (Htake.out _ Hp7.out).mono ?_
              rintro e w8 ⟨rfl, hg8, hp8⟩
              have hgu := grown_under hg8 hsz7 hqb
              have hsz8 := Nat.le_trans hsz7 hgu.size
              have Hb8 := Lib.hid (Hb7.out.trans hgu)
              have Hp8 := Lib.hid hp8
              replace e0 := (hgu.cell (p := ad.add (t * 3)) (by rw [block_of_add]; exact had)).trans e0
              replace e1 := (hgu.cell (p := ⟨(ad.add (t * 3)).block, (ad.add (t * 3)).off + 1, none⟩) (by show (ad.add (t * 3)).block < base; rw [block_of_add]; exact had)).trans e1
              replace e2 := (hgu.cell (p := ⟨(ad.add (t * 3)).block, (ad.add (t * 3)).off + 2, none⟩) (by show (ad.add (t * 3)).block < base; rw [block_of_add]; exact had)).trans e2
              clear hg8 hp8 hgu
              have HL0 := Lib.hid (show ∀ w', Below w8.heap.size w8 w' → w'.cell? (ad.add (t * 3)) = some (.int .i64 kind) from fun w' h => (h.cell (p := ad.add (t * 3)) (by rw [block_of_add]; omega)).trans e0)
              have HL1 := Lib.hid (show ∀ w', Below w8.heap.size w8 w' → w'.cell? ⟨(ad.add (t * 3)).block, (ad.add (t * 3)).off + 1, none⟩ = some (.int .u64 (num : Int)) from fun w' h => (h.cell (p := ⟨(ad.add (t * 3)).block, (ad.add (t * 3)).off + 1, none⟩) (by show (ad.add (t * 3)).block < _; rw [block_of_add]; omega)).trans e1)
              have HL2 := Lib.hid (show ∀ w', Below w8.heap.size w8 w' → w'.cell? ⟨(ad.add (t * 3)).block, (ad.add (t * 3)).off + 2, none⟩ = some (.string s) from fun w' h => (h.cell (p := ⟨(ad.add (t * 3)).block, (ad.add (t * 3)).off + 2, none⟩) (by show (ad.add (t * 3)).block < _; rw [block_of_add]; omega)).trans e2)
              clear e0 e1 e2
              go_wp2
              have hS : Below w8.heap.size w8 w8.drew := (Below.refl _ _).drew
              have Hp9 := Lib.hid (Hp8.out.on hS)
              refine wp_region_keep (fun w' => Below w8.heap.size w8 w') [(0, false), (1, false), (2, false), (3, false), (4, true), (5, false), (6, false), (7, false), (8, false), (10, false), (11, false), (12, false), (13, false), (14, false), (9, true), (15, true), (16, false), (17, false), (18, false), (19, false), (20, true), (21, false), (22, false)] (by kernel_rfl) (by kernel_rfl) (by kernel_rfl) (fun d _ _ _ _ h => by cases d <;> exact h) ?_
              refine held_pure (v := ?_) rfl rfl (by simp [Region.wanted, yielded]) hS ?_ ?_
              rotate_left
              · intro w hw; go_simp; try with_reducible rfl
              try simp only [Act.put, List.setIfInBounds_toArray, List.set_cons_succ, List.set_cons_zero]
              refine held_pure (v := ?_) rfl rfl (by simp [Region.wanted, yielded]) hS ?_ ?_
              rotate_left
              · intro w hw; go_simp; try with_reducible rfl
              try simp only [Act.put, List.setIfInBounds_toArray, List.set_cons_succ, List.set_cons_zero]
              refine held_pure (v := ?_) rfl rfl (by simp [Region.wanted, yielded]) hS ?_ ?_
              rotate_left
              · intro w hw; go_simp; try with_reducible rfl
              try simp only [Act.put, List.setIfInBounds_toArray, List.set_cons_succ, List.set_cons_zero]
              refine held_pure (v := ?_) rfl rfl (by simp [Region.wanted, yielded]) hS ?_ ?_
              rotate_left
              · intro w hw; go_simp; try with_reducible rfl
              try simp only [Act.put, List.setIfInBounds_toArray, List.set_cons_succ, List.set_cons_zero]
              refine held_eff1 rfl (by simp [Region.wanted, yielded]) fun K hK => ?_
              go_simp
              with_reducible refine (perr_any q _ p 3 _ Hp9.out).mono ?_
              rintro e w' ⟨rfl, rfl⟩
              refine held_go hK (by exact hS) fun hS => ?_
              clear hK K
              try simp only [Act.put, List.setIfInBounds_toArray, List.set_cons_succ, List.set_cons_zero]
              refine held_pure (v := ?_) rfl rfl (by simp [Region.wanted, yielded]) hS ?_ ?_
              rotate_left
              · intro w hw; go_simp; try with_reducible rfl
              try simp only [Act.put, List.setIfInBounds_toArray, List.set_cons_succ, List.set_cons_zero]
              refine held_pure (v := ?_) rfl rfl (by simp [Region.wanted, yielded]) hS ?_ ?_
              rotate_left
              · intro w hw; go_simp; try with_reducible rfl
              try simp only [Act.put, List.setIfInBounds_toArray, List.set_cons_succ, List.set_cons_zero]
              refine held_pure (v := ?_) rfl rfl (by simp [Region.wanted, yielded]) hS ?_ ?_
              rotate_left
              · intro w hw; go_simp; try with_reducible rfl
              try simp only [Act.put, List.setIfInBounds_toArray, List.set_cons_succ, List.set_cons_zero]
              refine held_pure (v := ?_) rfl rfl (by simp [Region.wanted, yielded]) hS ?_ ?_
              rotate_left
              · intro w hw; go_simp; try with_reducible rfl
              try simp only [Act.put, List.setIfInBounds_toArray, List.set_cons_succ, List.set_cons_zero]
              refine held_pure (v := ?_) rfl rfl (by simp [Region.wanted, yielded]) hS ?_ ?_
              rotate_left
              · intro w hw; go_simp; try with_reducible rfl
              try simp only [Act.put, List.setIfInBounds_toArray, List.set_cons_succ, List.set_cons_zero]
              refine held_pure (v := ?_) rfl rfl (by simp [Region.wanted, yielded]) hS ?_ ?_
              rotate_left
              · intro w hw; go_simp; try with_reducible rfl
              try simp only [Act.put, List.setIfInBounds_toArray, List.set_cons_succ, List.set_cons_zero]
              refine held_pure (v := ?_) rfl rfl (by simp [Region.wanted, yielded]) hS ?_ ?_
              rotate_left
              · intro w hw; go_simp; try with_reducible rfl
              try simp only [Act.put, List.setIfInBounds_toArray, List.set_cons_succ, List.set_cons_zero]
              refine held_pure (v := ?_) rfl rfl (by simp [Region.wanted, yielded]) hS ?_ ?_
              rotate_left
              · intro w hw; go_simp; try with_reducible rfl
              try simp only [Act.put, List.setIfInBounds_toArray, List.set_cons_succ, List.set_cons_zero]
              refine held_pure (v := ?_) rfl rfl (by simp [Region.wanted, yielded]) hS ?_ ?_
              rotate_left
              · intro w hw; have c0 := HL0.out w hw; have c1 := HL1.out w hw; have c2 := HL2.out w hw; clear hw; go_simp; try with_reducible rfl
              try simp only [Act.put, List.setIfInBounds_toArray, List.set_cons_succ, List.set_cons_zero]
              refine held_eff1 rfl (by simp [Region.wanted, yielded]) fun K hK => ?_
              go_simp
              with_reducible refine (pat_any q _ p 3 _ Hp9.out).mono ?_
              rintro e w' ⟨rfl, rfl⟩
              refine held_go hK (by exact hS) fun hS => ?_
              clear hK K
              try simp only [Act.put, List.setIfInBounds_toArray, List.set_cons_succ, List.set_cons_zero]
              refine held_eff1 rfl (by simp [Region.wanted, yielded]) fun K hK => ?_
              go_simp
              with_reducible refine (Hsize.out _).mono ?_
              rintro e w9 ⟨rfl, hb9⟩
              refine held_go hK (by exact bon hS hb9) fun hS => ?_
              clear hK K
              try simp only [Act.put, List.setIfInBounds_toArray, List.set_cons_succ, List.set_cons_zero]
              refine held_pure (v := ?_) rfl rfl (by simp [Region.wanted, yielded]) hS ?_ ?_
              rotate_left
              · intro w hw; go_simp; try with_reducible rfl
              try simp only [Act.put, List.setIfInBounds_toArray, List.set_cons_succ, List.set_cons_zero]
              first | rw [Hw.out] | rw [Hw2.out] | skip
              refine held_pure (v := ?_) rfl rfl (by simp [Region.wanted, yielded]) hS ?_ ?_
              rotate_left
              · intro w hw; go_simp; try with_reducible rfl
              try simp only [Act.put, List.setIfInBounds_toArray, List.set_cons_succ, List.set_cons_zero]
              refine held_pure (v := ?_) rfl rfl (by simp [Region.wanted, yielded]) hS ?_ ?_
              rotate_left
              · intro w hw; go_simp; try with_reducible rfl
              try simp only [Act.put, List.setIfInBounds_toArray, List.set_cons_succ, List.set_cons_zero]
              refine held_pure (v := ?_) rfl rfl (by simp [Region.wanted, yielded]) hS ?_ ?_
              rotate_left
              · intro w hw; go_simp; try with_reducible rfl
              try simp only [Act.put, List.setIfInBounds_toArray, List.set_cons_succ, List.set_cons_zero]
              refine held_eff1 rfl (by simp [Region.wanted, yielded]) fun K hK => ?_
              go_simp
              with_reducible refine (works_any _).mono ?_
              rintro e w10 ⟨rfl, hb10⟩
              refine held_go hK (by exact bon hS hb10) fun hS => ?_
              clear hK K
              try simp only [Act.put, List.setIfInBounds_toArray, List.set_cons_succ, List.set_cons_zero]
              refine held_pure (v := ?_) rfl rfl (by simp [Region.wanted, yielded]) hS ?_ ?_
              rotate_left
              · intro w hw; go_simp; try with_reducible rfl
              try simp only [Act.put, List.setIfInBounds_toArray, List.set_cons_succ, List.set_cons_zero]
              refine held_pure (v := ?_) rfl rfl (by simp [Region.wanted, yielded]) hS ?_ ?_
              rotate_left
              · intro w hw; go_simp; try with_reducible rfl
              try simp only [Act.put, List.setIfInBounds_toArray, List.set_cons_succ, List.set_cons_zero]
              refine held_end ?_
              have hb11 := Hb8.out.trans (hS.mono hsz8)
              clear hS
              go_wp2
              go_ret
              exact ⟨rfl, hb11⟩
          · obtain rfl : t = k := by omega
            have hpx : p = ct := by
              have h1 := Hpt.out
              rw [Hxs.out, HL.out] at h1
              have := Hctl.out
              omega
            subst hpx
            by_cases hlt : t < n
            · have d1 : decide ((t : Int) < (n : Int)) = true := by simp; omega
              have d2 : decide ((t : Int) < 40) = false := by simp; have := HN.out; omega
              have Hb := Lib.hid hb
              clear hb
              go_wp2_with fail
              with_reducible refine (pend_any q (xs.take p) p 0 _ hp).mono ?_
              rintro e w' ⟨rfl, rfl⟩
              rw [show endE ((xs.take p).length - p) 0 = 0 from by rw [Hys.out, Nat.sub_self]; rfl]
              clear hp
              go_wp2_with fail
              with_reducible refine (works_any _).mono ?_
              rintro e w7 ⟨rfl, hb7⟩
              go_wp2
              go_ret
              exact ⟨rfl, Hb.out.trans (hb7.mono (Nat.le_trans Hz.out Hb.out.size))⟩
            · have d1 : decide ((t : Int) < (n : Int)) = false := by simp; omega
              have Hb := Lib.hid hb
              clear hb
              go_wp2_with fail
              with_reducible refine (pend_any q (xs.take p) p 0 _ hp).mono ?_
              rintro e w' ⟨rfl, rfl⟩
              rw [show endE ((xs.take p).length - p) 0 = 0 from by rw [Hys.out, Nat.sub_self]; rfl]
              clear hp
              go_wp2_with fail
              with_reducible refine (works_any _).mono ?_
              rintro e w7 ⟨rfl, hb7⟩
              go_wp2
              go_ret
              exact ⟨rfl, Hb.out.trans (hb7.mono (Nat.le_trans Hz.out Hb.out.size))⟩
      · have d1 : decide ((k : Int) < (n : Int)) = false := by simp; omega
        have Hb := Lib.hid hb
        have hsz := Nat.le_trans Hz.out hb.size
        have Hxl := Lib.hid (show (pcB (l.take k)).length ≤ 2400 by have := pcB_le (l.take k); have : (l.take k).length ≤ 40 := by { rw [List.length_take]; have := HN.out; omega }; omega)
        clear hb
        obtain ⟨r, hp⟩ := HP
        go_wp2_with fail
        with_reducible refine (wdone_any base g r (pcB (l.take k)) 1048576 false _ hp (by have := Hxl.out; omega)).mono ?_
        rintro e w5 ⟨hb5, A5, c5, rfl, j1, j2, o5⟩
        have r5 := own_reads o5
        have hb6 := Lib.hid (Hb.out.trans (hb5.mono hsz))
        have hs5 := Nat.le_trans Hz.out hb6.out.size
        clear hp Hb hb5 o5
        obtain ⟨xs, hxs⟩ : ∃ xs, pcB (l.take k) = xs := ⟨_, rfl⟩
        rw [hxs] at r5 j1 Hxl ⊢
        have Hxs := Lib.hid hxs
        clear hxs
        obtain ⟨L, hL⟩ : ∃ L, xs.length = L := ⟨_, rfl⟩
        rw [hL] at r5 j1 Hxl ⊢
        have HL := Lib.hid hL
        clear hL
        have hLs : (L : Int) + 1 = ((L + 1 : Nat) : Int) := by omega
        obtain ⟨ct, hct⟩ : ∃ ct : Nat, cut % ((L + 1 : Nat) : Int) = (ct : Int) := ⟨(cut % ((L + 1 : Nat) : Int)).toNat, by have := Int.emod_nonneg cut (by omega : ((L + 1 : Nat) : Int) ≠ 0); omega⟩
        have hctl : ct ≤ L := by have := Int.emod_lt_of_pos cut (by omega : 0 < ((L + 1 : Nat) : Int)); omega
        have Hct := Lib.hid hct
        have Hbring := Lib.hid (fun w1 => bring_any cut ((L + 1 : Nat) : Int) w1 hcut1 hcut2 (by omega) (by have := Hxl.out; omega))
        have Hls := Lib.hid hLs
        have hL63 : L + 1 ≤ 9223372036854775807 := by have := Hxl.out; omega
        clear hct hLs
        go_wp2_with fail
        rw [Hls.out]
        with_reducible refine (Hbring.out _).mono ?_
        rintro e w' ⟨rfl, rfl⟩
        rw [Hct.out]
        have hctc : ct ≤ c5 := by omega
        have r6 := r5.head1 hctl
        have Hct3 := Lib.hid (show ct ≤ 35184372088832 by have := Hxl.out; omega)
        clear r5 Hbring
        go_wp2_with fail
        with_reducible refine (pnew_any A5 ct c5 (xs.take ct) _ r6 Hct3.out).mono ?_
        rintro e w6 ⟨q, rfl, hq, hp, hb7⟩
        have hqb : base ≤ q := Nat.le_trans hs5 hq
        have hb := hb6.out.trans (hb7.mono hs5)
        have Hys := Lib.hid (show (xs.take ct).length = ct from by rw [List.length_take]; have := HL.out; omega)
        clear hb7 hb6 hq r6 hs5 hsz hL63
        have Hx1 := Lib.hid (show (xs.take ct).length ≤ 1099511627776 by have := Hys.out; have := Hxl.out; omega)
        have Hctl := Lib.hid hctl
        clear hctl
        go_wp2
        go_loopw [10, 11] (fun a i wr => ∃ (t p : Nat), t ≤ k ∧ i = .int .i64 (t : Int) ∧ a = .int .i64 (p : Int) ∧ p = (pcB (l.take t)).length ∧ p ≤ ct ∧ PRd wr q (xs.take ct) p 0 ∧ Below base w wr) (fun a i _ => n - (intOf i).toNat)
        case atStart => exact ⟨0, 0, Nat.zero_le _, rfl, rfl, rfl, Nat.zero_le _, hp, hb⟩
        case round =>
          clear hp hb
          obtain ⟨t, p, hk, rfl, rfl, hpt, hpc, hp, hb⟩ := hrel
          have Hpt := Lib.hid hpt
          clear hpt
          by_cases hkN : t < k
          · have hlt : t < n := by have := HN.out; omega
            have hlt4 : t < 40 := by have := HN.out; omega
            have d1 : decide ((t : Int) < (n : Int)) = true := by simp; omega
            have d2 : decide ((t : Int) < 40) = true := by simp; omega
            have hsz := Nat.le_trans Hz.out hb.size
            obtain ⟨ad, ⟨kind, num, s⟩, rfl, had, hlk, hcell⟩ := pcs_at (Hr.out.below hb) hlt
            obtain ⟨o1, o2, o3, o4⟩ := Hok.out _ (List.mem_of_getElem? hlk)
            simp only [] at o1 o2 o3 o4 hcell
            have e0 := hcell 0 _ rfl
            have e1 := hcell 1 _ rfl
            have e2 := hcell 2 _ rfl
            rw [add_zero3] at e0
            rw [add_pos3 _ _ (by decide)] at e1 e2
            have hdrop := pcB_drop hlk hkN
            rw [Hxs.out, ← Hpt.out] at hdrop
            simp only [] at hdrop
            have hsucc := pcB_succ hlk
            simp only [] at hsucc
            have Hp2 := Lib.hid (show p + (pieceB (kind % 6) num s).length = (pcB (l.take (t + 1))).length by rw [hsucc, List.length_append, Hpt.out])
            have Htake := Lib.hid (fun w1 (hw : PRd w1 q (xs.take ct) p 0) => ptakes_any q (xs.take ct) p 0 kind num s w1 hw Hx1.out o1 o2 o3 o4)
            have Hsize := Lib.hid (fun w1 => psize_any kind num s w1 o1 o2 o3 o4)
            have hpl := pieceB_le (kind % 6) num s
            have hdt : (xs.take ct).drop p = (xs.drop p).take (ct - p) := List.drop_take
            rw [hdrop] at hdt
            obtain ⟨z, hz⟩ : ∃ z, (pieceB (kind % 6) num s).length = z := ⟨_, rfl⟩
            have Hpc := Lib.hid hpc
            have hsum : (p : Int) + (z : Int) = ((p + z : Nat) : Int) := by omega
            have hpz : p + z ≤ 9223372036854775807 := by have := Hx1.out; have := Hys.out; omega
            have Hb := Lib.hid hb
            have Hp := Lib.hid hp
            clear hlk hcell hb hdrop hsucc hp hpl hpc
            by_cases hfit : p + z ≤ ct
            · have hdt2 : (xs.take ct).drop p = pieceB (kind % 6) num s ++ (pcB ((l.take k).drop (t + 1))).take (ct - p - z) := by
                rw [hdt, List.take_append, List.take_of_length_le (by omega), hz]
              have htk := takeA_ok (xs.take ct) p (kind % 6) num s _ (kind6 kind) o3 hdt2
              rw [htk] at Htake
              rw [hz] at Hp2 Hsize Htake
              have db : decide (((p + z : Nat) : Int) ≤ (ct : Int)) = true := by simp; omega
              have db2 : decide ((ct : Int) < ((p + z : Nat) : Int)) = false := by simp; omega
              have Hfit := Lib.hid hfit
              obtain ⟨pz, hpzz⟩ : ∃ pz, p + z = pz := ⟨_, rfl⟩
              rw [hpzz] at hsum hpz Hp2 Htake db db2 Hfit
              clear hdt hdt2 htk hz hfit hpzz
              simp only [] at Htake
              go_wp2_with fail
              with_reducible refine (Hsize.out _).mono ?_
              rintro e w7 ⟨rfl, hb7⟩
              have hsz7 := Nat.le_trans hsz hb7.size
              have Hb7 := Lib.hid (Hb.out.trans (hb7.mono hsz))
              have Hp7 := Lib.hid (Hp.out.on hb7)
              have hbb := hb7.mono hsz
              clear hb7
              replace e0 := (hbb.cell (p := ad.add (t * 3)) (by rw [block_of_add]; exact had)).trans e0
              replace e1 := (hbb.cell (p := ⟨(ad.add (t * 3)).block, (ad.add (t * 3)).off + 1, none⟩) (by show (ad.add (t * 3)).block < base; rw [block_of_add]; exact had)).trans e1
              replace e2 := (hbb.cell (p := ⟨(ad.add (t * 3)).block, (ad.add (t * 3)).off + 2, none⟩) (by show (ad.add (t * 3)).block < base; rw [block_of_add]; exact had)).trans e2
              clear hbb
              go_wp2_with fail
              with_reducible refine (Htake.out _ Hp7.out).mono ?_
              rintro e w8 ⟨rfl, hg8, hp8⟩
              have Hb8 := Lib.hid (Hb7.out.trans (grown_under hg8 hsz7 hqb))
              have Hp8 := Lib.hid hp8
              clear hg8 hp8 e0 e1 e2
              go_wp2_with fail
              with_reducible refine (perr_any q _ _ 0 _ Hp8.out).mono ?_
              rintro e w' ⟨rfl, rfl⟩
              go_wp2_with fail
              with_reducible refine (pat_any q _ _ 0 _ Hp8.out).mono ?_
              rintro e w' ⟨rfl, rfl⟩
              go_wp2
              go_roundw
              case rel => exact ⟨t + 1, _, by omega, by go_num, rfl, Hp2.out, Hfit.out, Hp8.out, Hb8.out⟩
              case measure => simp [intOf]; omega
            · have hdt2 : (xs.take ct).drop p = (pieceB (kind % 6) num s).take (ct - p) := by
                rw [hdt, List.take_append_of_le_length (by omega)]
              have htk := takeA_cut (xs.take ct) p (kind % 6) num s (ct - p) (kind6 kind) o3 hdt2 (by have := Hpc.out; omega)
              generalize takeA (xs.take ct) p 0 (kind % 6) num s = tk at htk Htake
              obtain ⟨isb, p9, e9⟩ := tk
              cases htk
              rw [hz] at Hp2 Hsize
              have db : decide (((p + z : Nat) : Int) ≤ (ct : Int)) = false := by simp; omega
              have db2 : decide ((ct : Int) < ((p + z : Nat) : Int)) = true := by simp; omega
              have hsub : ((p + z : Nat) : Int) - (z : Int) = (p : Int) := by omega
              obtain ⟨pz, hpzz⟩ : ∃ pz, p + z = pz := ⟨_, rfl⟩
              rw [hpzz] at hsum hpz Hp2 db db2 hsub hfit
              have hlt9 : ct < pz := by omega
              have Hw2 := Lib.hid (show IntKind.i64.wrap (p : Int) = (p : Int) from i64_wrap_in _ (by omega) (by omega))
              have Hw := Lib.hid (show IntKind.i64.wrap ((pz : Int) - (z : Int)) = (p : Int) from by rw [hsub]; exact i64_wrap_in _ (by omega) (by omega))
              clear hdt hdt2 hz hpzz
              simp only [] at Htake
              go_wp2_with fail
              with_reducible refine (Hsize.out _).mono ?_
              rintro e w7 ⟨rfl, hb7⟩
              have hsz7 := Nat.le_trans hsz hb7.size
              have Hb7 := Lib.hid (Hb.out.trans (hb7.mono hsz))
              have Hp7 := Lib.hid (Hp.out.on hb7)
              have hbb := hb7.mono hsz
              clear hb7
              replace e0 := (hbb.cell (p := ad.add (t * 3)) (by rw [block_of_add]; exact had)).trans e0
              replace e1 := (hbb.cell (p := ⟨(ad.add (t * 3)).block, (ad.add (t * 3)).off + 1, none⟩) (by show (ad.add (t * 3)).block < base; rw [block_of_add]; exact had)).trans e1
              replace e2 := (hbb.cell (p := ⟨(ad.add (t * 3)).block, (ad.add (t * 3)).off + 2, none⟩) (by show (ad.add (t * 3)).block < base; rw [block_of_add]; exact had)).trans e2
              clear hbb
              go_wp2_with fail
              with_reducible refine (Htake.out _ Hp7.out).mono ?_
              rintro e w8 ⟨rfl, hg8, hp8⟩
              have hgu := grown_under hg8 hsz7 hqb
              have hsz8 := Nat.le_trans hsz7 hgu.size
              have Hb8 := Lib.hid (Hb7.out.trans hgu)
              have Hp8 := Lib.hid hp8
              replace e0 := (hgu.cell (p := ad.add (t * 3)) (by rw [block_of_add]; exact had)).trans e0
              replace e1 := (hgu.cell (p := ⟨(ad.add (t * 3)).block, (ad.add (t * 3)).off + 1, none⟩) (by show (ad.add (t * 3)).block < base; rw [block_of_add]; exact had)).trans e1
              replace e2 := (hgu.cell (p := ⟨(ad.add (t * 3)).block, (ad.add (t * 3)).off + 2, none⟩) (by show (ad.add (t * 3)).block < base; rw [block_of_add]; exact had)).trans e2
              clear hg8 hp8 hgu
              have HL0 := Lib.hid (show ∀ w', Below w8.heap.size w8 w' → w'.cell? (ad.add (t * 3)) = some (.int .i64 kind) from fun w' h => (h.cell (p := ad.add (t * 3)) (by rw [block_of_add]; omega)).trans e0)
              have HL1 := Lib.hid (show ∀ w', Below w8.heap.size w8 w' → w'.cell? ⟨(ad.add (t * 3)).block, (ad.add (t * 3)).off + 1, none⟩ = some (.int .u64 (num : Int)) from fun w' h => (h.cell (p := ⟨(ad.add (t * 3)).block, (ad.add (t * 3)).off + 1, none⟩) (by show (ad.add (t * 3)).block < _; rw [block_of_add]; omega)).trans e1)
              have HL2 := Lib.hid (show ∀ w', Below w8.heap.size w8 w' → w'.cell? ⟨(ad.add (t * 3)).block, (ad.add (t * 3)).off + 2, none⟩ = some (.string s) from fun w' h => (h.cell (p := ⟨(ad.add (t * 3)).block, (ad.add (t * 3)).off + 2, none⟩) (by show (ad.add (t * 3)).block < _; rw [block_of_add]; omega)).trans e2)
              clear e0 e1 e2
              go_wp2
              have hS : Below w8.heap.size w8 w8.drew := (Below.refl _ _).drew
              have Hp9 := Lib.hid (Hp8.out.on hS)
              refine wp_region_keep (fun w' => Below w8.heap.size w8 w') [(0, false), (1, false), (2, false), (3, false), (4, true), (5, false), (6, false), (7, false), (8, false), (10, false), (11, false), (12, false), (13, false), (14, false), (9, true), (15, true), (16, false), (17, false), (18, false), (19, false), (20, true), (21, false), (22, false)] (by kernel_rfl) (by kernel_rfl) (by kernel_rfl) (fun d _ _ _ _ h => by cases d <;> exact h) ?_
              refine held_pure (v := ?_) rfl rfl (by simp [Region.wanted, yielded]) hS ?_ ?_
              rotate_left
              · intro w hw; go_simp; try with_reducible rfl
              try simp only [Act.put, List.setIfInBounds_toArray, List.set_cons_succ, List.set_cons_zero]
              refine held_pure (v := ?_) rfl rfl (by simp [Region.wanted, yielded]) hS ?_ ?_
              rotate_left
              · intro w hw; go_simp; try with_reducible rfl
              try simp only [Act.put, List.setIfInBounds_toArray, List.set_cons_succ, List.set_cons_zero]
              refine held_pure (v := ?_) rfl rfl (by simp [Region.wanted, yielded]) hS ?_ ?_
              rotate_left
              · intro w hw; go_simp; try with_reducible rfl
              try simp only [Act.put, List.setIfInBounds_toArray, List.set_cons_succ, List.set_cons_zero]
              refine held_pure (v := ?_) rfl rfl (by simp [Region.wanted, yielded]) hS ?_ ?_
              rotate_left
              · intro w hw; go_simp; try with_reducible rfl
              try simp only [Act.put, List.setIfInBounds_toArray, List.set_cons_succ, List.set_cons_zero]
              refine held_eff1 rfl (by simp [Region.wanted, yielded]) fun K hK => ?_
              go_simp
              with_reducible refine (perr_any q _ p 3 _ Hp9.out).mono ?_
              rintro e w' ⟨rfl, rfl⟩
              refine held_go hK (by exact hS) fun hS => ?_
              clear hK K
              try simp only [Act.put, List.setIfInBounds_toArray, List.set_cons_succ, List.set_cons_zero]
              refine held_pure (v := ?_) rfl rfl (by simp [Region.wanted, yielded]) hS ?_ ?_
              rotate_left
              · intro w hw; go_simp; try with_reducible rfl
              try simp only [Act.put, List.setIfInBounds_toArray, List.set_cons_succ, List.set_cons_zero]
              refine held_pure (v := ?_) rfl rfl (by simp [Region.wanted, yielded]) hS ?_ ?_
              rotate_left
              · intro w hw; go_simp; try with_reducible rfl
              try simp only [Act.put, List.setIfInBounds_toArray, List.set_cons_succ, List.set_cons_zero]
              refine held_pure (v := ?_) rfl rfl (by simp [Region.wanted, yielded]) hS ?_ ?_
              rotate_left
              · intro w hw; go_simp; try with_reducible rfl
              try simp only [Act.put, List.setIfInBounds_toArray, List.set_cons_succ, List.set_cons_zero]
              refine held_pure (v := ?_) rfl rfl (by simp [Region.wanted, yielded]) hS ?_ ?_
              rotate_left
              · intro w hw; go_simp; try with_reducible rfl
              try simp only [Act.put, List.setIfInBounds_toArray, List.set_cons_succ, List.set_cons_zero]
              refine held_pure (v := ?_) rfl rfl (by simp [Region.wanted, yielded]) hS ?_ ?_
              rotate_left
              · intro w hw; go_simp; try with_reducible rfl
              try simp only [Act.put, List.setIfInBounds_toArray, List.set_cons_succ, List.set_cons_zero]
              refine held_pure (v := ?_) rfl rfl (by simp [Region.wanted, yielded]) hS ?_ ?_
              rotate_left
              · intro w hw; go_simp; try with_reducible rfl
              try simp only [Act.put, List.setIfInBounds_toArray, List.set_cons_succ, List.set_cons_zero]
              refine held_pure (v := ?_) rfl rfl (by simp [Region.wanted, yielded]) hS ?_ ?_
              rotate_left
              · intro w hw; go_simp; try with_reducible rfl
              try simp only [Act.put, List.setIfInBounds_toArray, List.set_cons_succ, List.set_cons_zero]
              refine held_pure (v := ?_) rfl rfl (by simp [Region.wanted, yielded]) hS ?_ ?_
              rotate_left
              · intro w hw; go_simp; try with_reducible rfl
              try simp only [Act.put, List.setIfInBounds_toArray, List.set_cons_succ, List.set_cons_zero]
              refine held_pure (v := ?_) rfl rfl (by simp [Region.wanted, yielded]) hS ?_ ?_
              rotate_left
              · intro w hw; have c0 := HL0.out w hw; have c1 := HL1.out w hw; have c2 := HL2.out w hw; clear hw; go_simp; try with_reducible rfl
              try simp only [Act.put, List.setIfInBounds_toArray, List.set_cons_succ, List.set_cons_zero]
              refine held_eff1 rfl (by simp [Region.wanted, yielded]) fun K hK => ?_
              go_simp
              with_reducible refine (pat_any q _ p 3 _ Hp9.out).mono ?_
              rintro e w' ⟨rfl, rfl⟩
              refine held_go hK (by exact hS) fun hS => ?_
              clear hK K
              try simp only [Act.put, List.setIfInBounds_toArray, List.set_cons_succ, List.set_cons_zero]
              refine held_eff1 rfl (by simp [Region.wanted, yielded]) fun K hK => ?_
              go_simp
              with_reducible refine (Hsize.out _).mono ?_
              rintro e w9 ⟨rfl, hb9⟩
              refine held_go hK (by exact bon hS hb9) fun hS => ?_
              clear hK K
              try simp only [Act.put, List.setIfInBounds_toArray, List.set_cons_succ, List.set_cons_zero]
              refine held_pure (v := ?_) rfl rfl (by simp [Region.wanted, yielded]) hS ?_ ?_
              rotate_left
              · intro w hw; go_simp; try with_reducible rfl
              try simp only [Act.put, List.setIfInBounds_toArray, List.set_cons_succ, List.set_cons_zero]
              first | rw [Hw.out] | rw [Hw2.out] | skip
              refine held_pure (v := ?_) rfl rfl (by simp [Region.wanted, yielded]) hS ?_ ?_
              rotate_left
              · intro w hw; go_simp; try with_reducible rfl
              try simp only [Act.put, List.setIfInBounds_toArray, List.set_cons_succ, List.set_cons_zero]
              refine held_pure (v := ?_) rfl rfl (by simp [Region.wanted, yielded]) hS ?_ ?_
              rotate_left
              · intro w hw; go_simp; try with_reducible rfl
              try simp only [Act.put, List.setIfInBounds_toArray, List.set_cons_succ, List.set_cons_zero]
              refine held_pure (v := ?_) rfl rfl (by simp [Region.wanted, yielded]) hS ?_ ?_
              rotate_left
              · intro w hw; go_simp; try with_reducible rfl
              try simp only [Act.put, List.setIfInBounds_toArray, List.set_cons_succ, List.set_cons_zero]
              refine held_eff1 rfl (by simp [Region.wanted, yielded]) fun K hK => ?_
              go_simp
              with_reducible refine (works_any _).mono ?_
              rintro e w10 ⟨rfl, hb10⟩
              refine held_go hK (by exact bon hS hb10) fun hS => ?_
              clear hK K
              try simp only [Act.put, List.setIfInBounds_toArray, List.set_cons_succ, List.set_cons_zero]
              refine held_pure (v := ?_) rfl rfl (by simp [Region.wanted, yielded]) hS ?_ ?_
              rotate_left
              · intro w hw; go_simp; try with_reducible rfl
              try simp only [Act.put, List.setIfInBounds_toArray, List.set_cons_succ, List.set_cons_zero]
              refine held_pure (v := ?_) rfl rfl (by simp [Region.wanted, yielded]) hS ?_ ?_
              rotate_left
              · intro w hw; go_simp; try with_reducible rfl
              try simp only [Act.put, List.setIfInBounds_toArray, List.set_cons_succ, List.set_cons_zero]
              refine held_end ?_
              have hb11 := Hb8.out.trans (hS.mono hsz8)
              clear hS
              go_wp2
              go_ret
              exact ⟨rfl, hb11⟩
          · obtain rfl : t = k := by omega
            have hpx : p = ct := by
              have h1 := Hpt.out
              rw [Hxs.out, HL.out] at h1
              have := Hctl.out
              omega
            subst hpx
            by_cases hlt : t < n
            · have d1 : decide ((t : Int) < (n : Int)) = true := by simp; omega
              have d2 : decide ((t : Int) < 40) = false := by simp; have := HN.out; omega
              have Hb := Lib.hid hb
              clear hb
              go_wp2_with fail
              with_reducible refine (pend_any q (xs.take p) p 0 _ hp).mono ?_
              rintro e w' ⟨rfl, rfl⟩
              rw [show endE ((xs.take p).length - p) 0 = 0 from by rw [Hys.out, Nat.sub_self]; rfl]
              clear hp
              go_wp2_with fail
              with_reducible refine (works_any _).mono ?_
              rintro e w7 ⟨rfl, hb7⟩
              go_wp2
              go_ret
              exact ⟨rfl, Hb.out.trans (hb7.mono (Nat.le_trans Hz.out Hb.out.size))⟩
            · have d1 : decide ((t : Int) < (n : Int)) = false := by simp; omega
              have Hb := Lib.hid hb
              clear hb
              go_wp2_with fail
              with_reducible refine (pend_any q (xs.take p) p 0 _ hp).mono ?_
              rintro e w' ⟨rfl, rfl⟩
              rw [show endE ((xs.take p).length - p) 0 = 0 from by rw [Hys.out, Nat.sub_self]; rfl]
              clear hp
              go_wp2_with fail
              with_reducible refine (works_any _).mono ?_
              rintro e w7 ⟨rfl, hb7⟩
              go_wp2
              go_ret
              exact ⟨rfl, Hb.out.trans (hb7.mono (Nat.le_trans Hz.out Hb.out.size))⟩
end Go.Proofs.Ytnkkhplddjopnaa
