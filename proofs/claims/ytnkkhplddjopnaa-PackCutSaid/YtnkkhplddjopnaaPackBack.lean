/- The law PackBack, walked. -/
import Derived.Test.YtnkkhplddjopnaaPackFull
import Derived.Test.YtnkkhplddjopnaaPackPure
set_option linter.unusedVariables false
set_option linter.unusedSimpArgs false
namespace Go.Proofs.Ytnkkhplddjopnaa
open Go.RowKit
/-- The bytes of so many pieces. -/
def pcB (l : List Pc) : List UInt8 := l.flatMap fun p => pieceB (p.1 % 6) p.2.1 p.2.2
theorem pcB_succ {l : List Pc} {k : Nat} {p : Pc} (h : l[k]? = some p) : pcB (l.take (k + 1)) = pcB (l.take k) ++ pieceB (p.1 % 6) p.2.1 p.2.2 := by
  unfold pcB
  rw [List.take_add_one, h, List.flatMap_append]
  simp
theorem pcB_le (l : List Pc) : (pcB l).length ≤ 60 * l.length := by
  unfold pcB
  induction l with
  | nil => simp
  | cons p l ih =>
    have := pieceB_le (p.1 % 6) p.2.1 p.2.2
    rw [List.flatMap_cons, List.length_append, List.length_cons]
    omega
theorem pcB_drop {l : List Pc} {k N : Nat} {p : Pc} (h : l[k]? = some p) (hk : k < N) : (pcB (l.take N)).drop (pcB (l.take k)).length = pieceB (p.1 % 6) p.2.1 p.2.2 ++ pcB ((l.take N).drop (k + 1)) := by
  have h1 : l.take N = l.take (k + 1) ++ (l.take N).drop (k + 1) := by
    have h2 := (List.take_append_drop (k + 1) (l.take N)).symm
    rwa [List.take_take, Nat.min_eq_left hk] at h2
  have h3 : pcB (l.take N) = pcB (l.take k) ++ (pieceB (p.1 % 6) p.2.1 p.2.2 ++ pcB ((l.take N).drop (k + 1))) := by
    conv => lhs; rw [h1]
    have : ∀ a b, pcB (a ++ b) = pcB a ++ pcB b := fun a b => by unfold pcB; rw [List.flatMap_append]
    rw [this, pcB_succ h, List.append_assoc]
  rw [h3, List.drop_left]
theorem kind6 (k : Int) : k % 6 = 0 ∨ k % 6 = 1 ∨ k % 6 = 2 ∨ k % 6 = 3 ∨ k % 6 = 4 ∨ k % 6 = 5 := by omega
set_option maxRecDepth 100000 in
set_option maxHeartbeats 8000000 in
theorem packBack_walk (A : Option Addr) (n c : Nat) (l : List Pc) (w : World)
    (hr : Reads w w.heap.size 3 A n (pcs l)) (hl : n ≤ c) (hc : c ≤ maxLen) (hok : PcOk l) :
    Calls Try.prog 8 #[.slice A n c] w fun e w' => e = .returned (.bool true) ∧ Below w.heap.size w w' := by
  obtain ⟨base, hbase⟩ : ∃ g, g = w.heap.size := ⟨_, rfl⟩
  have Hz := Lib.hid (Nat.le_of_eq hbase)
  obtain ⟨N, hN⟩ : ∃ N, min n 40 = N := ⟨_, rfl⟩
  have HN := Lib.hid hN
  have Hln := Lib.hid (pcs_len hr)
  have hwk := works_any w
  rw [← hbase] at hr hwk ⊢
  have Hr := Lib.hid hr
  have Hok := Lib.hid hok
  have Hwk := Lib.hid hwk
  clear hbase hr hok hN hwk
  go_enter Try.func8, Try.ntmps8
  go_wp2_with fail
  with_reducible refine (Hwk.out).mono ?_
  rintro e w0 ⟨rfl, hb0⟩
  have hs0 := Nat.le_trans Hz.out hb0.size
  go_wp2_with fail
  with_reducible refine (newW_any 1048576 _ (by decide) (by decide)).mono ?_
  rintro e w1 ⟨rfl, ⟨q1, A9, c9, q2, q3, q4⟩, hb1, hs1⟩
  have HP : PW1 w1 base w0.heap.size [] 1048576 false := ⟨none, Nat.le_trans hs0 q1, A9, c9, q2, own_mono q3 hs0, q4⟩
  have hb := hb0.trans (hb1.mono hs0)
  generalize w0.heap.size = g at *
  clear hb0 hs0 q1 q2 q3 q4 hb1 hs1 Hwk
  have HP : PW1 w1 base g (pcB (l.take 0)) 1048576 false := HP
  go_wp2
  go_loopw [4] (fun i wr => ∃ (k : Nat), k ≤ N ∧ i = .int .i64 (k : Int) ∧ PW1 wr base g (pcB (l.take k)) 1048576 false ∧ Below base w wr) (fun i _ => n - (intOf i).toNat)
  case atStart => exact ⟨0, Nat.zero_le _, rfl, HP, hb⟩
  case round =>
    clear HP hb
    obtain ⟨k, hk, rfl, HP, hb⟩ := hrel
    by_cases hkN : k < N
    · have hlt : k < n := by have := HN.out; omega
      have hlt4 : k < 40 := by have := HN.out; omega
      have d1 : decide ((k : Int) < (n : Int)) = true := by simp; omega
      have d2 : decide ((k : Int) < 40) = true := by simp; omega
      have hsz := Nat.le_trans Hz.out hb.size
      obtain ⟨ad, ⟨kind, num, s⟩, rfl, had, hlk, hcell⟩ := pcs_at (Hr.out.below hb) hlt
      obtain ⟨o1, o2, o3, o4⟩ := Hok.out _ (List.mem_of_getElem? hlk)
      simp only [] at o1 o2 o3 o4 hcell
      have e0 := hcell 0 _ rfl
      have e1 := hcell 1 _ rfl
      have e2 := hcell 2 _ rfl
      rw [add_zero3] at e0
      rw [add_pos3 _ _ (by decide)] at e1 e2
      have Hb := Lib.hid hb
      obtain ⟨r, hp⟩ := HP
      have hBl := pcB_le (l.take k)
      have hBk : (l.take k).length ≤ 40 := by rw [List.length_take]; omega
      have hpl := pieceB_le (kind % 6) num s
      have Hfit := Lib.hid (show ((pcB (l.take k)).length : Int) + ((pieceB (kind % 6) num s).length : Int) ≤ 1048576 by omega)
      have Hblen := Lib.hid (show (pcB (l.take k)).length ≤ 1000000000 by omega)
      have Hsucc := Lib.hid (pcB_succ hlk)
      simp only [] at Hsucc
      clear hlk hcell hb hpl hBl hBk
      go_wp2_with fail
      with_reducible refine (pwput_any base g r (pcB (l.take k)) 1048576 false kind num s _ hp (by decide) (by decide) o1 o2 o3 o4 Hblen.out).mono ?_
      rintro e w3 hw
      obtain ⟨rfl, hb3, HP⟩ := PW1.put hp hw hsz
      rw [rawB_fit Hfit.out] at HP
      simp only [] at HP
      rw [← Hsucc.out] at HP
      have HP2 := Lib.hid HP
      have hb4 := Lib.hid (Hb.out.trans hb3)
      clear hw hp HP hb3 e0 e1 e2
      go_wp2
      go_roundw
      case rel => exact ⟨k + 1, by omega, by go_num, HP2.out, hb4.out⟩
      case measure => simp [intOf]; omega
    · obtain rfl : k = N := by omega
      by_cases hlt : k < n
      · have d1 : decide ((k : Int) < (n : Int)) = true := by simp; omega
        have d2 : decide ((k : Int) < 40) = false := by simp; have := HN.out; omega
        have Hb := Lib.hid hb
        have hsz := Nat.le_trans Hz.out hb.size
        have Hxl := Lib.hid (show (pcB (l.take k)).length ≤ 2400 by have := pcB_le (l.take k); have : (l.take k).length ≤ 40 := by { rw [List.length_take]; have := HN.out; omega }; omega)
        clear hb
        obtain ⟨r, hp⟩ := HP
        go_wp2_with fail
        with_reducible refine (wdone_any base g r (pcB (l.take k)) 1048576 false _ hp (by have := Hxl.out; omega)).mono ?_
        rintro e w5 ⟨hb5, A5, c5, rfl, j1, j2, o5⟩
        have r5 := own_reads o5
        have hb6 := Lib.hid (Hb.out.trans (hb5.mono hsz))
        have hs5 := Nat.le_trans Hz.out hb6.out.size
        clear hp Hb hb5 o5
        obtain ⟨xs, hxs⟩ : ∃ xs, pcB (l.take k) = xs := ⟨_, rfl⟩
        rw [hxs] at r5 j1 Hxl ⊢
        have Hxs := Lib.hid hxs
        clear hxs
        go_wp2_with fail
        with_reducible refine (pnew_any A5 xs.length c5 xs _ r5 (by have := Hxl.out; omega)).mono ?_
        rintro e w6 ⟨q, rfl, hq, hp, hb7⟩
        have hqb : base ≤ q := Nat.le_trans hs5 hq
        have hb := hb6.out.trans (hb7.mono hs5)
        clear hb7 hb6 hq r5 hs5 hsz
        have Hx1 := Lib.hid (show xs.length ≤ 1099511627776 by have := Hxl.out; omega)
        go_wp2
        go_loopw [8] (fun i wr => ∃ (t p : Nat), t ≤ k ∧ i = .int .i64 (t : Int) ∧ p = (pcB (l.take t)).length ∧ PRd wr q xs p 0 ∧ Below base w wr) (fun i _ => n - (intOf i).toNat)
        case atStart => exact ⟨0, 0, Nat.zero_le _, rfl, rfl, hp, hb⟩
        case round =>
          clear hp hb
          obtain ⟨t, p, hk, rfl, hpt, hp, hb⟩ := hrel
          have Hpt := Lib.hid hpt
          clear hpt
          by_cases hkN : t < k
          · have hlt : t < n := by have := HN.out; omega
            have hlt4 : t < 40 := by have := HN.out; omega
            have d1 : decide ((t : Int) < (n : Int)) = true := by simp; omega
            have d2 : decide ((t : Int) < 40) = true := by simp; omega
            have hsz := Nat.le_trans Hz.out hb.size
            obtain ⟨ad, ⟨kind, num, s⟩, rfl, had, hlk, hcell⟩ := pcs_at (Hr.out.below hb) hlt
            obtain ⟨o1, o2, o3, o4⟩ := Hok.out _ (List.mem_of_getElem? hlk)
            simp only [] at o1 o2 o3 o4 hcell
            have e0 := hcell 0 _ rfl
            have e1 := hcell 1 _ rfl
            have e2 := hcell 2 _ rfl
            rw [add_zero3] at e0
            rw [add_pos3 _ _ (by decide)] at e1 e2
            have hdrop := pcB_drop hlk hkN
            rw [Hxs.out, ← Hpt.out] at hdrop
            simp only [] at hdrop
            have htk := takeA_ok xs p (kind % 6) num s _ (kind6 kind) o3 hdrop
            have hple : p ≤ xs.length := hp.1
            have hlen : xs.length - p = (pieceB (kind % 6) num s).length + (pcB ((l.take k).drop (t + 1))).length := by rw [← List.length_drop, hdrop, List.length_append]
            have hsucc := pcB_succ hlk
            simp only [] at hsucc
            have Hp2 := Lib.hid (show p + (pieceB (kind % 6) num s).length = (pcB (l.take (t + 1))).length by rw [hsucc, List.length_append, Hpt.out])
            have Htake := Lib.hid (fun w1 (hw : PRd w1 q xs p 0) => ptakes_any q xs p 0 kind num s w1 hw Hx1.out o1 o2 o3 o4)
            rw [htk] at Htake
            have Hsize := Lib.hid (fun w1 => psize_any kind num s w1 o1 o2 o3 o4)
            have Hlen := Lib.hid hlen
            have Hb := Lib.hid hb
            have Hp := Lib.hid hp
            clear hlk hcell hb hdrop htk hlen hsucc hp
            simp only [] at Htake
            by_cases hem : xs.length - p = 0
            · have hE : endE (xs.length - p) 0 = 0 := by unfold endE; rw [if_neg (by omega)]
              have HE := Lib.hid hE
              have hz : ((pieceB (kind % 6) num s).length : Int) = 0 := by have := Hlen.out; omega
              have Hz0 := Lib.hid hz
              clear hE hem hz
              go_wp2_with fail
              with_reducible refine (pend_any q xs p 0 _ Hp.out).mono ?_
              rintro e w' ⟨rfl, rfl⟩
              rw [HE.out]
              go_wp2_with fail
              with_reducible refine (Hsize.out _).mono ?_
              rintro e w7 ⟨rfl, hb7⟩
              rw [Hz0.out]
              have hsz7 := Nat.le_trans hsz hb7.size
              have Hb7 := Lib.hid (Hb.out.trans (hb7.mono hsz))
              have Hp7 := Lib.hid (Hp.out.on hb7)
              have hbb := hb7.mono hsz
              clear hb7
              replace e0 := (hbb.cell (p := ad.add (t * 3)) (by rw [block_of_add]; exact had)).trans e0
              replace e1 := (hbb.cell (p := ⟨(ad.add (t * 3)).block, (ad.add (t * 3)).off + 1, none⟩) (by show (ad.add (t * 3)).block < base; rw [block_of_add]; exact had)).trans e1
              replace e2 := (hbb.cell (p := ⟨(ad.add (t * 3)).block, (ad.add (t * 3)).off + 2, none⟩) (by show (ad.add (t * 3)).block < base; rw [block_of_add]; exact had)).trans e2
              clear hbb
              go_wp2_with fail
              with_reducible refine (Htake.out _ Hp7.out).mono ?_
              rintro e w8 ⟨rfl, hg8, hp8⟩
              have Hb8 := Lib.hid (Hb7.out.trans (grown_under hg8 hsz7 hqb))
              have Hp8 := Lib.hid hp8
              clear hg8 hp8 e0 e1 e2
              go_wp2_with fail
              with_reducible refine (perr_any q xs _ 0 _ Hp8.out).mono ?_
              rintro e w' ⟨rfl, rfl⟩
              go_wp2
              go_roundw
              case rel => exact ⟨t + 1, _, by omega, by go_num, Hp2.out, Hp8.out, Hb8.out⟩
              case measure => simp [intOf]; omega
            · have hE : endE (xs.length - p) 0 = 30 := by unfold endE; rw [if_pos (by omega)]
              have HE := Lib.hid hE
              clear hE hem
              go_wp2_with fail
              with_reducible refine (pend_any q xs p 0 _ Hp.out).mono ?_
              rintro e w' ⟨rfl, rfl⟩
              rw [HE.out]
              go_wp2_with fail
              with_reducible refine (Htake.out _ Hp.out).mono ?_
              rintro e w8 ⟨rfl, hg8, hp8⟩
              have Hb8 := Lib.hid (Hb.out.trans (grown_under hg8 hsz hqb))
              have Hp8 := Lib.hid hp8
              clear hg8 hp8 e0 e1 e2
              go_wp2_with fail
              with_reducible refine (perr_any q xs _ 0 _ Hp8.out).mono ?_
              rintro e w' ⟨rfl, rfl⟩
              go_wp2
              go_roundw
              case rel => exact ⟨t + 1, _, by omega, by go_num, Hp2.out, Hp8.out, Hb8.out⟩
              case measure => simp [intOf]; omega
          · obtain rfl : t = k := by omega
            have hpx : p = xs.length := by rw [Hpt.out, Hxs.out]
            subst hpx
            by_cases hlt : t < n
            · have d1 : decide ((t : Int) < (n : Int)) = true := by simp; omega
              have d2 : decide ((t : Int) < 40) = false := by simp; have := HN.out; omega
              have Hb := Lib.hid hb
              clear hb
              go_wp2_with fail
              with_reducible refine (pend_any q xs xs.length 0 _ hp).mono ?_
              rintro e w' ⟨rfl, rfl⟩
              rw [show endE (xs.length - xs.length) 0 = 0 from by rw [Nat.sub_self]; rfl]
              go_wp2_with fail
              with_reducible refine (pleft_any q xs xs.length 0 _ hp).mono ?_
              rintro e w' ⟨rfl, rfl⟩
              rw [Nat.sub_self]
              go_wp2_with fail
              with_reducible refine (pat_any q xs xs.length 0 _ hp).mono ?_
              rintro e w' ⟨rfl, rfl⟩
              clear hp
              go_wp2
              go_ret
              exact ⟨rfl, Hb.out⟩
            · have d1 : decide ((t : Int) < (n : Int)) = false := by simp; omega
              have Hb := Lib.hid hb
              clear hb
              go_wp2_with fail
              with_reducible refine (pend_any q xs xs.length 0 _ hp).mono ?_
              rintro e w' ⟨rfl, rfl⟩
              rw [show endE (xs.length - xs.length) 0 = 0 from by rw [Nat.sub_self]; rfl]
              go_wp2_with fail
              with_reducible refine (pleft_any q xs xs.length 0 _ hp).mono ?_
              rintro e w' ⟨rfl, rfl⟩
              rw [Nat.sub_self]
              go_wp2_with fail
              with_reducible refine (pat_any q xs xs.length 0 _ hp).mono ?_
              rintro e w' ⟨rfl, rfl⟩
              clear hp
              go_wp2
              go_ret
              exact ⟨rfl, Hb.out⟩
      · have d1 : decide ((k : Int) < (n : Int)) = false := by simp; omega
        have Hb := Lib.hid hb
        have hsz := Nat.le_trans Hz.out hb.size
        have Hxl := Lib.hid (show (pcB (l.take k)).length ≤ 2400 by have := pcB_le (l.take k); have : (l.take k).length ≤ 40 := by { rw [List.length_take]; have := HN.out; omega }; omega)
        clear hb
        obtain ⟨r, hp⟩ := HP
        go_wp2_with fail
        with_reducible refine (wdone_any base g r (pcB (l.take k)) 1048576 false _ hp (by have := Hxl.out; omega)).mono ?_
        rintro e w5 ⟨hb5, A5, c5, rfl, j1, j2, o5⟩
        have r5 := own_reads o5
        have hb6 := Lib.hid (Hb.out.trans (hb5.mono hsz))
        have hs5 := Nat.le_trans Hz.out hb6.out.size
        clear hp Hb hb5 o5
        obtain ⟨xs, hxs⟩ : ∃ xs, pcB (l.take k) = xs := ⟨_, rfl⟩
        rw [hxs] at r5 j1 Hxl ⊢
        have Hxs := Lib.hid hxs
        clear hxs
        go_wp2_with fail
        with_reducible refine (pnew_any A5 xs.length c5 xs _ r5 (by have := Hxl.out; omega)).mono ?_
        rintro e w6 ⟨q, rfl, hq, hp, hb7⟩
        have hqb : base ≤ q := Nat.le_trans hs5 hq
        have hb := hb6.out.trans (hb7.mono hs5)
        clear hb7 hb6 hq r5 hs5 hsz
        have Hx1 := Lib.hid (show xs.length ≤ 1099511627776 by have := Hxl.out; omega)
        go_wp2
        go_loopw [8] (fun i wr => ∃ (t p : Nat), t ≤ k ∧ i = .int .i64 (t : Int) ∧ p = (pcB (l.take t)).length ∧ PRd wr q xs p 0 ∧ Below base w wr) (fun i _ => n - (intOf i).toNat)
        case atStart => exact ⟨0, 0, Nat.zero_le _, rfl, rfl, hp, hb⟩
        case round =>
          clear hp hb
          obtain ⟨t, p, hk, rfl, hpt, hp, hb⟩ := hrel
          have Hpt := Lib.hid hpt
          clear hpt
          by_cases hkN : t < k
          · have hlt : t < n := by have := HN.out; omega
            have hlt4 : t < 40 := by have := HN.out; omega
            have d1 : decide ((t : Int) < (n : Int)) = true := by simp; omega
            have d2 : decide ((t : Int) < 40) = true := by simp; omega
            have hsz := Nat.le_trans Hz.out hb.size
            obtain ⟨ad, ⟨kind, num, s⟩, rfl, had, hlk, hcell⟩ := pcs_at (Hr.out.below hb) hlt
            obtain ⟨o1, o2, o3, o4⟩ := Hok.out _ (List.mem_of_getElem? hlk)
            simp only [] at o1 o2 o3 o4 hcell
            have e0 := hcell 0 _ rfl
            have e1 := hcell 1 _ rfl
            have e2 := hcell 2 _ rfl
            rw [add_zero3] at e0
            rw [add_pos3 _ _ (by decide)] at e1 e2
            have hdrop := pcB_drop hlk hkN
            rw [Hxs.out, ← Hpt.out] at hdrop
            simp only [] at hdrop
            have htk := takeA_ok xs p (kind % 6) num s _ (kind6 kind) o3 hdrop
            have hple : p ≤ xs.length := hp.1
            have hlen : xs.length - p = (pieceB (kind % 6) num s).length + (pcB ((l.take k).drop (t + 1))).length := by rw [← List.length_drop, hdrop, List.length_append]
            have hsucc := pcB_succ hlk
            simp only [] at hsucc
            have Hp2 := Lib.hid (show p + (pieceB (kind % 6) num s).length = (pcB (l.take (t + 1))).length by rw [hsucc, List.length_append, Hpt.out])
            have Htake := Lib.hid (fun w1 (hw : PRd w1 q xs p 0) => ptakes_any q xs p 0 kind num s w1 hw Hx1.out o1 o2 o3 o4)
            rw [htk] at Htake
            have Hsize := Lib.hid (fun w1 => psize_any kind num s w1 o1 o2 o3 o4)
            have Hlen := Lib.hid hlen
            have Hb := Lib.hid hb
            have Hp := Lib.hid hp
            clear hlk hcell hb hdrop htk hlen hsucc hp
            simp only [] at Htake
            by_cases hem : xs.length - p = 0
            · have hE : endE (xs.length - p) 0 = 0 := by unfold endE; rw [if_neg (by omega)]
              have HE := Lib.hid hE
              have hz : ((pieceB (kind % 6) num s).length : Int) = 0 := by have := Hlen.out; omega
              have Hz0 := Lib.hid hz
              clear hE hem hz
              go_wp2_with fail
              with_reducible refine (pend_any q xs p 0 _ Hp.out).mono ?_
              rintro e w' ⟨rfl, rfl⟩
              rw [HE.out]
              go_wp2_with fail
              with_reducible refine (Hsize.out _).mono ?_
              rintro e w7 ⟨rfl, hb7⟩
              rw [Hz0.out]
              have hsz7 := Nat.le_trans hsz hb7.size
              have Hb7 := Lib.hid (Hb.out.trans (hb7.mono hsz))
              have Hp7 := Lib.hid (Hp.out.on hb7)
              have hbb := hb7.mono hsz
              clear hb7
              replace e0 := (hbb.cell (p := ad.add (t * 3)) (by rw [block_of_add]; exact had)).trans e0
              replace e1 := (hbb.cell (p := ⟨(ad.add (t * 3)).block, (ad.add (t * 3)).off + 1, none⟩) (by show (ad.add (t * 3)).block < base; rw [block_of_add]; exact had)).trans e1
              replace e2 := (hbb.cell (p := ⟨(ad.add (t * 3)).block, (ad.add (t * 3)).off + 2, none⟩) (by show (ad.add (t * 3)).block < base; rw [block_of_add]; exact had)).trans e2
              clear hbb
              go_wp2_with fail
              with_reducible refine (Htake.out _ Hp7.out).mono ?_
              rintro e w8 ⟨rfl, hg8, hp8⟩
              have Hb8 := Lib.hid (Hb7.out.trans (grown_under hg8 hsz7 hqb))
              have Hp8 := Lib.hid hp8
              clear hg8 hp8 e0 e1 e2
              go_wp2_with fail
              with_reducible refine (perr_any q xs _ 0 _ Hp8.out).mono ?_
              rintro e w' ⟨rfl, rfl⟩
              go_wp2
              go_roundw
              case rel => exact ⟨t + 1, _, by omega, by go_num, Hp2.out, Hp8.out, Hb8.out⟩
              case measure => simp [intOf]; omega
            · have hE : endE (xs.length - p) 0 = 30 := by unfold endE; rw [if_pos (by omega)]
              have HE := Lib.hid hE
              clear hE hem
              go_wp2_with fail
              with_reducible refine (pend_any q xs p 0 _ Hp.out).mono ?_
              rintro e w' ⟨rfl, rfl⟩
              rw [HE.out]
              go_wp2_with fail
              with_reducible refine (Htake.out _ Hp.out).mono ?_
              rintro e w8 ⟨rfl, hg8, hp8⟩
              have Hb8 := Lib.hid (Hb.out.trans (grown_under hg8 hsz hqb))
              have Hp8 := Lib.hid hp8
              clear hg8 hp8 e0 e1 e2
              go_wp2_with fail
              with_reducible refine (perr_any q xs _ 0 _ Hp8.out).mono ?_
              rintro e w' ⟨rfl, rfl⟩
              go_wp2
              go_roundw
              case rel => exact ⟨t + 1, _, by omega, by go_num, Hp2.out, Hp8.out, Hb8.out⟩
              case measure => simp [intOf]; omega
          · obtain rfl : t = k := by omega
            have hpx : p = xs.length := by rw [Hpt.out, Hxs.out]
            subst hpx
            by_cases hlt : t < n
            · have d1 : decide ((t : Int) < (n : Int)) = true := by simp; omega
              have d2 : decide ((t : Int) < 40) = false := by simp; have := HN.out; omega
              have Hb := Lib.hid hb
              clear hb
              go_wp2_with fail
              with_reducible refine (pend_any q xs xs.length 0 _ hp).mono ?_
              rintro e w' ⟨rfl, rfl⟩
              rw [show endE (xs.length - xs.length) 0 = 0 from by rw [Nat.sub_self]; rfl]
              go_wp2_with fail
              with_reducible refine (pleft_any q xs xs.length 0 _ hp).mono ?_
              rintro e w' ⟨rfl, rfl⟩
              rw [Nat.sub_self]
              go_wp2_with fail
              with_reducible refine (pat_any q xs xs.length 0 _ hp).mono ?_
              rintro e w' ⟨rfl, rfl⟩
              clear hp
              go_wp2
              go_ret
              exact ⟨rfl, Hb.out⟩
            · have d1 : decide ((t : Int) < (n : Int)) = false := by simp; omega
              have Hb := Lib.hid hb
              clear hb
              go_wp2_with fail
              with_reducible refine (pend_any q xs xs.length 0 _ hp).mono ?_
              rintro e w' ⟨rfl, rfl⟩
              rw [show endE (xs.length - xs.length) 0 = 0 from by rw [Nat.sub_self]; rfl]
              go_wp2_with fail
              with_reducible refine (pleft_any q xs xs.length 0 _ hp).mono ?_
              rintro e w' ⟨rfl, rfl⟩
              rw [Nat.sub_self]
              go_wp2_with fail
              with_reducible refine (pat_any q xs xs.length 0 _ hp).mono ?_
              rintro e w' ⟨rfl, rfl⟩
              clear hp
              go_wp2
              go_ret
              exact ⟨rfl, Hb.out⟩
end Go.Proofs.Ytnkkhplddjopnaa
