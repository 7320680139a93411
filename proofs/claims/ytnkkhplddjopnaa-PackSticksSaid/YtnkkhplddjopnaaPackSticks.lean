/- The law PackSticks, walked. -/
import Derived.Test.YtnkkhplddjopnaaPackBoth
set_option linter.unusedVariables false
set_option linter.unusedSimpArgs false
namespace Go.Proofs.Ytnkkhplddjopnaa
open Go.RowKit
theorem askA_stuck (xs : List UInt8) (p e : Nat) (k n : Int) (he : e ≠ 0) : askA xs p e k n = (0, ⟨#[]⟩, p, e) := by
  have h1 : ∀ j, rawA xs p e j = ([], p, e) := fun j => by unfold rawA; rw [if_pos he]
  have h2 : varA xs p e = (0, p, e) := by unfold varA; rw [if_pos he]
  have h3 : ∀ m, textA xs p e m = (⟨#[]⟩, p, e) := fun j => by unfold textA; rw [if_pos he]
  have h4 : byteA xs p e = (0, p, e) := by unfold byteA; rw [h1]; rfl
  have h5 : wordA xs p e = (0, p, e) := by unfold wordA; rw [h1]; rfl
  have h6 : ∀ j, failA e j = e := fun j => by unfold failA; rw [if_neg he]
  unfold askA
  rw [h1, h2, h3, h4, h5, h6]
  simp only [zag0]
  repeat' split
  all_goals rfl
set_option maxRecDepth 100000 in
set_option maxHeartbeats 4000000 in
theorem packSticks_walk (A0 : Option Addr) (n0 c0 : Nat) (x0 : List UInt8) (first : Int) (A : Option Addr) (n c : Nat) (l : List (Int × Int)) (w : World)
    (hr0 : Reads w w.heap.size 1 A0 n0 (u8s x0)) (hl0 : n0 ≤ c0) (hc0 : c0 ≤ maxLen) (hf1 : -9223372036854775808 ≤ first) (hf2 : first ≤ 9223372036854775807)
    (hr : Reads w w.heap.size 2 A n (aks l)) (hl : n ≤ c) (hc : c ≤ maxLen) (hok : AkOk l) :
    Calls Try.prog 5 #[.slice A0 n0 c0, .int .i64 first, .slice A n c] w fun e w' => e = .returned (.bool true) ∧ Below w.heap.size w w' := by
  obtain ⟨base, hbase⟩ : ∃ g, g = w.heap.size := ⟨_, rfl⟩
  have Hz := Lib.hid (Nat.le_of_eq hbase)
  obtain ⟨m, hm⟩ : ∃ m, min n0 300 = m := ⟨_, rfl⟩
  have hmI : min (n0 : Int) 300 = (m : Int) := by omega
  have hm0 : m ≤ n0 := by omega
  have hmc : m ≤ c0 := by omega
  have hm300 : m ≤ 300 := by omega
  have hh := hr0.head hm0
  rw [Nat.mul_one, u8s_take] at hh
  generalize x0.take m = xs at hh
  have hxl := reads_len hh
  have Hxl := Lib.hid (show xs.length ≤ 1099511627776 by omega)
  have Hnew := Lib.hid (pnew_any A0 m c0 xs w hh (by omega))
  have Hok := Lib.hid hok
  obtain ⟨b5, hb5⟩ : ∃ b5, first % 5 = b5 := ⟨_, rfl⟩
  obtain ⟨b6, hb6⟩ : ∃ b6 : Nat, first % 6 = (b6 : Int) := ⟨(first % 6).toNat, by omega⟩
  have Hb5 := Lib.hid (bring_any first 5 · hf1 hf2 (by decide) (by decide))
  have Hb6 := Lib.hid (bring_any first 6 · hf1 hf2 (by decide) (by decide))
  have H56 := Lib.hid (And.intro hb5 hb6)
  have hb6l : b6 ≤ 5 := by omega
  rw [← hbase] at hr ⊢
  have Hr := Lib.hid hr
  clear hm hh hxl hr0 hok hr hm300 hb5 hb6 hf1 hf2
  go_enter Try.func5, Try.ntmps5
  go_wp2_with fail
  with_reducible refine (Hnew.out).mono ?_
  rintro e w1 ⟨g, rfl, hg, hp, hb1⟩
  rw [← hbase] at hg hb1
  have hs1 := Nat.le_trans Hz.out hb1.size
  have Hb1 := Lib.hid hb1
  clear hbase Hnew hb1
  go_wp2_with fail
  with_reducible refine (Hb5.out _).mono ?_
  rintro e w' ⟨rfl, rfl⟩
  rw [H56.out.1]
  have hraw := praw_any g xs 0 0 b5 w1 hp Hxl.out
  unfold RawP at hraw
  generalize rawA xs 0 0 b5 = r at hraw
  obtain ⟨rl, p, ez⟩ := r
  have Hraw := Lib.hid hraw
  clear hraw hp
  go_wp2_with fail
  with_reducible refine (Hraw.out).mono ?_
  rintro e w2 ⟨A2, c2, rfl, j1, j2, o2, hg2, hp2⟩
  have hb2 := Hb1.out.trans (grown_under hg2 hs1 hg)
  clear o2 Hraw hg2 j1 j2
  by_cases he : ez = 0
  · subst he
    have hE : failA 0 (b6 + 1) = b6 + 1 := rfl
    have hEI : 1 + (b6 : Int) = ((b6 + 1 : Nat) : Int) := by omega
    have hE0 : b6 + 1 ≠ 0 := by omega
    generalize b6 + 1 = E at hE hEI hE0
    have He := Lib.hid hE0
    have HE := Lib.hid hE
    clear hE hE0
    go_wp2_with fail
    with_reducible refine (perr_any g xs p 0 _ hp2).mono ?_
    rintro e w' ⟨rfl, rfl⟩
    go_wp2_with fail
    with_reducible refine (Hb6.out _).mono ?_
    rintro e w' ⟨rfl, rfl⟩
    rw [H56.out.2]
    have hs2 := Nat.le_trans Hz.out hb2.size
    go_wp2_with fail
    with_reducible refine (pfail_any g xs p 0 E _ hp2).mono ?_
    rintro e w3 hw
    obtain ⟨rfl, hg3, hp3⟩ := hw
    rw [HE.out] at hp3
    have hb3 := hb2.trans (grown_under hg3 hs2 hg)
    clear hg3 hp2 hb2 Hb6 Hb5 H56 hb6l hEI
    go_wp2_with fail
    with_reducible refine (pat_any g xs p E _ hp3).mono ?_
    rintro e w' ⟨rfl, rfl⟩
    go_wp2_with fail
    with_reducible refine (pleft_any g xs p E _ hp3).mono ?_
    rintro e w' ⟨rfl, rfl⟩
    have hlen : xs.length - p ≤ 9223372036854775807 := by have := Hxl.out; omega
    obtain ⟨q, hq⟩ : ∃ q, xs.length - p = q := ⟨_, rfl⟩
    have Hq := Lib.hid hq
    rw [hq] at hlen ⊢
    clear hq
    go_wp2
    go_loopw [11] (fun i wr => ∃ (k : Nat), k ≤ n ∧ k ≤ 40 ∧ i = .int .i64 (k : Int) ∧ PRd wr g xs p E ∧ Below base w wr) (fun i _ => n - (intOf i).toNat)
    case atStart => exact ⟨0, Nat.zero_le _, Nat.zero_le _, rfl, hp3, hb3⟩
    case round =>
      clear hp3 hb3
      obtain ⟨k, hk, hk40, rfl, hp, hb⟩ := hrel
      by_cases hlt : k < n
      · have d1 : decide ((k : Int) < (n : Int)) = true := by simp; omega
        by_cases hlt4 : k < 40
        · have d2 : decide ((k : Int) < 40) = true := by simp; omega
          have hsz := Nat.le_trans Hz.out hb.size
          obtain ⟨ad, ⟨kind, num⟩, rfl, had, hlk, hcell⟩ := aks_at (Hr.out.below hb) hlt
          obtain ⟨o1, o2, o3, o4⟩ := Hok.out _ (List.mem_of_getElem? hlk)
          simp only [] at o1 o2 o3 o4 hcell
          have e0 := hcell 0 _ rfl
          have e1 := hcell 1 _ rfl
          rw [add_zero3] at e0
          rw [add_pos3 _ _ (by decide)] at e1
          have hc1 := pasked_any g xs p E kind num wr hp Hxl.out o1 o2 o3 o4
          rw [askA_stuck xs p E _ _ He.out] at hc1
          have Hc1 := Lib.hid hc1
          have Hb := Lib.hid hb
          clear hc1 hb hp hlk hcell o1 o2 o3 o4
          go_wp2_with fail
          with_reducible refine Hc1.out.mono ?_
          rintro e w5 ⟨rfl, hg5, hp5⟩
          have hb5 := Lib.hid (Hb.out.trans (grown_under hg5 hsz hg))
          have Hp5 := Lib.hid hp5
          clear hg5 hp5 Hc1 Hb e0 e1
          go_wp2_with fail
          with_reducible refine (perr_any g xs p E _ Hp5.out).mono ?_
          rintro e w' ⟨rfl, rfl⟩
          go_wp2_with fail
          with_reducible refine (pat_any g xs p E _ Hp5.out).mono ?_
          rintro e w' ⟨rfl, rfl⟩
          go_wp2_with fail
          with_reducible refine (pleft_any g xs p E _ Hp5.out).mono ?_
          rw [Hq.out]
          rintro e w' ⟨rfl, rfl⟩
          go_wp2_with fail
          with_reducible refine (pend_any g xs p E _ Hp5.out).mono ?_
          rw [show endE (xs.length - p) E = E from if_neg (fun h => He.out h.1)]
          rintro e w' ⟨rfl, rfl⟩
          go_wp2
          go_roundw
          case rel => exact ⟨k + 1, by omega, by omega, by go_num, Hp5.out, hb5.out⟩
          case measure => simp [intOf]; omega
        · have d2 : decide ((k : Int) < 40) = false := by simp; omega
          clear hp
          have Hb := Lib.hid hb
          have hsz := Nat.le_trans Hz.out hb.size
          clear hb
          go_wp2_with fail
          with_reducible refine (works_any _).mono ?_
          rintro e w7 ⟨rfl, hb7⟩
          go_wp2
          go_ret
          exact ⟨rfl, Hb.out.trans (hb7.mono hsz)⟩
      · have d1 : decide ((k : Int) < (n : Int)) = false := by simp; omega
        clear hp
        have Hb := Lib.hid hb
        have hsz := Nat.le_trans Hz.out hb.size
        clear hb
        go_wp2_with fail
        with_reducible refine (works_any _).mono ?_
        rintro e w7 ⟨rfl, hb7⟩
        go_wp2
        go_ret
        exact ⟨rfl, Hb.out.trans (hb7.mono hsz)⟩
  · have hn1 : ((ez : Int) == 0) = false := by simp; omega
    have He := Lib.hid he
    clear he
    go_wp2_with fail
    with_reducible refine (perr_any g xs p ez _ hp2).mono ?_
    rintro e w' ⟨rfl, rfl⟩
    have hp3 := hp2
    have hb3 := hb2
    clear hp2 hb2
    go_wp2_with fail
    with_reducible refine (pat_any g xs p ez _ hp3).mono ?_
    rintro e w' ⟨rfl, rfl⟩
    go_wp2_with fail
    with_reducible refine (pleft_any g xs p ez _ hp3).mono ?_
    rintro e w' ⟨rfl, rfl⟩
    have hlen : xs.length - p ≤ 9223372036854775807 := by have := Hxl.out; omega
    obtain ⟨q, hq⟩ : ∃ q, xs.length - p = q := ⟨_, rfl⟩
    have Hq := Lib.hid hq
    rw [hq] at hlen ⊢
    clear hq
    go_wp2
    go_loopw [11] (fun i wr => ∃ (k : Nat), k ≤ n ∧ k ≤ 40 ∧ i = .int .i64 (k : Int) ∧ PRd wr g xs p ez ∧ Below base w wr) (fun i _ => n - (intOf i).toNat)
    case atStart => exact ⟨0, Nat.zero_le _, Nat.zero_le _, rfl, hp3, hb3⟩
    case round =>
      clear hp3 hb3
      obtain ⟨k, hk, hk40, rfl, hp, hb⟩ := hrel
      by_cases hlt : k < n
      · have d1 : decide ((k : Int) < (n : Int)) = true := by simp; omega
        by_cases hlt4 : k < 40
        · have d2 : decide ((k : Int) < 40) = true := by simp; omega
          have hsz := Nat.le_trans Hz.out hb.size
          obtain ⟨ad, ⟨kind, num⟩, rfl, had, hlk, hcell⟩ := aks_at (Hr.out.below hb) hlt
          obtain ⟨o1, o2, o3, o4⟩ := Hok.out _ (List.mem_of_getElem? hlk)
          simp only [] at o1 o2 o3 o4 hcell
          have e0 := hcell 0 _ rfl
          have e1 := hcell 1 _ rfl
          rw [add_zero3] at e0
          rw [add_pos3 _ _ (by decide)] at e1
          have hc1 := pasked_any g xs p ez kind num wr hp Hxl.out o1 o2 o3 o4
          rw [askA_stuck xs p ez _ _ He.out] at hc1
          have Hc1 := Lib.hid hc1
          have Hb := Lib.hid hb
          clear hc1 hb hp hlk hcell o1 o2 o3 o4
          go_wp2_with fail
          with_reducible refine Hc1.out.mono ?_
          rintro e w5 ⟨rfl, hg5, hp5⟩
          have hb5 := Lib.hid (Hb.out.trans (grown_under hg5 hsz hg))
          have Hp5 := Lib.hid hp5
          clear hg5 hp5 Hc1 Hb e0 e1
          go_wp2_with fail
          with_reducible refine (perr_any g xs p ez _ Hp5.out).mono ?_
          rintro e w' ⟨rfl, rfl⟩
          go_wp2_with fail
          with_reducible refine (pat_any g xs p ez _ Hp5.out).mono ?_
          rintro e w' ⟨rfl, rfl⟩
          go_wp2_with fail
          with_reducible refine (pleft_any g xs p ez _ Hp5.out).mono ?_
          rw [Hq.out]
          rintro e w' ⟨rfl, rfl⟩
          go_wp2_with fail
          with_reducible refine (pend_any g xs p ez _ Hp5.out).mono ?_
          rw [show endE (xs.length - p) ez = ez from if_neg (fun h => He.out h.1)]
          rintro e w' ⟨rfl, rfl⟩
          go_wp2
          go_roundw
          case rel => exact ⟨k + 1, by omega, by omega, by go_num, Hp5.out, hb5.out⟩
          case measure => simp [intOf]; omega
        · have d2 : decide ((k : Int) < 40) = false := by simp; omega
          clear hp
          have Hb := Lib.hid hb
          have hsz := Nat.le_trans Hz.out hb.size
          clear hb
          go_wp2_with fail
          with_reducible refine (works_any _).mono ?_
          rintro e w7 ⟨rfl, hb7⟩
          go_wp2
          go_ret
          exact ⟨rfl, Hb.out.trans (hb7.mono hsz)⟩
      · have d1 : decide ((k : Int) < (n : Int)) = false := by simp; omega
        clear hp
        have Hb := Lib.hid hb
        have hsz := Nat.le_trans Hz.out hb.size
        clear hb
        go_wp2_with fail
        with_reducible refine (works_any _).mono ?_
        rintro e w7 ⟨rfl, hb7⟩
        go_wp2
        go_ret
        exact ⟨rfl, Hb.out.trans (hb7.mono hsz)⟩
end Go.Proofs.Ytnkkhplddjopnaa
