/- The law PackFull, walked. -/
import Derived.Test.YtnkkhplddjopnaaPackBoth
import Derived.Test.YtnkkhplddjopnaaPackWrites
set_option linter.unusedVariables false
set_option linter.unusedSimpArgs false
namespace Go.Proofs.Ytnkkhplddjopnaa
open Go.RowKit
theorem rawB_fit {B b : List UInt8} {m : Int} (h : (B.length : Int) + (b.length : Int) ≤ m) : rawB B m false b = (B ++ b, false) := by
  unfold rawB
  rw [if_neg (by simp; omega)]
theorem rawB_more {B b : List UInt8} {m : Int} (h : m < (B.length : Int) + (b.length : Int)) : rawB B m false b = (B, true) := by
  unfold rawB
  rw [if_pos (.inr (by omega))]
theorem rawB_on {B b : List UInt8} {m : Int} : rawB B m true b = (B, true) := by
  unfold rawB
  rw [if_pos (.inl rfl)]
/-- One writer, its row hidden. -/
def PW1 (w : World) (base g : Nat) (B : List UInt8) (m : Int) (f : Bool) : Prop := ∃ r, PWr w base g r B m f
theorem PW1.on {w w' : World} {base g : Nat} {B : List UInt8} {m : Int} {f : Bool} (h : PW1 w base g B m f) (hb : Below w.heap.size w w') : PW1 w' base g B m f := by
  obtain ⟨r, h⟩ := h
  exact ⟨r, h.on hb⟩
theorem PW1.put {w w' : World} {base g : Nat} {r : Option Nat} {B b : List UInt8} {m : Int} {f : Bool} {e : Ending} (h : PWr w base g r B m f) (hw : Wr base g r B m f b w e w') (hb : base ≤ w.heap.size) :
    e = .returned (.tuple #[]) ∧ Below base w w' ∧ PW1 w' base g (rawB B m f b).1 m (rawB B m f b).2 := by
  obtain ⟨h1, h2, h3⟩ := hw.next h hb rfl
  exact ⟨h1, h2, h3⟩
set_option maxRecDepth 100000 in
set_option maxHeartbeats 4000000 in
theorem packFull_walk (most : Int) (A : Option Addr) (n c : Nat) (l : List Pc) (w : World) (h1 : -9223372036854775808 ≤ most) (h2 : most ≤ 9223372036854775807)
    (hr : Reads w w.heap.size 3 A n (pcs l)) (hl : n ≤ c) (hc : c ≤ maxLen) (hok : PcOk l) :
    Calls Try.prog 7 #[.int .i64 most, .slice A n c] w fun e w' => e = .returned (.bool true) ∧ Below w.heap.size w w' := by
  obtain ⟨base, hbase⟩ : ∃ g, g = w.heap.size := ⟨_, rfl⟩
  have Hz := Lib.hid (Nat.le_of_eq hbase)
  obtain ⟨m, hm⟩ : ∃ m, max most 0 = m := ⟨_, rfl⟩
  have Hm1 := Lib.hid (show 0 ≤ m by omega)
  have Hm2 := Lib.hid (show m ≤ 9223372036854775807 by omega)
  have h0 : Calls Try.prog 11 #[.int .i64 most] w fun e w' => e = .returned (.pointer (some ⟨base, 0, none⟩)) ∧ PWr w' base base none [] m false ∧ Below base w w' ∧ base < w'.heap.size := by
    subst hbase hm
    exact newW_any most w h1 h2
  rw [← hbase] at hr ⊢
  have Hr := Lib.hid hr
  have Hok := Lib.hid hok
  go_enter Try.func7, Try.ntmps7
  go_wp2_with fail
  with_reducible refine (h0).mono ?_
  rintro e w1 ⟨rfl, hp, hb, hs⟩
  have HP : PW1 w1 base base [] m false := ⟨none, hp⟩
  clear h0 hbase hr hok hp hs h1 h2
  go_wp2
  go_loopw [6, 7, 8] (fun a h i wr => ∃ (k al : Nat) (B : List UInt8) (f : Bool), k ≤ n ∧ k ≤ 40 ∧ i = .int .i64 (k : Int) ∧ a = .int .i64 (al : Int) ∧ h = .int .i64 (B.length : Int) ∧ PW1 wr base base B m f ∧ Below base w wr ∧ B.length ≤ 60 * k ∧ al ≤ 60 * k ∧ (f = false → al = B.length ∧ (al : Int) ≤ m) ∧ (f = true → m < (al : Int))) (fun a h i _ => n - (intOf i).toNat)
  case atStart => exact ⟨0, 0, [], false, Nat.zero_le _, Nat.zero_le _, rfl, rfl, rfl, HP, hb, Nat.le_refl _, Nat.le_refl _, fun _ => ⟨rfl, Hm1.out⟩, fun h => by cases h⟩
  case round =>
    clear HP hb
    obtain ⟨k, al, B, f, hk, hk40, rfl, rfl, rfl, HP, hb, hBl, hal, hf0, hf1⟩ := hrel
    have Hf0 := Lib.hid hf0
    have Hf1 := Lib.hid hf1
    by_cases hlt : k < n
    · have d1 : decide ((k : Int) < (n : Int)) = true := by simp; omega
      by_cases hlt4 : k < 40
      · have d2 : decide ((k : Int) < 40) = true := by simp; omega
        have hsz := Nat.le_trans Hz.out hb.size
        obtain ⟨ad, ⟨kind, num, s⟩, rfl, had, hlk, hcell⟩ := pcs_at (Hr.out.below hb) hlt
        obtain ⟨o1, o2, o3, o4⟩ := Hok.out _ (List.mem_of_getElem? hlk)
        simp only [] at o1 o2 o3 o4 hcell
        have e0 := hcell 0 _ rfl
        have e1 := hcell 1 _ rfl
        have e2 := hcell 2 _ rfl
        rw [add_zero3] at e0
        rw [add_pos3 _ _ (by decide)] at e1 e2
        have hmul : 60 * k ≤ 2400 := by omega
        have Hb := Lib.hid hb
        obtain ⟨r, hp⟩ := HP
        have hpl := pieceB_le (kind % 6) num s
        have Hpl := Lib.hid hpl
        have hsize := psize_any kind num s
        have Hsize := Lib.hid hsize
        clear hlk hcell hf0 hf1 hb hsize hpl
        go_wp2_with fail
        with_reducible refine (pwput_any base base r B m f kind num s _ hp Hm1.out Hm2.out o1 o2 o3 o4 (by omega)).mono ?_
        rintro e w3 hw
        obtain ⟨rfl, hb3, HP⟩ := PW1.put hp hw hsz
        clear hw hp
        replace e0 := (hb3.cell (p := ad.add (k * 3)) (by rw [block_of_add]; exact had)).trans e0
        replace e1 := (hb3.cell (p := ⟨(ad.add (k * 3)).block, (ad.add (k * 3)).off + 1, none⟩) (by show (ad.add (k * 3)).block < base; rw [block_of_add]; exact had)).trans e1
        replace e2 := (hb3.cell (p := ⟨(ad.add (k * 3)).block, (ad.add (k * 3)).off + 2, none⟩) (by show (ad.add (k * 3)).block < base; rw [block_of_add]; exact had)).trans e2
        have hb := Lib.hid (Hb.out.trans hb3)
        have hsz3 := Nat.le_trans hsz hb3.size
        clear hb3 Hb hsz
        cases f with
        | true =>
          have hal1 := Hf1.out rfl
          rw [rawB_on] at HP
          have HP2 := Lib.hid HP
          have d3 : decide ((al : Int) ≤ m) = false := by simp; omega
          clear HP e0 e1 e2
          go_wp2
          go_roundw
          case rel => exact ⟨k + 1, al, B, true, by omega, by omega, by go_num, rfl, rfl, HP2.out, hb.out, by omega, by omega, (fun h => by cases h), fun _ => by first | trivial | exact Hf1.out rfl⟩
          case measure => simp [intOf]; omega
        | false =>
          obtain ⟨hal1, hal2⟩ := Hf0.out rfl
          have d3 : decide ((al : Int) ≤ m) = true := by simp; omega
          have hsum : (al : Int) + ((pieceB (kind % 6) num s).length : Int) = ((al + (pieceB (kind % 6) num s).length : Nat) : Int) := by omega
          have Hs2 := Lib.hid (Hsize.out w3 o1 o2 o3 o4)
          have hpl := Hpl.out
          obtain ⟨a2, ha2⟩ : ∃ a2, al + (pieceB (kind % 6) num s).length = a2 := ⟨_, rfl⟩
          rw [ha2] at hsum
          have Hal := Lib.hid hal1
          have Ha2 := Lib.hid ha2
          have ha2b : a2 ≤ 60 * k + 60 := by omega
          clear hal1 ha2 hpl
          go_wp2_with fail
          with_reducible refine Hs2.out.mono ?_
          rintro e w4 ⟨rfl, hb4⟩
          have hb5 := Lib.hid (hb.out.trans (hb4.mono hsz3))
          have HP2 := Lib.hid (HP.on hb4)
          clear HP hb4
          by_cases hfit : (a2 : Int) ≤ m
          · have d4 : decide ((a2 : Int) ≤ m) = true := by simp; omega
            have h9 := HP2.out
            rw [rawB_fit (by have := Ha2.out; have := Hal.out; omega)] at h9
            simp only [] at h9
            have H9 := Lib.hid h9
            have hlen : ((B ++ pieceB (kind % 6) num s).length) = a2 := by rw [List.length_append]; have := Ha2.out; have := Hal.out; omega
            have Hlen := Lib.hid hlen
            clear h9 hlen HP2 e0 e1 e2 hfit
            go_wp2
            go_roundw
            case rel => exact ⟨k + 1, a2, _, false, by omega, by omega, by go_num, by go_num, by rw [Hlen.out], H9.out, hb5.out, by rw [Hlen.out]; omega, by omega, (fun _ => ⟨Hlen.out.symm, by first | trivial | simpa using d4⟩), fun h => by cases h⟩
            case measure => simp [intOf]; omega
          · have d4 : decide ((a2 : Int) ≤ m) = false := by simp; omega
            have h9 := HP2.out
            rw [rawB_more (by have := Ha2.out; have := Hal.out; omega)] at h9
            simp only [] at h9
            have H9 := Lib.hid h9
            clear h9 HP2 e0 e1 e2 hfit
            go_wp2
            go_roundw
            case rel => exact ⟨k + 1, a2, B, true, by omega, by omega, by go_num, by go_num, rfl, H9.out, hb5.out, by omega, by omega, (fun h => by cases h), fun _ => by first | trivial | simpa using d4⟩
            case measure => simp [intOf]; omega
      · have d2 : decide ((k : Int) < 40) = false := by simp; omega
        clear Hf0 Hf1
        have Hb := Lib.hid hb
        have hsz := Nat.le_trans Hz.out hb.size
        clear hb
        obtain ⟨r, hp⟩ := HP
        go_wp2_with fail
        with_reducible refine (wdone_any base base r B m f _ hp (by omega)).mono ?_
        rintro e w5 hd
        obtain ⟨ya, ea, Aa, ca, rfl, oa, hb5, hya, hea⟩ := hd.uni
        replace hp := hp.on hb5
        have hb6 := Lib.hid (Hb.out.trans (hb5.mono hsz))
        clear hd oa hb5 Hb
        cases f with
        | false =>
          obtain ⟨hal1, hal2⟩ := hf0 rfl
          replace hya : ya = B := hya
          replace hea : ea = 0 := hea
          subst hya hea hal1
          have d3 : decide (m < (ya.length : Int)) = false := by simp; omega
          clear hf0 hf1 hal2
          go_wp2_with fail
          with_reducible refine (wlen_any base base r ya m false _ hp).mono ?_
          rintro e w' ⟨rfl, rfl⟩
          go_wp2_with fail
          with_reducible refine (works_any _).mono ?_
          rintro e w7 ⟨rfl, hb7⟩
          go_wp2
          go_ret
          exact ⟨rfl, hb6.out.trans (hb7.mono (Nat.le_trans Hz.out hb6.out.size))⟩
        | true =>
          have hal := hf1 rfl
          replace hya : ya = [] := hya
          replace hea : ea = 5 := hea
          subst hya hea
          have d3 : decide (m < (al : Int)) = true := by simp; omega
          clear hf0 hf1 hal
          go_wp2_with fail
          with_reducible refine (wlen_any base base r B m true _ hp).mono ?_
          rintro e w' ⟨rfl, rfl⟩
          go_wp2_with fail
          with_reducible refine (works_any _).mono ?_
          rintro e w7 ⟨rfl, hb7⟩
          go_wp2
          go_ret
          exact ⟨rfl, hb6.out.trans (hb7.mono (Nat.le_trans Hz.out hb6.out.size))⟩
    · have d1 : decide ((k : Int) < (n : Int)) = false := by simp; omega
      clear Hf0 Hf1
      have Hb := Lib.hid hb
      have hsz := Nat.le_trans Hz.out hb.size
      clear hb
      obtain ⟨r, hp⟩ := HP
      go_wp2_with fail
      with_reducible refine (wdone_any base base r B m f _ hp (by omega)).mono ?_
      rintro e w5 hd
      obtain ⟨ya, ea, Aa, ca, rfl, oa, hb5, hya, hea⟩ := hd.uni
      replace hp := hp.on hb5
      have hb6 := Lib.hid (Hb.out.trans (hb5.mono hsz))
      clear hd oa hb5 Hb
      cases f with
      | false =>
        obtain ⟨hal1, hal2⟩ := hf0 rfl
        replace hya : ya = B := hya
        replace hea : ea = 0 := hea
        subst hya hea hal1
        have d3 : decide (m < (ya.length : Int)) = false := by simp; omega
        clear hf0 hf1 hal2
        go_wp2_with fail
        with_reducible refine (wlen_any base base r ya m false _ hp).mono ?_
        rintro e w' ⟨rfl, rfl⟩
        go_wp2_with fail
        with_reducible refine (works_any _).mono ?_
        rintro e w7 ⟨rfl, hb7⟩
        go_wp2
        go_ret
        exact ⟨rfl, hb6.out.trans (hb7.mono (Nat.le_trans Hz.out hb6.out.size))⟩
      | true =>
        have hal := hf1 rfl
        replace hya : ya = [] := hya
        replace hea : ea = 5 := hea
        subst hya hea
        have d3 : decide (m < (al : Int)) = true := by simp; omega
        clear hf0 hf1 hal
        go_wp2_with fail
        with_reducible refine (wlen_any base base r B m true _ hp).mono ?_
        rintro e w' ⟨rfl, rfl⟩
        go_wp2_with fail
        with_reducible refine (works_any _).mono ?_
        rintro e w7 ⟨rfl, hb7⟩
        go_wp2
        go_ret
        exact ⟨rfl, hb6.out.trans (hb7.mono (Nat.le_trans Hz.out hb6.out.size))⟩
end Go.Proofs.Ytnkkhplddjopnaa
