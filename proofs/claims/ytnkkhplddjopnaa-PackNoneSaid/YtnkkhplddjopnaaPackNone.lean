/- The law PackNone, walked. -/
import Derived.Test.YtnkkhplddjopnaaPackNil
set_option linter.unusedVariables false
set_option linter.unusedSimpArgs false
namespace Go.Proofs.Ytnkkhplddjopnaa
open Go.RowKit
structure NState (base : Nat) (w wr : World) (u5 u6 : Value) : Prop where
  w_ : WNone wr u5
  r_ : RNone wr u6
  b_ : Below base w wr
theorem NState.on {base : Nat} {w w1 w2 : World} {u5 u6 : Value} (h : NState base w w1 u5 u6) (hz : base ≤ w.heap.size) (hb : Below w1.heap.size w1 w2) : NState base w w2 u5 u6 :=
  ⟨h.w_.on hb, h.r_.on hb, h.b_.trans (hb.mono (Nat.le_trans hz h.b_.size))⟩
set_option maxRecDepth 100000 in
set_option maxHeartbeats 8000000 in
theorem packNone_walk (A : Option Addr) (n c : Nat) (l : List Pc) (A2 : Option Addr) (m c2 : Nat) (l2 : List (Int × Int)) (w : World)
    (hr : Reads w w.heap.size 3 A n (pcs l)) (hl : n ≤ c) (hc : c ≤ maxLen) (hok : PcOk l) (hr2 : Reads w w.heap.size 2 A2 m (aks l2)) (hl2 : m ≤ c2) (hc2 : c2 ≤ maxLen) (hok2 : AkOk l2) :
    Calls Try.prog 6 #[.slice A n c, .slice A2 m c2] w fun e w' => e = .returned (.bool true) ∧ Below w.heap.size w w' := by
  obtain ⟨base, hbase⟩ : ∃ g, g = w.heap.size := ⟨_, rfl⟩
  have Hz := Lib.hid (Nat.le_of_eq hbase)
  rw [← hbase] at hr hr2 ⊢
  have Hr := Lib.hid hr
  have Hok := Lib.hid hok
  have Hr2 := Lib.hid hr2
  have Hok2 := Lib.hid hok2
  clear hr hok hr2 hok2 hbase
  go_enter Try.func6, Try.ntmps6
  go_wp2
  go_loopw [5, 6, 7] (fun u5 u6 t wr => ∃ (k : Nat), k ≤ 2 ∧ t = .int .i64 (k : Int) ∧ NState base w wr u5 u6) (fun u5 u6 t _ => 2 - (intOf t).toNat)
  case atStart => exact ⟨0, by decide, rfl, .inl rfl, .inl rfl, Below.refl _ _⟩
  case round =>
    obtain ⟨t, ht, rfl, HS⟩ := hrel
    by_cases ht2 : t < 2
    · have d0 : decide ((t : Int) < 2) = true := by simp; omega
      go_wp2
      go_loopw [8] (fun i wr => ∃ (k : Nat), k ≤ n ∧ k ≤ 40 ∧ i = .int .i64 (k : Int) ∧ NState base w wr u5 u6) (fun i _ => n - (intOf i).toNat)
      case atStart => exact ⟨0, Nat.zero_le _, Nat.zero_le _, rfl, HS⟩
      case round =>
        clear HS
        obtain ⟨k, hk, hk40, rfl, HS⟩ := hrel
        by_cases hlt : k < n
        · have d1 : decide ((k : Int) < (n : Int)) = true := by simp; omega
          by_cases hlt4 : k < 40
          · have d2 : decide ((k : Int) < 40) = true := by simp; omega
            have hsz := Nat.le_trans Hz.out HS.b_.size
            obtain ⟨ad, ⟨kind, num, s⟩, rfl, had, hlk, hcell⟩ := pcs_at (Hr.out.below HS.b_) hlt
            obtain ⟨o1, o2, o3, o4⟩ := Hok.out _ (List.mem_of_getElem? hlk)
            simp only [] at o1 o2 o3 o4 hcell
            have e0 := hcell 0 _ rfl
            have e1 := hcell 1 _ rfl
            have e2 := hcell 2 _ rfl
            rw [add_zero3] at e0
            rw [add_pos3 _ _ (by decide)] at e1 e2
            have HS2 := Lib.hid HS
            clear HS hlk hcell
            go_wp2_with fail
            with_reducible refine (put_none u5 kind num s _ HS2.out.w_ o1 o2 o3 o4).mono ?_
            rintro e w5 ⟨rfl, hb5⟩
            have HS3 := Lib.hid (HS2.out.on Hz.out hb5)
            clear hb5 e0 e1 e2
            go_wp2
            go_roundw
            case rel => exact ⟨k + 1, by omega, by omega, by go_num, HS3.out⟩
            case measure => simp [intOf]; omega
          · have d2 : decide ((k : Int) < 40) = false := by simp; omega
            go_wp2
            go_loopw [9] (fun i wr => ∃ (k : Nat), k ≤ m ∧ k ≤ 40 ∧ i = .int .i64 (k : Int) ∧ NState base w wr u5 u6) (fun i _ => m - (intOf i).toNat)
            case atStart => exact ⟨0, Nat.zero_le _, Nat.zero_le _, rfl, HS⟩
            case round =>
              clear HS
              obtain ⟨k, hk, hk40, rfl, HS⟩ := hrel
              by_cases hlt : k < m
              · have d1 : decide ((k : Int) < (m : Int)) = true := by simp; omega
                by_cases hlt4 : k < 40
                · have d2 : decide ((k : Int) < 40) = true := by simp; omega
                  have hsz := Nat.le_trans Hz.out HS.b_.size
                  obtain ⟨ad, ⟨kind, num⟩, rfl, had, hlk, hcell⟩ := aks_at (Hr2.out.below HS.b_) hlt
                  obtain ⟨o1, o2, o3, o4⟩ := Hok2.out _ (List.mem_of_getElem? hlk)
                  simp only [] at o1 o2 o3 o4 hcell
                  have e0 := hcell 0 _ rfl
                  have e1 := hcell 1 _ rfl
                  rw [add_zero3] at e0
                  rw [add_pos3 _ _ (by decide)] at e1
                  have HS2 := Lib.hid HS
                  clear HS hlk hcell
                  go_wp2_with fail
                  with_reducible refine (asked_none u6 kind num _ HS2.out.r_ o1 o2 o3 o4).mono ?_
                  rintro e w5 ⟨rfl, hb5⟩
                  have HS3 := Lib.hid (HS2.out.on Hz.out hb5)
                  clear hb5 e0 e1
                  go_wp2
                  go_roundw
                  case rel => exact ⟨k + 1, by omega, by omega, by go_num, HS3.out⟩
                  case measure => simp [intOf]; omega
                · have d2 : decide ((k : Int) < 40) = false := by simp; omega
                  have HS2 := Lib.hid HS
                  clear HS
                  go_wp2_with fail
                  with_reducible refine (wdone_none _ _ HS2.out.w_).mono ?_
                  rintro e w' ⟨rfl, rfl⟩
                  go_wp2_with fail
                  with_reducible refine (wlen_none _ _ HS2.out.w_).mono ?_
                  rintro e w' ⟨rfl, rfl⟩
                  go_wp2_with fail
                  with_reducible refine (perr_none _ _ HS2.out.r_).mono ?_
                  rintro e w' ⟨rfl, rfl⟩
                  go_wp2_with fail
                  with_reducible refine (pend_none _ _ HS2.out.r_).mono ?_
                  rintro e w6 ⟨rfl, hb6⟩
                  have HS3 := Lib.hid (HS2.out.on Hz.out hb6)
                  clear hb6
                  go_wp2_with fail
                  with_reducible refine (pat_none _ _ HS3.out.r_).mono ?_
                  rintro e w' ⟨rfl, rfl⟩
                  go_wp2_with fail
                  with_reducible refine (pleft_none _ _ HS3.out.r_).mono ?_
                  rintro e w' ⟨rfl, rfl⟩
                  have hsz := Nat.le_trans Hz.out HS3.out.b_.size
                  go_wp2
                  go_roundw
                  case rel =>
                    refine ⟨t + 1, by omega, by go_num, .inr ⟨_, rfl, ?_⟩, .inr ⟨_, rfl, ?_⟩, ?_⟩
                    · exact (Blk.new _ _ _).alloc _
                    · have h := Blk.new (w6.alloc (.cells #[.slice none 0 0, .bool false, .int .i64 0, .bool false] 65)) 67 #[.slice none 0 0, .bool false, .int .i64 0, .int .i64 0]
                      simpa using h
                    · exact ((HS3.out.b_.alloc hsz _).alloc (Nat.le_trans hsz (by simp)) _)
                  case measure => simp [intOf]; omega
              · have d1 : decide ((k : Int) < (m : Int)) = false := by simp; omega
                have HS2 := Lib.hid HS
                clear HS
                go_wp2_with fail
                with_reducible refine (wdone_none _ _ HS2.out.w_).mono ?_
                rintro e w' ⟨rfl, rfl⟩
                go_wp2_with fail
                with_reducible refine (wlen_none _ _ HS2.out.w_).mono ?_
                rintro e w' ⟨rfl, rfl⟩
                go_wp2_with fail
                with_reducible refine (perr_none _ _ HS2.out.r_).mono ?_
                rintro e w' ⟨rfl, rfl⟩
                go_wp2_with fail
                with_reducible refine (pend_none _ _ HS2.out.r_).mono ?_
                rintro e w6 ⟨rfl, hb6⟩
                have HS3 := Lib.hid (HS2.out.on Hz.out hb6)
                clear hb6
                go_wp2_with fail
                with_reducible refine (pat_none _ _ HS3.out.r_).mono ?_
                rintro e w' ⟨rfl, rfl⟩
                go_wp2_with fail
                with_reducible refine (pleft_none _ _ HS3.out.r_).mono ?_
                rintro e w' ⟨rfl, rfl⟩
                have hsz := Nat.le_trans Hz.out HS3.out.b_.size
                go_wp2
                go_roundw
                case rel =>
                  refine ⟨t + 1, by omega, by go_num, .inr ⟨_, rfl, ?_⟩, .inr ⟨_, rfl, ?_⟩, ?_⟩
                  · exact (Blk.new _ _ _).alloc _
                  · have h := Blk.new (w6.alloc (.cells #[.slice none 0 0, .bool false, .int .i64 0, .bool false] 65)) 67 #[.slice none 0 0, .bool false, .int .i64 0, .int .i64 0]
                    simpa using h
                  · exact ((HS3.out.b_.alloc hsz _).alloc (Nat.le_trans hsz (by simp)) _)
                case measure => simp [intOf]; omega
        · have d1 : decide ((k : Int) < (n : Int)) = false := by simp; omega
          go_wp2
          go_loopw [9] (fun i wr => ∃ (k : Nat), k ≤ m ∧ k ≤ 40 ∧ i = .int .i64 (k : Int) ∧ NState base w wr u5 u6) (fun i _ => m - (intOf i).toNat)
          case atStart => exact ⟨0, Nat.zero_le _, Nat.zero_le _, rfl, HS⟩
          case round =>
            clear HS
            obtain ⟨k, hk, hk40, rfl, HS⟩ := hrel
            by_cases hlt : k < m
            · have d1 : decide ((k : Int) < (m : Int)) = true := by simp; omega
              by_cases hlt4 : k < 40
              · have d2 : decide ((k : Int) < 40) = true := by simp; omega
                have hsz := Nat.le_trans Hz.out HS.b_.size
                obtain ⟨ad, ⟨kind, num⟩, rfl, had, hlk, hcell⟩ := aks_at (Hr2.out.below HS.b_) hlt
                obtain ⟨o1, o2, o3, o4⟩ := Hok2.out _ (List.mem_of_getElem? hlk)
                simp only [] at o1 o2 o3 o4 hcell
                have e0 := hcell 0 _ rfl
                have e1 := hcell 1 _ rfl
                rw [add_zero3] at e0
                rw [add_pos3 _ _ (by decide)] at e1
                have HS2 := Lib.hid HS
                clear HS hlk hcell
                go_wp2_with fail
                with_reducible refine (asked_none u6 kind num _ HS2.out.r_ o1 o2 o3 o4).mono ?_
                rintro e w5 ⟨rfl, hb5⟩
                have HS3 := Lib.hid (HS2.out.on Hz.out hb5)
                clear hb5 e0 e1
                go_wp2
                go_roundw
                case rel => exact ⟨k + 1, by omega, by omega, by go_num, HS3.out⟩
                case measure => simp [intOf]; omega
              · have d2 : decide ((k : Int) < 40) = false := by simp; omega
                have HS2 := Lib.hid HS
                clear HS
                go_wp2_with fail
                with_reducible refine (wdone_none _ _ HS2.out.w_).mono ?_
                rintro e w' ⟨rfl, rfl⟩
                go_wp2_with fail
                with_reducible refine (wlen_none _ _ HS2.out.w_).mono ?_
                rintro e w' ⟨rfl, rfl⟩
                go_wp2_with fail
                with_reducible refine (perr_none _ _ HS2.out.r_).mono ?_
                rintro e w' ⟨rfl, rfl⟩
                go_wp2_with fail
                with_reducible refine (pend_none _ _ HS2.out.r_).mono ?_
                rintro e w6 ⟨rfl, hb6⟩
                have HS3 := Lib.hid (HS2.out.on Hz.out hb6)
                clear hb6
                go_wp2_with fail
                with_reducible refine (pat_none _ _ HS3.out.r_).mono ?_
                rintro e w' ⟨rfl, rfl⟩
                go_wp2_with fail
                with_reducible refine (pleft_none _ _ HS3.out.r_).mono ?_
                rintro e w' ⟨rfl, rfl⟩
                have hsz := Nat.le_trans Hz.out HS3.out.b_.size
                go_wp2
                go_roundw
                case rel =>
                  refine ⟨t + 1, by omega, by go_num, .inr ⟨_, rfl, ?_⟩, .inr ⟨_, rfl, ?_⟩, ?_⟩
                  · exact (Blk.new _ _ _).alloc _
                  · have h := Blk.new (w6.alloc (.cells #[.slice none 0 0, .bool false, .int .i64 0, .bool false] 65)) 67 #[.slice none 0 0, .bool false, .int .i64 0, .int .i64 0]
                    simpa using h
                  · exact ((HS3.out.b_.alloc hsz _).alloc (Nat.le_trans hsz (by simp)) _)
                case measure => simp [intOf]; omega
            · have d1 : decide ((k : Int) < (m : Int)) = false := by simp; omega
              have HS2 := Lib.hid HS
              clear HS
              go_wp2_with fail
              with_reducible refine (wdone_none _ _ HS2.out.w_).mono ?_
              rintro e w' ⟨rfl, rfl⟩
              go_wp2_with fail
              with_reducible refine (wlen_none _ _ HS2.out.w_).mono ?_
              rintro e w' ⟨rfl, rfl⟩
              go_wp2_with fail
              with_reducible refine (perr_none _ _ HS2.out.r_).mono ?_
              rintro e w' ⟨rfl, rfl⟩
              go_wp2_with fail
              with_reducible refine (pend_none _ _ HS2.out.r_).mono ?_
              rintro e w6 ⟨rfl, hb6⟩
              have HS3 := Lib.hid (HS2.out.on Hz.out hb6)
              clear hb6
              go_wp2_with fail
              with_reducible refine (pat_none _ _ HS3.out.r_).mono ?_
              rintro e w' ⟨rfl, rfl⟩
              go_wp2_with fail
              with_reducible refine (pleft_none _ _ HS3.out.r_).mono ?_
              rintro e w' ⟨rfl, rfl⟩
              have hsz := Nat.le_trans Hz.out HS3.out.b_.size
              go_wp2
              go_roundw
              case rel =>
                refine ⟨t + 1, by omega, by go_num, .inr ⟨_, rfl, ?_⟩, .inr ⟨_, rfl, ?_⟩, ?_⟩
                · exact (Blk.new _ _ _).alloc _
                · have h := Blk.new (w6.alloc (.cells #[.slice none 0 0, .bool false, .int .i64 0, .bool false] 65)) 67 #[.slice none 0 0, .bool false, .int .i64 0, .int .i64 0]
                  simpa using h
                · exact ((HS3.out.b_.alloc hsz _).alloc (Nat.le_trans hsz (by simp)) _)
              case measure => simp [intOf]; omega
    · have d0 : decide ((t : Int) < 2) = false := by simp; omega
      have HS2 := Lib.hid HS
      clear HS
      go_wp2_with fail
      with_reducible refine (works_any _).mono ?_
      rintro e w7 ⟨rfl, hb7⟩
      go_wp2
      go_ret
      exact ⟨rfl, HS2.out.b_.trans (hb7.mono (Nat.le_trans Hz.out HS2.out.b_.size))⟩
end Go.Proofs.Ytnkkhplddjopnaa
