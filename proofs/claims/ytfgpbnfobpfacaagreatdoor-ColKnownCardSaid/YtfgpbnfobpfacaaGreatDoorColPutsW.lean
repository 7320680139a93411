/- The law ColPuts, walked. -/
import Derived.Test.YtfgpbnfobpfacaaGreatDoorPart21
set_option linter.unusedVariables false
set_option linter.unusedSimpArgs false
namespace Go.Proofs.YtfgpbnfobpfacaaGreatDoor
open Go.RowKit
set_option maxRecDepth 100000 in
set_option maxHeartbeats 2000000 in
theorem colPuts_walk (A : Option Addr) (n c : Nat) (xs : List UInt8) (k : Int) (nl : Bool) (B : Option Addr) (m cb : Nat) (l : List Cl) (w : World) (hr : Reads w w.heap.size 1 A n (u8s xs)) (hn : n ≤ c) (hc : c ≤ maxLen) (hr2 : Reads w w.heap.size 3 B m (cls l)) (hm : m ≤ cb) (hcb : cb ≤ maxLen) (hok : ClOk l) (hT : Tabs w) :
    Calls Tryz.prog 3 #[.slice A n c, .agg #[.int .i64 k, .bool nl], .slice B m cb] w fun e w' => e = .returned (.bool true) ∧ Below w.heap.size w w' := by
  obtain ⟨mn, ys, -, hcast, hm1, hm2, hry0⟩ := cut_head hr 60 60 rfl
  have hry := hry0.al (.cells #[.int .i64 k, .bool nl] 24)
  have hmc : mn ≤ c := by omega
  have hcm : c ≤ 9223372036854775807 := by simp only [maxLen] at hc; omega
  have Hok := Lib.hid hok
  have HT := Lib.hid hT
  have Hm := Lib.hid (Nat.le_trans hm hcb)
  have hbA := (Below.refl w.heap.size w).alloc (Nat.le_refl _) (.cells #[.int .i64 k, .bool nl] 24)
  have B4 := Lib.hid (Blk.new w 24 #[.int .i64 k, .bool nl])
  have hcl := cutC_len l
  clear hok hT hc hcb
  go_enter Tryz.func3, Tryz.ntmps3
  go_wp2_with fail
  with_reducible refine (copyBytes_any A mn _ ys _ hry (by omega)).mono ?_
  rintro e w1 ⟨A1, c1, rfl, hc1, hd1, o1, hb1⟩
  have r1 := own_reads o1
  have hbB : Below w.heap.size w w1 := bon hbA hb1
  go_wp2_with fail
  with_reducible refine (cutC_any B m cb l _ (hr2.on hbB) Hm.out Hok.out).mono ?_
  rintro e w2 ⟨A2, c2, rfl, g1, g2, o2, hb2⟩
  have Hok2 := Lib.hid (cutC_ok l Hok.out)
  generalize hin : cutC l = lc at *
  have Hin := Lib.hid hin
  have r2 := own_reads o2
  have hlc : lc.length ≤ 60 := by omega
  have B5 := Lib.hid ((B4.out.on hb1).on hb2)
  have c40 := B5.out.cell 0
  have c41 := B5.out.cell 1
  clear hin hcl
  go_wp2_with fail
  with_reducible refine (cput_any A1 mn c1 ys k nl A2 lc.length c2 lc _ (r1.on hb2) (by omega) r2 (by omega) Hok2.out (HT.out.on (by repeat (first | exact Below.refl _ _ | assumption | refine bal ?_ _ | refine Below.drew ?_ | refine bon ?_ (by assumption))))).mono ?_
  rintro e w3 ⟨A3, n3, c3, rfl, g3, g4, o3, hb3⟩
  have B6 := Lib.hid (B5.out.on hb3)
  have d40 := B6.out.cell 0
  have d41 := B6.out.cell 1
  have hbC : Below w.heap.size w w3 := by repeat (first | exact Below.refl _ _ | assumption | refine bal ?_ _ | refine Below.drew ?_ | refine bon ?_ (by assumption))
  go_wp2_with fail
  with_reducible refine (rput_any A1 mn c1 ys k nl A2 lc.length c2 lc _ ((r1.on hb2).on hb3) (by omega) (r2.on hb3) (by omega) Hok2.out).mono ?_
  rintro e w4 ⟨A4, n4, c4, rfl, g5, g6, o4, hb4⟩
  go_wp2_with fail
  with_reducible refine (eq_yes A3 A4 n3 c3 n4 c4 (putO k nl lc ys) (putO k nl lc ys) _ ((own_reads o3).on hb4) (own_reads o4) rfl).mono ?_
  rintro e w5 ⟨rfl, rfl⟩
  have HO := Lib.hid (own_below o3 hb4)
  have hn3 : n3 ≤ 9223372036854775807 := by simp only [maxLen] at g4; omega
  generalize putE k nl lc = E0
  have R1 := Lib.hid ((r1.on hb2).below ((Below.refl w2.heap.size w2)))
  have HB4 := Lib.hid (show Below w2.heap.size w2 w4 from bon hb3 hb4)
  clear g5 g6 o4 hb4 o3 hb3 c40 c41 d40 d41
  go_wp2
  go_loopw [14] (fun i wr => ∃ (j : Nat) (vs : List Value), j ≤ n3 ∧ i = .int .i64 (j : Int) ∧ Hid (wr.ownsRow w2.heap.size 5 1 (.slice A3 n3 c3) n3 vs) ∧ Hid (∀ v ∈ vs, ∃ b, v = .int .u8 b) ∧ Hid (Below w2.heap.size w2 wr)) (fun i _ => n3 - (intOf i).toNat)
  case atStart => exact ⟨0, _, Nat.zero_le _, rfl, HO, Lib.hid (fun v hv => by obtain ⟨b, -, rfl⟩ := List.mem_map.1 hv; exact ⟨_, rfl⟩), HB4⟩
  case round =>
    obtain ⟨j, vs, hj, rfl, HO, Hvs, HB⟩ := hrel
    by_cases hlt : j < n3
    · obtain ⟨g, hA3, hg, hg2, hcell, hfz⟩ := own_at HO.out (by omega)
      subst hA3
      have hj2 : j < vs.length := by have := HO.out.1; omega
      obtain ⟨b, hb⟩ := Hvs.out vs[j] (List.getElem_mem _)
      have c1 := hcell j (.int .u8 b) (by rw [List.getElem?_eq_getElem hj2, hb])
      have f1 := hfz j
      have HO2 := Lib.hid (own_set HO.out j hlt (.int .u8 (bits .xor .u8 b 90)))
      have Hvs2 := Lib.hid (show ∀ v ∈ vs.set j (.int .u8 (bits .xor .u8 b 90)), ∃ b, v = .int .u8 b from fun v hv => by
        rcases List.mem_or_eq_of_mem_set hv with h | h
        · exact Hvs.out v h
        · exact ⟨_, h⟩)
      have HB2 := Lib.hid (HB.out.setCell (p := ⟨g, j, none⟩) hg (.int .u8 (bits .xor .u8 b 90)))
      clear hcell hfz hb
      go_wp2
      go_roundw
      case rel => exact ⟨j + 1, _, by omega, by go_num, HO2, Hvs2, HB2⟩
      case measure => simp [intOf]; omega
    · obtain rfl : j = n3 := by omega
      have hbW := HB.out
      clear hbC
      go_wp2_with fail
      with_reducible refine (eq_yes A1 A mn c1 mn c ys ys _ ((r1.on hb2).on hbW) ((hry.on hb1).on hb2 |>.on hbW) rfl).mono ?_
      rintro e w6 ⟨rfl, rfl⟩
      go_wp2_with fail
      with_reducible refine (cutC_any B m cb l _ (((hr2.on hbB).on hb2).on hbW) Hm.out Hok.out).mono ?_
      rintro e w7 ⟨A7, c7, rfl, g7, g8, o7, hb7⟩
      rw [Hin.out] at g7 o7 ⊢
      go_wp2_with fail
      with_reducible refine (eqRow_yes A2 A7 lc.length c2 lc.length c7 lc lc _ ((r2.on hbW).on hb7) (own_reads o7) (by simp only [maxLen]; omega) rfl).mono ?_
      rintro e w8 ⟨rfl, hb8⟩
      go_wp2_with fail
      with_reducible refine (works_yes _ (HT.out.on (by repeat (first | exact Below.refl _ _ | assumption | refine bal ?_ _ | refine Below.drew ?_ | refine bon ?_ (by assumption))))).mono ?_
      rintro e w9 ⟨rfl, hb9⟩
      go_wp2
      go_ret
      exact ⟨rfl, by repeat (first | exact Below.refl _ _ | assumption | refine bal ?_ _ | refine Below.drew ?_ | refine bon ?_ (by assumption))⟩
end Go.Proofs.YtfgpbnfobpfacaaGreatDoor
