/- The law ColGets, walked. -/
import Derived.Test.YtfgpbnfobpfacaaGreatDoorPart21
set_option linter.unusedVariables false
set_option linter.unusedSimpArgs false
namespace Go.Proofs.YtfgpbnfobpfacaaGreatDoor
open Go.RowKit
set_option maxRecDepth 100000 in
set_option maxHeartbeats 1000000 in
theorem colGets_walk (A : Option Addr) (l c : Nat) (xs : List UInt8) (k : Int) (nl : Bool) (n : Int) (w : World) (hr : Reads w w.heap.size 1 A l (u8s xs)) (hl : l ≤ c) (hc : c ≤ maxLen) (hn1 : -9223372036854775808 ≤ n) (hn2 : n ≤ 9223372036854775807) (hT : Tabs w) :
    Calls Tryz.prog 4 #[.slice A l c, .agg #[.int .i64 k, .bool nl], .int .i64 n] w fun e w' => e = .returned (.bool true) ∧ Below w.heap.size w w' := by
  obtain ⟨m, ys, -, hcast, hm1, hm2, hry0⟩ := cut_head hr 2400 2400 rfl
  have hry := hry0.al (.cells #[.int .i64 k, .bool nl] 24)
  have hmc : m ≤ c := by omega
  unfold maxLen at hc
  have Hn1 := Lib.hid hn1
  have Hn2 := Lib.hid hn2
  have HT := Lib.hid hT
  have hbA := (Below.refl w.heap.size w).alloc (Nat.le_refl _) (.cells #[.int .i64 k, .bool nl] 24)
  have B4 := Lib.hid (Blk.new w 24 #[.int .i64 k, .bool nl])
  clear hn1 hn2 hT hm1
  go_enter Tryz.func4, Tryz.ntmps4
  go_wp2_with fail
  with_reducible refine (copyBytes_any A m _ ys _ hry (by omega)).mono ?_
  rintro e w1 ⟨A1, c1, rfl, hc1, hd1, o1, hb1⟩
  have r1 := own_reads o1
  have B5 := Lib.hid (B4.out.on hb1)
  have c40 := B5.out.cell 0
  have c41 := B5.out.cell 1
  have hbB : Below w.heap.size w w1 := bon hbA hb1
  go_wp2_with fail
  with_reducible refine (cget_any A1 m c1 ys k nl n _ r1 hc1 hd1 (HT.out.on hbB)).mono ?_
  rintro e w2 ⟨hb2, hm2'⟩
  have B6 := Lib.hid (B5.out.on hb2)
  have d40 := B6.out.cell 0
  have d41 := B6.out.cell 1
  rcases hd : getC k nl ys n with er | ⟨t, s⟩
  · rw [hd] at hm2'
    obtain ⟨rfl, he⟩ := hm2'
    have Hd := Lib.hid hd
    clear hd
    go_wp2_with fail
    with_reducible refine (rget_any A1 m c1 ys k nl n _ (r1.on hb2) hc1 hd1 Hn1.out Hn2.out).mono ?_
    rintro e w3 ⟨hb3, hm3⟩
    rw [Hd.out] at hm3
    obtain ⟨rfl, -⟩ := hm3
    go_wp2_with fail
    with_reducible refine (eqRow_yes none none 0 0 0 0 [] [] _ reads_c0 reads_c0 (by decide) rfl).mono ?_
    rintro e w4 ⟨rfl, hb4⟩
    go_wp2_with fail
    with_reducible refine (eq_yes _ _ _ _ _ _ ys ys _ (by repeat (first | exact reads_lit _ _ _ _ _ _ (by simp) rfl rfl | assumption | exact Reads.none_ | exact reads_t0 | exact reads_u0 | exact reads_i0 | refine Reads.al ?_ _ | refine Reads.drew ?_ | refine Reads.on ?_ (by assumption))) (by repeat (first | exact reads_lit _ _ _ _ _ _ (by simp) rfl rfl | assumption | exact Reads.none_ | exact reads_t0 | exact reads_u0 | exact reads_i0 | refine Reads.al ?_ _ | refine Reads.drew ?_ | refine Reads.on ?_ (by assumption))) rfl).mono ?_
    rintro e w7 ⟨rfl, rfl⟩
    go_wp2_with fail
    with_reducible refine (works_yes _ (HT.out.on (by repeat (first | exact Below.refl _ _ | assumption | refine bal ?_ _ | refine Below.drew ?_ | refine bon ?_ (by assumption))))).mono ?_
    rintro e w8 ⟨rfl, hb8⟩
    go_wp2
    go_ret
    exact ⟨rfl, by repeat (first | exact Below.refl _ _ | assumption | refine bal ?_ _ | refine Below.drew ?_ | refine bon ?_ (by assumption))⟩
  · rw [hd] at hm2'
    obtain ⟨hq, A2, c2, rfl, g1, g2, o2⟩ := hm2'
    have r2 := own_reads o2
    have Hd := Lib.hid hd
    clear hd
    go_wp2_with fail
    with_reducible refine (rget_any A1 m c1 ys k nl n _ (r1.on hb2) hc1 hd1 Hn1.out Hn2.out).mono ?_
    rintro e w3 ⟨hb3, hm3⟩
    rw [Hd.out] at hm3
    obtain ⟨-, A3, c3, rfl, g3, g4, o3⟩ := hm3
    have r3 := own_reads o3
    go_wp2_with fail
    with_reducible refine (eqRow_yes A2 A3 t.length c2 t.length c3 t t _ (r2.on hb3) r3 (by simp only [maxLen]; omega) rfl).mono ?_
    rintro e w4 ⟨rfl, hb4⟩
    go_wp2_with fail
    with_reducible refine (eq_yes _ _ _ _ _ _ ys ys _ (by repeat (first | exact reads_lit _ _ _ _ _ _ (by simp) rfl rfl | assumption | exact Reads.none_ | exact reads_t0 | exact reads_u0 | exact reads_i0 | refine Reads.al ?_ _ | refine Reads.drew ?_ | refine Reads.on ?_ (by assumption))) (by repeat (first | exact reads_lit _ _ _ _ _ _ (by simp) rfl rfl | assumption | exact Reads.none_ | exact reads_t0 | exact reads_u0 | exact reads_i0 | refine Reads.al ?_ _ | refine Reads.drew ?_ | refine Reads.on ?_ (by assumption))) rfl).mono ?_
    rintro e w7 ⟨rfl, rfl⟩
    go_wp2_with fail
    with_reducible refine (works_yes _ (HT.out.on (by repeat (first | exact Below.refl _ _ | assumption | refine bal ?_ _ | refine Below.drew ?_ | refine bon ?_ (by assumption))))).mono ?_
    rintro e w8 ⟨rfl, hb8⟩
    go_wp2
    go_ret
    exact ⟨rfl, by repeat (first | exact Below.refl _ _ | assumption | refine bal ?_ _ | refine Below.drew ?_ | refine bon ?_ (by assumption))⟩
end Go.Proofs.YtfgpbnfobpfacaaGreatDoor
