/- The law DictReads, walked. -/
import Derived.Test.YtckaohkhknoocaaDictWorks
import Derived.Test.YtckaohkhknoocaaCut
set_option linter.unusedVariables false
set_option linter.unusedSimpArgs false
namespace Go.Proofs.Ytckaohkhknoocaa
open Go.RowKit
set_option maxRecDepth 100000 in
set_option maxHeartbeats 1000000 in
theorem dictReads_walk (A : Option Addr) (l c : Nat) (xs : List UInt8) (n most : Int) (w : World) (hr : Reads w w.heap.size 1 A l (u8s xs)) (hl : l ≤ c) (hc : c ≤ maxLen) (hn1 : -9223372036854775808 ≤ n) (hn2 : n ≤ 9223372036854775807) (hm : most ≤ 9223372036854775807) :
    Calls Try.prog 5 #[.slice A l c, .int .i64 n, .int .i64 most] w fun e w' => e = .returned (.bool true) ∧ Below w.heap.size w w' := by
  obtain ⟨m, ys, -, hcast, hm1, hm2, hry⟩ := cut_head hr 300 300 rfl
  have hmc : m ≤ c := by omega
  unfold maxLen at hc
  have Hn1 := Lib.hid hn1
  have Hn2 := Lib.hid hn2
  have Hm := Lib.hid hm
  clear hn1 hn2 hm hm1
  go_enter Try.func5, Try.ntmps5
  go_wp2_with fail
  with_reducible refine (copyBytes_any A m _ ys _ hry (by omega)).mono ?_
  rintro e w1 ⟨A1, c1, rfl, hc1, hd1, o1, hb1⟩
  have r1 := own_reads o1
  go_wp2_with fail
  with_reducible refine (dget_any A1 m c1 ys n most _ r1 hc1 hd1 Hn1.out Hn2.out Hm.out).mono ?_
  rcases hd : getDI ys n most with k | ⟨t, s⟩
  · rintro e w2 ⟨hb2, rfl⟩
    have Hd := Lib.hid hd
    clear hd
    go_wp2_with fail
    with_reducible refine (refdget_any A1 m c1 ys n most _ (r1.on hb2) hc1 hd1 Hn1.out Hn2.out Hm.out).mono ?_
    rw [Hd.out]
    rintro e w3 ⟨hb3, rfl⟩
    go_wp2_with fail
    with_reducible refine (eqTexts_yes none none 0 0 0 0 [] [] _ Reads.none_ Reads.none_ (by decide) (by decide) rfl).mono ?_
    rintro e w4 ⟨rfl, hb4⟩
    go_wp2_with fail
    with_reducible refine (eq_yes _ _ _ _ _ _ ys ys _ (by repeat (first | exact reads_lit _ _ _ _ _ _ (by simp) rfl rfl | assumption | exact Reads.none_ | exact reads_t0 | exact reads_u0 | exact reads_i0 | refine Reads.al ?_ _ | refine Reads.drew ?_ | refine Reads.on ?_ (by assumption))) (by repeat (first | exact reads_lit _ _ _ _ _ _ (by simp) rfl rfl | assumption | exact Reads.none_ | exact reads_t0 | exact reads_u0 | exact reads_i0 | refine Reads.al ?_ _ | refine Reads.drew ?_ | refine Reads.on ?_ (by assumption))) rfl).mono ?_
    rintro e w' ⟨rfl, rfl⟩
    go_wp2_with fail
    with_reducible refine (dworks_any _).mono ?_
    rintro e w5 ⟨rfl, hb5⟩
    go_wp2
    go_ret
    exact ⟨rfl, by repeat (first | exact Below.refl _ _ | assumption | refine bal ?_ _ | refine Below.drew ?_ | refine bon ?_ (by assumption))⟩
  · rintro e w2 ⟨hb2, A2, c2, rfl, g1, g2, o2⟩
    have r2 := own_reads o2
    have Hd := Lib.hid hd
    clear hd
    go_wp2_with fail
    with_reducible refine (refdget_any A1 m c1 ys n most _ (r1.on hb2) hc1 hd1 Hn1.out Hn2.out Hm.out).mono ?_
    rw [Hd.out]
    rintro e w3 ⟨hb3, A3, c3, rfl, g3, g4, o3⟩
    have r3 := own_reads o3
    have ht := Nat.le_trans g1 g2
    go_wp2_with fail
    with_reducible refine (eqTexts_yes A2 A3 t.length c2 t.length c3 t t _ (by repeat (first | exact reads_lit _ _ _ _ _ _ (by simp) rfl rfl | assumption | exact Reads.none_ | exact reads_t0 | exact reads_u0 | exact reads_i0 | refine Reads.al ?_ _ | refine Reads.drew ?_ | refine Reads.on ?_ (by assumption))) (by repeat (first | exact reads_lit _ _ _ _ _ _ (by simp) rfl rfl | assumption | exact Reads.none_ | exact reads_t0 | exact reads_u0 | exact reads_i0 | refine Reads.al ?_ _ | refine Reads.drew ?_ | refine Reads.on ?_ (by assumption))) ht ht rfl).mono ?_
    rintro e w4 ⟨rfl, hb4⟩
    clear ht
    go_wp2_with fail
    with_reducible refine (eq_yes _ _ _ _ _ _ ys ys _ (by repeat (first | exact reads_lit _ _ _ _ _ _ (by simp) rfl rfl | assumption | exact Reads.none_ | exact reads_t0 | exact reads_u0 | exact reads_i0 | refine Reads.al ?_ _ | refine Reads.drew ?_ | refine Reads.on ?_ (by assumption))) (by repeat (first | exact reads_lit _ _ _ _ _ _ (by simp) rfl rfl | assumption | exact Reads.none_ | exact reads_t0 | exact reads_u0 | exact reads_i0 | refine Reads.al ?_ _ | refine Reads.drew ?_ | refine Reads.on ?_ (by assumption))) rfl).mono ?_
    rintro e w' ⟨rfl, rfl⟩
    go_wp2_with fail
    with_reducible refine (dworks_any _).mono ?_
    rintro e w5 ⟨rfl, hb5⟩
    go_wp2
    go_ret
    exact ⟨rfl, by repeat (first | exact Below.refl _ _ | assumption | refine bal ?_ _ | refine Below.drew ?_ | refine bon ?_ (by assumption))⟩
end Go.Proofs.Ytckaohkhknoocaa
