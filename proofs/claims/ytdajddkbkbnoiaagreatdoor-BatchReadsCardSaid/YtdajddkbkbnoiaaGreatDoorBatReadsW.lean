/- The law BatchReads, walked. -/
import Derived.Test.YtdajddkbkbnoiaaGreatDoorBr25
set_option linter.unusedVariables false
set_option linter.unusedSimpArgs false
namespace Go.Proofs.YtdajddkbkbnoiaaGreatDoor
open Go.RowKit
/-- What Decode's answer holds: the values, and where its items lie. -/
structure DecV (r : Got Ba) (base : Nat) (w : World) (e v s : Int) (I : Option Addr) (k d : Nat) (l : List It) : Prop where
  items : ItemsAt w w.heap.size I k l
  max : k ≤ maxLen
  val : (e, v, s, l) = match r with | .ok b => (0, b.1, b.2.1, b.2.2) | .error er => ((er : Int), 0, 0, [])
theorem DecP.vals {r : Got Ba} {w w' : World} {e : Ending} (h : DecP r w e w') (hr : ∀ b, r = .ok b → b.2.2.length ≤ 1048576) :
    Below w.heap.size w w' ∧ ∃ er v s I k d l, e = .returned (.tuple #[.agg #[.int .i64 v, .int .i64 s, .slice I k d], .int .i64 er]) ∧ DecV r w.heap.size w' er v s I k d l := by
  obtain ⟨hb, hm⟩ := h
  refine ⟨hb, ?_⟩
  rcases r with er | b
  · obtain ⟨rfl, -⟩ := hm
    exact ⟨_, _, _, _, _, _, [], rfl, ItemsAt.nil, Nat.zero_le _, rfl⟩
  · obtain ⟨I, k, d, rfl, hio⟩ := hm
    refine ⟨_, _, _, _, _, _, b.2.2, rfl, hio.at_, ?_, rfl⟩
    have := hio.len
    have := hr b rfl
    simp only [maxLen]
    omega
theorem decB_rows {cs : List Co} {xs : List UInt8} (b : Ba) (h : decB cs xs = .ok b) : b.2.2.length ≤ 1048576 := (decB_only h).1.rows
theorem DecV.on {r : Got Ba} {base : Nat} {w w' : World} {e v s : Int} {I : Option Addr} {k d : Nat} {l : List It} (h : DecV r base w e v s I k d l) (hb : Below w.heap.size w w') : DecV r base w' e v s I k d l :=
  ⟨h.items.on hb, h.max, h.val⟩
set_option maxRecDepth 100000 in
set_option maxHeartbeats 4000000 in
theorem batchReads_walk (A : Option Addr) (n c : Nat) (l : List Co) (B : Option Addr) (m cb : Nat) (xs : List UInt8) (w : World) (hr : Reads w w.heap.size 7 A n (cos l)) (hn : n ≤ c) (hc : c ≤ maxLen) (hok : CoOk l) (hx : Reads w w.heap.size 1 B m (u8s xs)) (hm : m ≤ cb) (hcb : cb ≤ maxLen) (hT : Tab2 w.heap.size w) :
    Calls Tryz.prog 9 #[.slice A n c, .slice B m cb] w fun e w' => e = .returned (.bool true) ∧ Below w.heap.size w w' := by
  have Hx := Lib.hid hx
  have HT := Lib.hid hT
  clear hx hT
  go_enter Tryz.func9, Tryz.ntmps9
  go_wp2_with fail
  with_reducible refine (columns17_any A n c l _ hr hn hc).mono ?_
  rintro e w2 ⟨A1, k1, c1, rfl, hk1, o1, hb2⟩
  have HB2 := Lib.hid hb2
  have HC := Lib.hid (own_reads o1)
  generalize l.take 40 = lc at HC
  clear o1 hb2 hr
  go_wp2_with fail
  with_reducible refine (bytes17_any B m cb xs _ (Hx.out.on HB2.out) hm hcb).mono ?_
  rintro e w3 ⟨A2, k2, c2, rfl, h1, h2, o2, hb3⟩
  have HB3 := Lib.hid (bon HB2.out hb3)
  have HC := Lib.hid (HC.out.on hb3)
  have HX := Lib.hid (own_reads o2)
  obtain ⟨ys, hys⟩ : ∃ ys, xs.take 2000 = ys := ⟨_, rfl⟩
  rw [hys] at HX
  have Hys := Lib.hid hys
  have hk1m : k1 ≤ maxLen := Nat.le_trans hk1 (by decide)
  clear o2 hb3 hys
  go_wp2_with fail
  with_reducible refine (bdec_any A1 k1 c1 lc A2 k2 c2 ys _ HC.out hk1m HX.out h1 h2 (HT.out.on HB3.out)).mono ?_
  intro e w4 hm4
  obtain ⟨hb4, e1, v1, s1, I1, n1, d1, l1, rfl, hv1⟩ := hm4.vals decB_rows
  have HB4 := Lib.hid (bal (bon HB3.out hb4) (.cells #[.int .i64 v1, .int .i64 s1, .slice I1 n1 d1] 25))
  have HC4 := Lib.hid ((HC.out.on hb4).al (.cells #[.int .i64 v1, .int .i64 s1, .slice I1 n1 d1] 25))
  have HX4 := Lib.hid ((HX.out.on hb4).al (.cells #[.int .i64 v1, .int .i64 s1, .slice I1 n1 d1] 25))
  have HV1 := Lib.hid (hv1.on (bal (Below.refl _ _) (.cells #[.int .i64 v1, .int .i64 s1, .slice I1 n1 d1] 25)))
  have HP1 := Lib.hid (Blk.new w4 25 #[.int .i64 v1, .int .i64 s1, .slice I1 n1 d1])
  clear hm4 hb4 hv1 HC HX
  simp only
  go_wp2_with fail
  with_reducible refine (rdec_any A1 k1 c1 lc A2 k2 c2 ys _ HC4.out hk1m HX4.out h1 h2).mono ?_
  intro e w5 hm5
  obtain ⟨hb5, e2, v2, s2, I2, n2, d2, l2, rfl, hv2⟩ := hm5.vals decB_rows
  have HB5 := Lib.hid (bal (bon HB4.out hb5) (.cells #[.int .i64 v2, .int .i64 s2, .slice I2 n2 d2] 25))
  have HX5 := Lib.hid ((HX4.out.on hb5).al (.cells #[.int .i64 v2, .int .i64 s2, .slice I2 n2 d2] 25))
  have HV1 := Lib.hid ((HV1.out.on hb5).on (bal (Below.refl _ _) (.cells #[.int .i64 v2, .int .i64 s2, .slice I2 n2 d2] 25)))
  have HV2 := Lib.hid (hv2.on (bal (Below.refl _ _) (.cells #[.int .i64 v2, .int .i64 s2, .slice I2 n2 d2] 25)))
  have HP1 := Lib.hid ((HP1.out.on hb5).alloc (.cells #[.int .i64 v2, .int .i64 s2, .slice I2 n2 d2] 25))
  have HP2 := Lib.hid (Blk.new w5 25 #[.int .i64 v2, .int .i64 s2, .slice I2 n2 d2])
  obtain ⟨rfl, rfl, rfl, rfl⟩ : e1 = e2 ∧ v1 = v2 ∧ s1 = s2 ∧ l1 = l2 := by
    have h3 := hv2.val
    rw [← HV1.out.val] at h3
    simp only [Prod.mk.injEq] at h3
    exact ⟨h3.1.symm, h3.2.1.symm, h3.2.2.1.symm, h3.2.2.2.symm⟩
  clear hm5 hb5 hv2 HX4 HC4 HB4
  simp only
  go_wp2_with fail
  with_reducible refine (bpeek_any A2 k2 c2 ys _ HX5.out h1 h2 (HT.out.on HB5.out)).mono ?_
  obtain ⟨q, hq⟩ : ∃ q, pkV (batD ys) = q := ⟨_, rfl⟩
  rw [hq]
  have Hq := Lib.hid hq
  clear hq
  obtain ⟨q1, q2, q3, q4⟩ := q
  rintro e w6 ⟨rfl, hb6⟩
  have HB6 := Lib.hid (bon HB5.out hb6)
  have HX6 := Lib.hid (HX5.out.on hb6)
  have HV1 := Lib.hid (HV1.out.on hb6)
  have HV2 := Lib.hid (HV2.out.on hb6)
  have HP1 := Lib.hid (HP1.out.on hb6)
  have HP2 := Lib.hid (HP2.out.on hb6)
  clear hb6 HX5 HB5
  simp only
  go_wp2_with fail
  with_reducible refine (rpeek_any A2 k2 c2 ys _ HX6.out h1 h2).mono ?_
  rw [Hq.out]
  rintro e w7 ⟨rfl, hb7⟩
  have HB7 := Lib.hid (bon HB6.out hb7)
  have HX7 := Lib.hid (HX6.out.on hb7)
  have HV1 := Lib.hid (HV1.out.on hb7)
  have HV2 := Lib.hid (HV2.out.on hb7)
  have HP1 := Lib.hid (HP1.out.on hb7)
  have HP2 := Lib.hid (HP2.out.on hb7)
  clear hb7 HX6 HB6
  simp only
  have a0 := HP1.out.cell 0
  have a1 := HP1.out.cell 1
  have a2 := HP1.out.cell 2
  have b0 := HP2.out.cell 0
  have b1 := HP2.out.cell 1
  have b2 := HP2.out.cell 2
  go_wp2_with fail
  with_reducible refine (rsame17_any v1 s1 I1 n1 d1 l1 v1 s1 I2 n2 d2 l1 _ HV1.out.items HV2.out.items HV1.out.max).mono ?_
  rw [sameBa_self]
  rintro e w8 ⟨rfl, hb8⟩
  have HB8 := Lib.hid (bon HB7.out hb8)
  have HX8 := Lib.hid (HX7.out.on hb8)
  clear hb8 a0 a1 a2 b0 b1 b2 HX7 HB7
  have t1 : (e1 == e1) = true := by simp
  have t2 : (q1 == q1) = true := by simp
  have t3 : (q2 == q2) = true := by simp
  have t4 : (q3 == q3) = true := by simp
  have t5 : (q4 == q4) = true := by simp
  go_wp2_with fail
  with_reducible refine (bytes17_any B m cb xs _ (Hx.out.on HB8.out) hm hcb).mono ?_
  rw [Hys.out]
  rintro e w9 ⟨A9, k9, c9, rfl, -, -, o9, hb9⟩
  have HB9 := Lib.hid (bon HB8.out hb9)
  have HX9 := Lib.hid (HX8.out.on hb9)
  have HY9 := Lib.hid (own_reads o9)
  clear o9 hb9 HX8 HB8
  go_wp2_with fail
  with_reducible refine (eq_yes A2 A9 k2 c2 k9 c9 ys ys _ HX9.out HY9.out rfl).mono ?_
  rintro e w10 ⟨rfl, rfl⟩
  go_wp2_with fail
  with_reducible refine (bworks_yes _ (HT.out.on HB9.out)).mono ?_
  rintro e w11 ⟨rfl, hb11⟩
  have HB11 := Lib.hid (bon HB9.out hb11)
  clear hb11
  go_wp2
  go_ret
  exact ⟨rfl, HB11.out⟩
end Go.Proofs.YtdajddkbkbnoiaaGreatDoor
