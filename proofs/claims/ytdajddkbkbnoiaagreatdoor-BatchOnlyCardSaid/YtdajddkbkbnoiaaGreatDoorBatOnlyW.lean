/- The law BatchOnly, walked. -/
import Derived.Test.YtdajddkbkbnoiaaGreatDoorBp20
set_option linter.unusedVariables false
set_option linter.unusedSimpArgs false
namespace Go.Proofs.YtdajddkbkbnoiaaGreatDoor
open Go.RowKit
set_option maxRecDepth 100000 in
set_option maxHeartbeats 4000000 in
theorem batchOnly_walk (A : Option Addr) (n c : Nat) (l : List Co) (B : Option Addr) (m cb : Nat) (xs : List UInt8) (w : World) (hr : Reads w w.heap.size 7 A n (cos l)) (hn : n ≤ c) (hc : c ≤ maxLen) (hok : CoOk l) (hx : Reads w w.heap.size 1 B m (u8s xs)) (hm : m ≤ cb) (hcb : cb ≤ maxLen) (hT : Tab2 w.heap.size w) :
    Calls Tryz.prog 15 #[.slice A n c, .slice B m cb] w fun e w' => e = .returned (.bool true) ∧ Below w.heap.size w w' := by
  have Hr := Lib.hid hr
  have Hx := Lib.hid hx
  have HT := Lib.hid hT
  clear hr hx hT
  go_enter Tryz.func15, Tryz.ntmps15
  go_wp2_with fail
  with_reducible refine (bworks_yes _ HT.out).mono ?_
  rintro e w1 ⟨rfl, hb1⟩
  have HB1 := Lib.hid hb1
  clear hb1
  go_wp2_with fail
  with_reducible refine (columns17_any A n c l _ (Hr.out.on HB1.out) hn hc).mono ?_
  rintro e w2 ⟨A1, k1, c1, rfl, hk1, o1, hb2⟩
  have HB2 := Lib.hid (bon HB1.out hb2)
  have HC := Lib.hid (own_reads o1)
  generalize l.take 40 = lc at HC
  clear o1 hb2
  go_wp2_with fail
  with_reducible refine (bytes17_any B m cb xs _ (Hx.out.on HB2.out) hm hcb).mono ?_
  rintro e w3 ⟨A2, k2, c2, rfl, h1, h2, o2, hb3⟩
  have HB3 := Lib.hid (bon HB2.out hb3)
  have HC := Lib.hid (HC.out.on hb3)
  have HX := Lib.hid (own_reads o2)
  generalize xs.take 2000 = ys at HX
  have hk1m : k1 ≤ maxLen := Nat.le_trans hk1 (by decide)
  clear o2 hb3 Hr Hx
  go_wp2_with fail
  with_reducible refine (bdec_any A1 k1 c1 lc A2 k2 c2 ys _ HC.out hk1m HX.out h1 h2 (HT.out.on HB3.out)).mono ?_
  rintro e w4 ⟨hb4, hm4⟩
  have HB4 := Lib.hid (bon HB3.out hb4)
  have HC4 := Lib.hid (HC.out.on hb4)
  have HX4 := Lib.hid (HX.out.on hb4)
  clear hb4 HC HX
  rcases hd : decB lc ys with er | b
  · rw [hd] at hm4
    obtain ⟨rfl, he⟩ := hm4
    have d1 : ((er : Int) != 0) = true := by simp; omega
    clear hd he
    go_wp2_with fail
    with_reducible refine (bsame_any 0 0 none 0 0 [] 0 0 none 0 0 [] _ ItemsAt.nil ItemsAt.nil (by decide)).mono ?_
    rw [sameBa_self]
    rintro e w5 ⟨rfl, hb5⟩
    have HB5 := Lib.hid (bon (bal HB4.out _) hb5)
    go_wp2
    go_ret
    exact ⟨rfl, HB5.out⟩
  · rw [hd] at hm4
    obtain ⟨I, k, d, rfl, hio⟩ := hm4
    obtain ⟨hf, hbo, henc⟩ := decB_only hd
    have Hf := Lib.hid hf
    have Hbo := Lib.hid hbo
    have He := Lib.hid henc
    have HI := Lib.hid hio.at_
    have HB5 := Lib.hid (bal HB4.out (.cells #[.int .i64 b.1, .int .i64 b.2.1, .slice I k d] 25))
    have hkm : k ≤ maxLen := by
      have h3 := hio.len
      have h4 := hf.rows
      simp only [maxLen]
      omega
    have hE := (fits_iff lc b).2 hf
    have HE := Lib.hid hE
    clear hio hd hf hbo henc hE
    obtain ⟨v, s, li⟩ := b
    simp only at HI HB5 ⊢
    have HI5 := Lib.hid (HI.out.al (.cells #[.int .i64 v, .int .i64 s, .slice I k d] 25))
    have HP := Lib.hid (Blk.new w4 25 #[.int .i64 v, .int .i64 s, .slice I k d])
    have HC5 := Lib.hid (HC4.out.al (.cells #[.int .i64 v, .int .i64 s, .slice I k d] 25))
    have HX5 := Lib.hid (HX4.out.al (.cells #[.int .i64 v, .int .i64 s, .slice I k d] 25))
    clear HI HB4 HC4 HX4
    go_wp2_with fail
    with_reducible refine (benc_any A1 k1 c1 lc v s I k d li _ HC5.out hk1m HI5.out hkm Hbo.out (Hf.out.itOk Hbo.out) (HT.out.on HB5.out)).mono ?_
    rintro e w6 ⟨hb6, ⟨-, A6, c6, rfl, ho⟩ | ⟨h0, -⟩⟩
    case inr => exact absurd HE.out h0
    rw [He.out] at ho ⊢
    have HY := Lib.hid (own_reads ho)
    have HB6 := Lib.hid (bon HB5.out hb6)
    have HI6 := Lib.hid (HI5.out.on hb6)
    have HP6 := Lib.hid (HP.out.on hb6)
    have HC6 := Lib.hid (HC5.out.on hb6)
    have HX6 := Lib.hid (HX5.out.on hb6)
    clear ho hb6 HI5 HP HC5 HX5 HB5
    generalize hyl : ys.length = yl at HY ⊢
    clear hyl
    go_wp2_with fail
    with_reducible refine (eq_yes A6 A2 yl c6 k2 c2 ys ys _ HY.out HX6.out rfl).mono ?_
    rintro e w7 ⟨rfl, rfl⟩
    have k0 := HP6.out.cell 0
    have k1' := HP6.out.cell 1
    have k2' := HP6.out.cell 2
    go_wp2_with fail
    with_reducible refine (bCheck_any A1 k1 c1 lc v s I k d li _ HC6.out hk1m HI6.out hkm (HT.out.on HB6.out).tabs).mono ?_
    rw [HE.out]
    rintro e w8 ⟨rfl, hb8⟩
    have HB8 := Lib.hid (bon HB6.out hb8)
    go_wp2
    go_ret
    exact ⟨rfl, HB8.out⟩
end Go.Proofs.YtdajddkbkbnoiaaGreatDoor
