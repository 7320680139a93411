/- Layer 3, walked: the document's reader: Text. -/
import Derived.Test.YtnkkhplddjopnaaPackRef3
set_option linter.unusedVariables false
set_option linter.unusedSimpArgs false
namespace Go.Proofs.Ytnkkhplddjopnaa
open Go.RowKit
theorem rasked_text {g : Nat} {xs : List UInt8} {p e : Nat} {most : Int} {s : ByteArray} {p2 e2 : Nat} {w w' : World} (hv : textA xs p e most = (s, p2, e2)) (hg : w.grownBy w' (some g)) (hp : RRd w' g xs p2 e2) :
    RAsked g xs (.string (textA xs p e most).1) (textA xs p e most).2.1 (textA xs p e most).2.2 w (.returned (.string s)) w' := by
  rw [hv]
  exact ⟨rfl, hg, hp⟩
set_option maxRecDepth 100000 in
set_option maxHeartbeats 2000000 in
theorem rdtext_any (g : Nat) (xs : List UInt8) (p e : Nat) (most : Int) (w : World) (h : RRd w g xs p e) (hl : xs.length ≤ 1099511627776) (hmo : most ≤ 9223372036854775807) :
    Calls Try.prog 59 #[.pointer (some ⟨g, 0, none⟩), .int .i64 most] w (RAsked g xs (.string (textA xs p e most).1) (textA xs p e most).2.1 (textA xs p e most).2.2 w) := by
  have hple := h.1
  have H := Lib.hid h
  have hv : textA xs p e most = textA xs p e most := rfl
  conv at hv => rhs; unfold textA takeT
  have hld : (xs.drop p).length = xs.length - p := List.length_drop
  rw [hld] at hv
  obtain ⟨s1, s2, s3, s4⟩ := get_size3 (xs.drop p)
  rw [hld] at s1
  have Hrest := Lib.hid (fun (e : Nat) (w1 : World) (h1 : RRd w1 g xs p e) => rrest_any g xs p e w1 h1)
  unfold RestP at Hrest
  have hread := fun (A : Option Addr) (c : Nat) (w1 : World) (hr : Reads w1 w1.heap.size 1 A (xs.length - p) (u8s (xs.drop p))) (h1 : xs.length - p ≤ c) (h2 : c ≤ maxLen) => refGet_any A (xs.length - p) c (xs.drop p) w1 hr h1 h2
  generalize get (xs.drop p) = r at hv s1 s2 s3 s4 hread
  obtain ⟨rn, rk, re⟩ := r
  simp only [gotten] at hv s1 s2 s3 s4 hread
  have Hread := Lib.hid hread
  have Hfail := Lib.hid (fun (ni : Int) (n e : Nat) (hni : ni = (n : Int)) w1 h1 => rfail_any g xs p e n ni w1 h1 hni)
  unfold RAsked at Hfail
  have hf : failA e re = failA e re := rfl
  conv at hf => rhs; unfold failA
  clear h hread hld
  generalize hm : xs.length - p = m at *
  have Hm := Lib.hid hm
  clear hm
  by_cases her : failA e re = 0
  · have he : e = 0 := by
      rw [her] at hf
      split at hf <;> omega
    subst he
    have hre : re = 0 := by
      rw [her, if_pos rfl] at hf
      exact hf.symm
    subst hre
    rw [if_neg (by simp), if_neg (by simp)] at hv
    clear her hf s4
    by_cases hlim : most < 0 ∨ most < (rn : Int)
    · rw [if_pos hlim] at hv
      have Hv := Lib.hid hv
      clear hv
      by_cases hm0 : most < 0
      · go_enter Try.func59, Try.ntmps59
        go_wp2_with fail
        with_reducible refine (Hrest.out 0 _ H.out).mono ?_
        rintro e w0 ⟨A, c, rfl, g1, g2, g3, hb⟩
        go_wp2_with fail
        with_reducible refine (Hread.out A c _ g3 g1 g2).mono ?_
        rintro e w' ⟨rfl, rfl⟩
        go_wp2_with fail
        with_reducible refine (Hfail.out _ 0 0 (by simp) _ (H.out.on hb)).mono ?_
        rintro e w1 ⟨rfl, hg, hp⟩
        obtain ⟨d1, d2, f1, f2⟩ := hp.cells
        have hg0 := (below_grown (r := some g) hb).trans hg
        clear g3
        rw [show failA 0 0 = 0 from rfl] at hp d2
        go_wp2_with fail
        with_reducible refine (Hfail.out _ 5 0 (by simp) _ hp).mono ?_
        rintro e w2 ⟨rfl, hg2, hp2⟩
        have hg3 := hg0.trans hg2
        rw [show failA 0 5 = 5 from rfl] at hp2
        clear d1 d2 f1 f2 hg hg2
        obtain ⟨d1, d2, f1, f2⟩ := hp2.cells
        go_wp2
        go_ret
        exact rasked_text Hv.out hg3 hp2
      · obtain ⟨mo, rfl⟩ := Int.eq_ofNat_of_zero_le (by omega : 0 ≤ most)
        have db : decide ((mo : Int) < (rn : Int)) = true := by simp; omega
        have db2 : decide (mo < rn) = true := by simp; omega
        clear hlim
        go_enter Try.func59, Try.ntmps59
        go_wp2_with fail
        with_reducible refine (Hrest.out 0 _ H.out).mono ?_
        rintro e w0 ⟨A, c, rfl, g1, g2, g3, hb⟩
        go_wp2_with fail
        with_reducible refine (Hread.out A c _ g3 g1 g2).mono ?_
        rintro e w' ⟨rfl, rfl⟩
        go_wp2_with fail
        with_reducible refine (Hfail.out _ 0 0 (by simp) _ (H.out.on hb)).mono ?_
        rintro e w1 ⟨rfl, hg, hp⟩
        obtain ⟨d1, d2, f1, f2⟩ := hp.cells
        have hg0 := (below_grown (r := some g) hb).trans hg
        clear g3
        rw [show failA 0 0 = 0 from rfl] at hp d2
        go_wp2_with fail
        with_reducible refine (Hfail.out _ 5 0 (by simp) _ hp).mono ?_
        rintro e w2 ⟨rfl, hg2, hp2⟩
        have hg3 := hg0.trans hg2
        rw [show failA 0 5 = 5 from rfl] at hp2
        clear d1 d2 f1 f2 hg hg2
        obtain ⟨d1, d2, f1, f2⟩ := hp2.cells
        go_wp2
        go_ret
        exact rasked_text Hv.out hg3 hp2
    · rw [if_neg hlim] at hv
      obtain ⟨mo, rfl⟩ := Int.eq_ofNat_of_zero_le (by omega : 0 ≤ most)
      have db : decide ((mo : Int) < (rn : Int)) = false := by simp; omega
      have db2 : decide (mo < rn) = false := by simp; omega
      have hmn : rn ≤ mo := by omega
      have hm1 : m ≤ 1099511627776 := by have := Hm.out; omega
      have hsub : (m : Int) - (rk : Int) = ((m - rk : Nat) : Int) := by omega
      generalize hmk : m - rk = mk at *
      have Hmk := Lib.hid hmk
      clear hlim hmk
      by_cases hlen : mk < rn
      · rw [if_pos hlen] at hv
        have Hv := Lib.hid hv
        have db3 : decide (mk < rn) = true := by simp; omega
        have db4 : decide ((mk : Int) < (rn : Int)) = true := by simp; omega
        clear hv
        go_enter Try.func59, Try.ntmps59
        go_wp2_with fail
        with_reducible refine (Hrest.out 0 _ H.out).mono ?_
        rintro e w0 ⟨A, c, rfl, g1, g2, g3, hb⟩
        go_wp2_with fail
        with_reducible refine (Hread.out A c _ g3 g1 g2).mono ?_
        rintro e w' ⟨rfl, rfl⟩
        go_wp2_with fail
        with_reducible refine (Hfail.out _ 0 0 (by simp) _ (H.out.on hb)).mono ?_
        rintro e w1 ⟨rfl, hg, hp⟩
        obtain ⟨d1, d2, f1, f2⟩ := hp.cells
        have hg0 := (below_grown (r := some g) hb).trans hg
        clear g3 g1 g2
        rw [show failA 0 0 = 0 from rfl] at hp d2
        go_wp2_with fail
        with_reducible refine (Hrest.out 0 _ hp).mono ?_
        rintro e w2 ⟨A1, c1, rfl, g1, g2, g3, hb1⟩
        have hp1 := hp.on hb1
        go_wp2_with fail
        with_reducible refine (Hfail.out _ 3 0 (by simp) _ hp1).mono ?_
        rintro e w3 ⟨rfl, hg2, hp2⟩
        have hg3 := (hg0.trans (below_grown (r := some g) hb1)).trans hg2
        rw [show failA 0 3 = 3 from rfl] at hp2
        clear d1 d2 f1 f2 hg hg2 g3
        obtain ⟨d1, d2, f1, f2⟩ := hp2.cells
        go_wp2
        go_ret
        exact rasked_text Hv.out hg3 hp2
      · rw [if_neg hlen] at hv
        have Hv := Lib.hid hv
        have db3 : decide (mk < rn) = false := by simp; omega
        have db4 : decide ((mk : Int) < (rn : Int)) = false := by simp; omega
        have hM := Hm.out
        have hMk := Hmk.out
        obtain ⟨en, hen⟩ : ∃ en, rk + rn = en := ⟨_, rfl⟩
        obtain ⟨q1, hq1⟩ : ∃ q1, p + rk = q1 := ⟨_, rfl⟩
        obtain ⟨q, hq⟩ : ∃ q, q1 + rn = q := ⟨_, rfl⟩
        have henI : (rk : Int) + (rn : Int) = (en : Int) := by omega
        have hq1I : (p : Int) + (rk : Int) = (q1 : Int) := by omega
        have hqI : (q1 : Int) + (rn : Int) = (q : Int) := by omega
        have hv2 : textA xs p 0 (mo : Int) = (txt (((xs.drop p).drop rk).take rn), q, 0) := by
          rw [hv]
          simp only []
          rw [← hq, ← hq1, Nat.add_assoc]
        have Hv := Lib.hid hv2
        have hql : q ≤ xs.length := by omega
        have hq63 : q ≤ 9223372036854775807 := by omega
        have hq163 : q1 ≤ 9223372036854775807 := by omega
        have hen63 : en ≤ 9223372036854775807 := by omega
        have hrn63 : rn ≤ 9223372036854775807 := by omega
        have hrke : rk ≤ en := by omega
        have henm : en ≤ m := by omega
        have Hen := Lib.hid hen
        have Htxt := Lib.hid (show txt (((xs.drop p).drop rk).take (en - rk)) = txt (((xs.drop p).drop rk).take rn) from by rw [← hen, Nat.add_sub_cancel_left])
        generalize txt (((xs.drop p).drop rk).take rn) = s at Hv Htxt
        clear hv hv2 hM hMk hen hq1 hq
        go_enter Try.func59, Try.ntmps59
        go_wp2_with fail
        with_reducible refine (Hrest.out 0 _ H.out).mono ?_
        rintro e w0 ⟨A, c, rfl, g1, g2, g3, hb⟩
        go_wp2_with fail
        with_reducible refine (Hread.out A c _ g3 g1 g2).mono ?_
        rintro e w' ⟨rfl, rfl⟩
        go_wp2_with fail
        with_reducible refine (Hfail.out _ 0 0 (by simp) _ (H.out.on hb)).mono ?_
        rintro e w1 ⟨rfl, hg, hp⟩
        obtain ⟨d1, d2, f1, f2⟩ := hp.cells
        have hg0 := (below_grown (r := some g) hb).trans hg
        clear g3 g1 g2
        rw [show failA 0 0 = 0 from rfl] at hp d2
        go_wp2_with fail
        with_reducible refine (Hrest.out 0 _ hp).mono ?_
        rintro e w2 ⟨A1, c1, rfl, g1, g2, g3, hb1⟩
        have hp1 := hp.on hb1
        have hg3 := hg0.trans (below_grown (r := some g) hb1)
        clear d1 d2 f1 f2 hg hg0 g3 g1 g2
        obtain ⟨d1, d2, f1, f2⟩ := hp1.cells
        go_wp2_with fail
        with_reducible refine (Hrest.out 0 _ hp1).mono ?_
        rintro e w3 ⟨A2, c2, rfl, g1, g2, g3, hb2⟩
        have hp3 := hp1.on hb2
        have hg4 := hg3.trans (below_grown (r := some g) hb2)
        have hcut := g3.cut (k := rk) (cap := c2) s1 g1
        rw [Nat.mul_one, u8s_drop] at hcut
        have hhead := hcut.head (k := en - rk) (by omega)
        rw [Nat.mul_one, u8s_take] at hhead
        obtain ⟨A3, hA3⟩ : ∃ A3, (if c2 = rk then A2 else Option.map (fun x => x.add rk) A2) = A3 := ⟨_, rfl⟩
        rw [hA3] at hhead
        have hC := run_bytes_string w3 32 9 5 Try.underlying32 Try.underlying5 Try.underlying9 _ A3 (en - rk) (c2 - rk) _ hhead
        change _ = Result.ok (Value.string (txt (((xs.drop p).drop rk).take (en - rk)))) w3 at hC
        rw [Htxt.out] at hC
        have hec : en ≤ c2 := by omega
        clear d1 d2 f1 f2 hcut hhead g3 hb1
        obtain ⟨d1, d2, f1, f2⟩ := hp3.cells
        go_wp2
        go_ret
        exact rasked_text Hv.out (hg4.trans (grown_set3 _ g 1 _)) (hp3.to q hql)
  · have hv2 : textA xs p e most = (⟨#[]⟩, p, failA e re) := by
      rw [hv]
      by_cases he : e = 0
      · subst he
        rw [if_pos rfl] at hf
        rw [if_neg (by simp), if_pos (by omega), hf]
      · rw [if_pos he, hf, if_neg he]
    have Hv := Lib.hid hv2
    have Hfail2 := Lib.hid (fun (ni : Int) (hni : ni = (re : Int)) w1 (h1 : RRd w1 g xs p e) => Hfail.out ni re e hni w1 h1)
    clear hv hv2 hf s4 Hfail
    generalize failA e re = er at *
    have hn1 : ((er : Int) == 0) = false := by simp; omega
    have hn2 : ((er : Int) != 0) = true := by simp; omega
    clear her
    go_enter Try.func59, Try.ntmps59
    go_wp2_with fail
    with_reducible refine (Hrest.out e _ H.out).mono ?_
    rintro e w0 ⟨A, c, rfl, g1, g2, g3, hb⟩
    go_wp2_with fail
    with_reducible refine (Hread.out A c _ g3 g1 g2).mono ?_
    rintro e w' ⟨rfl, rfl⟩
    have hp0 := H.out.on hb
    go_wp2_with fail
    with_reducible refine (Hfail2.out _ (by simp) _ hp0).mono ?_
    rintro e w1 ⟨rfl, hg, hp⟩
    obtain ⟨d1, d2, f1, f2⟩ := hp.cells
    have hg0 := (below_grown (r := some g) hb).trans hg
    clear g3
    go_wp2
    go_ret
    exact rasked_text Hv.out hg0 hp
end Go.Proofs.Ytnkkhplddjopnaa
