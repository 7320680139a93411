/- Layer 3, walked: the document's reader: Left, End, Fail, NewReader, Raw, Byte, Word. -/
import Derived.Test.YtnkkhplddjopnaaPackRef
set_option linter.unusedVariables false
set_option linter.unusedSimpArgs false
namespace Go.Proofs.Ytnkkhplddjopnaa
open Go.RowKit
set_option maxRecDepth 100000 in
theorem rleft_any (g : Nat) (xs : List UInt8) (p e : Nat) (w : World) (h : RRd w g xs p e) :
    Calls Try.prog 29 #[.pointer (some ⟨g, 0, none⟩)] w fun e' w' => e' = .returned (.int .i64 ((xs.length - p : Nat) : Int)) ∧ Below w.heap.size w w' := by
  have Hcall := Lib.hid (rrest_any g xs p e w h)
  unfold RestP at Hcall
  generalize xs.length - p = m at *
  clear h
  go_enter Try.func29, Try.ntmps29
  go_wp2_with fail
  with_reducible refine (Hcall.out).mono ?_
  rintro e w' ⟨A, c, rfl, g1, g2, g3, hb⟩
  go_wp2
  go_ret
  exact ⟨rfl, hb⟩
theorem RRd.cells {w : World} {g : Nat} {xs : List UInt8} {p e : Nat} (h : RRd w g xs p e) : w.cell? ⟨g, 1, none⟩ = some (.int .i64 (p : Int)) ∧ w.cell? ⟨g, 2, none⟩ = some (.int .i64 (e : Int)) ∧ w.frozen? ⟨g, 1, none⟩ = false ∧ w.frozen? ⟨g, 2, none⟩ = false := by
  obtain ⟨_, A, c, h1, _⟩ := h
  exact ⟨h1.cell 1, h1.cell 2, h1.frozen 1, h1.frozen 2⟩
set_option maxRecDepth 100000 in
set_option maxHeartbeats 400000 in
theorem rend_any (g : Nat) (xs : List UInt8) (p e : Nat) (w : World) (h : RRd w g xs p e) :
    Calls Try.prog 31 #[.pointer (some ⟨g, 0, none⟩)] w fun e' w' => e' = .returned (.int .i64 (endE (xs.length - p) e : Int)) ∧ Below w.heap.size w w' := by
  have H := Lib.hid h
  have Hcall := Lib.hid (rleft_any g xs p e w h)
  obtain ⟨d1, d2, f1, f2⟩ := h.cells
  clear h
  generalize hm : xs.length - p = m at *
  clear hm
  by_cases he : e = 0
  · subst he
    by_cases hm0 : m = 0
    · subst hm0
      have hE : endE 0 0 = 0 := by unfold endE; rw [if_neg (by omega)]
      rw [hE]
      clear hE
      go_enter Try.func31, Try.ntmps31
      go_wp2_with fail
      with_reducible refine (Hcall.out).mono ?_
      rintro e w' ⟨rfl, hb⟩
      obtain ⟨d1, d2, f1, f2⟩ := (H.out.on hb).cells
      go_wp2
      go_ret
      exact ⟨rfl, hb⟩
    · have hE : endE m 0 = 30 := by unfold endE; rw [if_pos (by omega)]
      rw [hE]
      have d : decide (0 < (m : Int)) = true := by simp; omega
      have d3 : decide (0 < m) = true := by simp; omega
      clear hE
      go_enter Try.func31, Try.ntmps31
      go_wp2_with fail
      with_reducible refine (Hcall.out).mono ?_
      rintro e w' ⟨rfl, hb⟩
      clear hm0
      go_wp2
      go_ret
      exact ⟨rfl, hb⟩
  · have hE : endE m e = e := by unfold endE; rw [if_neg (by omega)]
    rw [hE]
    have hn : ((e : Int) == 0) = false := by simp; omega
    have hn2 : ((e : Int) != 0) = true := by simp; omega
    clear hE he
    go_enter Try.func31, Try.ntmps31
    go_wp2
    go_ret
    exact ⟨rfl, Below.refl _ _⟩
set_option maxRecDepth 100000 in
theorem rfail_any (g : Nat) (xs : List UInt8) (p e n : Nat) (ni : Int) (w : World) (h : RRd w g xs p e) (hni : ni = (n : Int)) :
    Calls Try.prog 62 #[.pointer (some ⟨g, 0, none⟩), .int .i64 ni] w (RAsked g xs (.tuple #[]) p (failA e n) w) := by
  subst hni
  have H := Lib.hid h
  obtain ⟨d1, d2, f1, f2⟩ := h.cells
  clear h
  by_cases he : e = 0
  · subst he
    have hv : failA 0 n = n := by unfold failA; rw [if_pos rfl]
    rw [hv]
    clear hv
    go_enter Try.func62, Try.ntmps62
    go_wp2
    go_end0
    exact ⟨rfl, grown_set3 w g 2 _, H.out.err n⟩
  · have hv : failA e n = e := by unfold failA; rw [if_neg he]
    rw [hv]
    have hn : ((e : Int) == 0) = false := by simp; omega
    clear hv he
    go_enter Try.func62, Try.ntmps62
    go_wp2
    go_end0
    exact ⟨rfl, below_grown (Below.refl _ _), H.out⟩
set_option maxRecDepth 100000 in
theorem rnew_any (A : Option Addr) (n c : Nat) (l : List UInt8) (w : World) (hr : Reads w w.heap.size 1 A n (u8s l)) (hn : n ≤ 35184372088832) :
    Calls Try.prog 23 #[.slice A n c] w fun e w' => ∃ g, e = .returned (.pointer (some ⟨g, 0, none⟩)) ∧ w.heap.size ≤ g ∧ RRd w' g l 0 0 ∧ Below w.heap.size w w' := by
  have Hcall := Lib.hid (copyBytes_any A n c l w hr hn)
  have hnl := reads_len hr
  go_enter Try.func23, Try.ntmps23
  go_wp2_with fail
  with_reducible refine (Hcall.out).mono ?_
  rintro e w1 ⟨A1, c1, rfl, g1, g2, o1, hb1⟩
  have hs1 := hb1.size
  have hr1 := own_reads o1
  clear o1
  subst hnl
  go_wp2
  go_ret
  refine ⟨_, rfl, hs1, ⟨Nat.zero_le _, A1, c1, Blk.new _ _ _, hr1.al _, ?_, g1, g2⟩, hb1.trans (((Below.refl _ _).alloc (Nat.le_refl _) _).mono hs1)⟩
  intro h0 ad hA
  obtain ⟨ad2, hA2, hlt, _⟩ := hr1.2 h0
  rw [hA] at hA2
  cases hA2
  omega
/-- What Raw of the document's does. -/
def RRawP (g : Nat) (xs : List UInt8) (p e : Nat) (n : Int) (w : World) (e' : Ending) (w' : World) : Prop :=
  ∃ (A : Option Addr) (c : Nat), e' = .returned (.slice A (rawA xs p e n).1.length c) ∧ (rawA xs p e n).1.length ≤ c ∧ c ≤ maxLen ∧ w'.ownsRow w.heap.size 5 1 (.slice A (rawA xs p e n).1.length c) (rawA xs p e n).1.length (u8s (rawA xs p e n).1) ∧ w.grownBy w' (some g) ∧ RRd w' g xs (rawA xs p e n).2.1 (rawA xs p e n).2.2
theorem rraw_err {g : Nat} {xs : List UInt8} {p e : Nat} {n : Int} {er : Nat} {w w' : World} (hv : rawA xs p e n = ([], p, er)) (hg : w.grownBy w' (some g)) (hp : RRd w' g xs p er) : RRawP g xs p e n w (.returned (.slice none 0 0)) w' := by
  unfold RRawP
  rw [hv]
  exact ⟨none, 0, rfl, Nat.le_refl _, by simp [maxLen], World.ownsRow_nil _ _ _ _, hg, hp⟩
theorem failA_ne (e n : Nat) (hn : n ≠ 0) : failA e n ≠ 0 := by unfold failA; split <;> assumption
set_option maxRecDepth 100000 in
set_option maxHeartbeats 1000000 in
theorem rraw_any2 (g : Nat) (xs : List UInt8) (p e : Nat) (n : Int) (w : World) (h : RRd w g xs p e) (hl : xs.length ≤ 1099511627776) :
    Calls Try.prog 60 #[.pointer (some ⟨g, 0, none⟩), .int .i64 n] w (RRawP g xs p e n w) := by
  have hglt := h.lt
  have hple := h.1
  have H := Lib.hid h
  by_cases hn0 : n < 0
  · have hv : rawA xs p e n = ([], p, failA e 6) := by
      unfold rawA rawE failA
      by_cases he : e = 0
      · rw [if_neg (by simpa using he), if_pos hn0, if_pos he]
      · rw [if_pos he, if_neg he]
    have Hv := Lib.hid hv
    have hne := failA_ne e 6 (by decide)
    have Hcall := Lib.hid (rfail_any g xs p e 6 6 w h rfl)
    unfold RAsked at Hcall
    generalize failA e 6 = er at *
    have hn1 : ((er : Int) == 0) = false := by simp; omega
    have hn2 : ((er : Int) != 0) = true := by simp; omega
    clear hv h hne
    go_enter Try.func60, Try.ntmps60
    go_wp2_with fail
    with_reducible refine (Hcall.out).mono ?_
    rintro e w1 ⟨rfl, hg, hp⟩
    obtain ⟨d1, d2, f1, f2⟩ := hp.cells
    go_wp2
    go_ret
    exact rraw_err Hv.out hg hp
  · obtain ⟨k, rfl⟩ := Int.eq_ofNat_of_zero_le (by omega : 0 ≤ n)
    have hlen : (xs.drop p).length = xs.length - p := List.length_drop
    have Hrest := Lib.hid (rrest_any g xs p e w h)
    unfold RestP at Hrest
    by_cases htr : xs.length - p < k
    · have hv : rawA xs p e (k : Int) = ([], p, failA e 3) := by
        unfold rawA rawE failA
        by_cases he : e = 0
        · rw [if_neg (by simpa using he), if_neg (by omega), if_pos (by rw [hlen]; omega), if_pos he]
        · rw [if_pos he, if_neg he]
      have Hv := Lib.hid hv
      have hne := failA_ne e 3 (by decide)
      have Hcall := Lib.hid (fun w1 h1 => rfail_any g xs p e 3 3 w1 h1 rfl)
      unfold RAsked at Hcall
      generalize failA e 3 = er at *
      have hn1 : ((er : Int) == 0) = false := by simp; omega
      have hn2 : ((er : Int) != 0) = true := by simp; omega
      have db : decide (((xs.length - p : Nat) : Int) < (k : Int)) = true := by simp; omega
      generalize xs.length - p = m at *
      clear hv h hne hlen hn0
      go_enter Try.func60, Try.ntmps60
      go_wp2_with fail
      with_reducible refine (Hrest.out).mono ?_
      rintro e w0 ⟨A, c, rfl, g1, g2, g3, hb⟩
      go_wp2_with fail
      with_reducible refine (Hcall.out _ (H.out.on hb)).mono ?_
      rintro e w1 ⟨rfl, hg, hp⟩
      obtain ⟨d1, d2, f1, f2⟩ := hp.cells
      have hg0 := (below_grown (r := some g) hb).trans hg
      clear g3
      go_wp2
      go_ret
      exact rraw_err Hv.out hg0 hp
    · have db : decide (((xs.length - p : Nat) : Int) < (k : Int)) = false := by simp; omega
      have hkm : k ≤ xs.length - p := by omega
      by_cases he : e = 0
      · subst he
        have hv : rawA xs p 0 (k : Int) = ((xs.drop p).take k, p + k, 0) := by
          unfold rawA rawE
          rw [if_neg (by simp), if_neg (by omega), if_neg (by rw [hlen]; omega)]
          rfl
        have hlk : ((xs.drop p).take k).length = k := by rw [List.length_take]; omega
        have hpk : p + k ≤ xs.length := by omega
        obtain ⟨q, hq⟩ : ∃ q, p + k = q := ⟨_, rfl⟩
        have hpk2 : (p : Int) + (k : Int) = (q : Int) := by omega
        rw [hq] at hv hpk
        have hpk64 : q ≤ 9223372036854775807 := by omega
        have Hv := Lib.hid hv
        have Hlk := Lib.hid hlk
        have Hrest2 := Lib.hid (fun w1 h1 => rrest_any g xs p 0 w1 h1)
        unfold RestP at Hrest2
        clear hv hlk hq h hlen hn0 htr
        generalize xs.length - p = m at *
        go_enter Try.func60, Try.ntmps60
        go_wp2_with fail
        with_reducible refine (Hrest.out).mono ?_
        rintro e w0 ⟨A, c, rfl, g1, g2, g3, hb⟩
        obtain ⟨d1, d2, f1, f2⟩ := (H.out.on hb).cells
        clear g3 g1 g2
        go_wp2_with fail
        with_reducible refine (Hrest2.out _ (H.out.on hb)).mono ?_
        rintro e w1 ⟨A1, c1, rfl, g1, g2, g3, hb1⟩
        have hkc : k ≤ c1 := by omega
        have hhead := g3.head (k := k) hkm
        rw [Nat.mul_one, u8s_take] at hhead
        clear d1 d2 f1 f2 g3
        go_wp2_with fail
        with_reducible refine (copyBytes_any A1 k c1 ((xs.drop p).take k) _ hhead (by omega)).mono ?_
        rintro e w2 ⟨A2, c2, rfl, j1, j2, o2, hb2⟩
        have hB := (hb.trans (hb1.mono hb.size))
        have hB2 := hB.trans (hb2.mono hB.size)
        have hq2 := H.out.on hB2
        have ho := own_mono o2 hB.size
        obtain ⟨d1, d2, f1, f2⟩ := hq2.cells
        clear hhead o2 hb1 hb2 hb
        go_wp2
        go_ret
        unfold RRawP
        rw [Hv.out]
        simp only []
        rw [Hlk.out]
        refine ⟨A2, c2, rfl, j1, j2, own_low ho hglt (grown_set3 _ g 1 _), (below_grown (r := some g) hB2).trans (grown_set3 _ g 1 _), ?_⟩
        exact hq2.to q hpk
      · have hv : rawA xs p e (k : Int) = ([], p, e) := by unfold rawA; rw [if_pos he]
        have Hv := Lib.hid hv
        have hn1 : ((e : Int) == 0) = false := by simp; omega
        have hn2 : ((e : Int) != 0) = true := by simp; omega
        clear hv h hlen hn0 htr he
        generalize xs.length - p = m at *
        go_enter Try.func60, Try.ntmps60
        go_wp2_with fail
        with_reducible refine (Hrest.out).mono ?_
        rintro e w0 ⟨A, c, rfl, g1, g2, g3, hb⟩
        obtain ⟨d1, d2, f1, f2⟩ := (H.out.on hb).cells
        clear g3
        go_wp2
        go_ret
        exact rraw_err Hv.out (below_grown hb) (H.out.on hb)
end Go.Proofs.Ytnkkhplddjopnaa
