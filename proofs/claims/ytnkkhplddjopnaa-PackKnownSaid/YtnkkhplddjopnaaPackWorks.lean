/- Layer 3, walked: the chapter's examples. -/
import Derived.Test.YtnkkhplddjopnaaPackTakes
set_option linter.unusedVariables false
set_option linter.unusedSimpArgs false
namespace Go.Proofs.Ytnkkhplddjopnaa
open Go.RowKit
theorem grown_under {w w' : World} {g B : Nat} (h : w.grownBy w' (some g)) (hB : B ≤ w.heap.size) (hg : B ≤ g) : Below B w w' :=
  ⟨h.os, h.tape, h.output, h.size, fun k hk => h.block k (by omega) (by simp; omega)⟩
/-- A writer behind a piece, as one fact. -/
theorem Wr.next {w w' : World} {base g : Nat} {r : Option Nat} {B b B' : List UInt8} {most : Int} {full full' : Bool} {e : Ending} (h : Wr base g r B most full b w e w') (hp : PWr w base g r B most full) (hb : base ≤ w.heap.size) (hv : rawB B most full b = (B', full')) :
    e = .returned (.tuple #[]) ∧ Below base w w' ∧ ∃ r', PWr w' base g r' B' most full' := by
  obtain ⟨h1, h2, r', h3, h4⟩ := h
  rw [hv] at h4
  exact ⟨h1, h2.below hb hp.lt.2.1 (fun k hk => (hp.lt.2.2 k hk).1), r', h4⟩
theorem Asked.next {w w' : World} {g B : Nat} {xs : List UInt8} {v v' : Value} {p e p' e2 : Nat} {e' : Ending} (h : Asked g xs v p e w e' w') (hv : v = v' ∧ p = p' ∧ e = e2) (hB : B ≤ w.heap.size) (hg : B ≤ g) : e' = .returned v' ∧ Below B w w' ∧ PRd w' g xs p' e2 := by
  obtain ⟨rfl, rfl, rfl⟩ := hv
  exact ⟨h.1, grown_under h.2.1 hB hg, h.2.2⟩
set_option maxRecDepth 100000 in
set_option maxHeartbeats 4000000 in
theorem works_any (w : World) :
    Calls Try.prog 20 #[] w fun e w' => e = .returned (.bool true) ∧ Below w.heap.size w w' := by
  obtain ⟨g, hg⟩ : ∃ g, g = w.heap.size := ⟨_, rfl⟩
  have h0 : Calls Try.prog 11 #[.int .i64 6] w fun e w' => e = .returned (.pointer (some ⟨g, 0, none⟩)) ∧ PWr w' g g none [] 6 false ∧ Below g w w' ∧ g < w'.heap.size := by
    subst hg
    exact newW_any 6 w (by decide) (by decide)
  rw [← hg]
  go_enter Try.func20, Try.ntmps20
  go_wp2_with fail
  with_reducible refine (h0).mono ?_
  rintro e w1 ⟨rfl, hp, hb, hs⟩
  have Hz := Lib.hid (Nat.le_of_eq hg)
  clear h0 hs hg
  go_wp2_with fail
  refine (wbyte_any g g none [] 6 false 7 _ hp (by decide) (by decide) (by decide) (by decide)).mono ?_
  rintro e w2 hw
  obtain ⟨rfl, hb2, r2, hp2⟩ := hw.next (hp) (Nat.le_trans Hz.out (by first | exact hb.size | exact Nat.le_trans hb.size (by simp))) (B' := [7]) (full' := false) (by decide)
  clear hw hp
  replace hb := hb.trans hb2
  clear hb2
  go_wp2_with fail
  refine (wtext_any g g r2 [7] 6 false ⟨#[97, 98]⟩ _ hp2 (by decide) (by decide) (by decide) (by decide)).mono ?_
  rintro e w3 hw
  obtain ⟨rfl, hb2, r3, hp3⟩ := hw.next (hp2) (Nat.le_trans Hz.out (by first | exact hb.size | exact Nat.le_trans hb.size (by simp))) (B' := [7, 2, 97, 98]) (full' := false) (by decide)
  clear hw hp2
  replace hb := hb.trans hb2
  clear hb2
  go_wp2_with fail
  refine (wint_any g g r3 [7, 2, 97, 98] 6 false (-1) _ hp3 (by decide) (by decide) (by decide) (by decide) (by decide)).mono ?_
  rintro e w4 hw
  obtain ⟨rfl, hb2, r4, hp4⟩ := hw.next (hp3) (Nat.le_trans Hz.out (by first | exact hb.size | exact Nat.le_trans hb.size (by simp))) (B' := [7, 2, 97, 98, 1]) (full' := false) (by decide)
  clear hw hp3
  replace hb := hb.trans hb2
  clear hb2
  go_wp2_with fail
  refine (wdone_any g g r4 [7, 2, 97, 98, 1] 6 false _ hp4 (by decide)).mono ?_
  rintro e w5 ⟨hb2, A, c, rfl, k1, k2, o1⟩
  have r5 := own_reads o1
  have hp5 := hp4.on hb2
  replace hb := hb.trans (hb2.mono (Nat.le_trans Hz.out hb.size))
  clear hb2 hp4 o1
  have hl : Calls Try.prog 17 #[.pointer (some ⟨g, 0, none⟩)] w5 fun e w' => e = .returned (.int .i64 5) ∧ w5 = w' := wlen_any g g r4 [7, 2, 97, 98, 1] 6 false w5 hp5
  go_wp2_with fail
  with_reducible refine (hl).mono ?_
  rintro e w' ⟨rfl, rfl⟩
  clear hl
  go_wp2_with fail
  refine (eq_yes _ _ _ _ _ _ [7, 2, 97, 98, 1] [7, 2, 97, 98, 1] _ (r5.al _) (by exact reads_lit _ _ _ _ _ _ (by simp) rfl rfl) rfl).mono ?_
  rintro e w' ⟨rfl, rfl⟩
  go_wp2_with fail
  refine (wword_any g g r4 [7, 2, 97, 98, 1] 6 false 1 _ (hp5.on (by exact bal (Below.refl _ _) _)) (by decide) (by decide) (by decide) (by decide)).mono ?_
  rintro e w6 hw
  obtain ⟨rfl, hb2, r6, hp6⟩ := hw.next (hp5.on (by exact bal (Below.refl _ _) _)) (Nat.le_trans Hz.out (by first | exact hb.size | exact Nat.le_trans hb.size (by simp))) (B' := [7, 2, 97, 98, 1]) (full' := true) (by decide)
  clear hw hp5
  replace hb := (hb.alloc (Nat.le_trans Hz.out hb.size) _).trans hb2
  clear hb2
  have hl : Calls Try.prog 17 #[.pointer (some ⟨g, 0, none⟩)] w6 fun e w' => e = .returned (.int .i64 5) ∧ w6 = w' := wlen_any g g r6 [7, 2, 97, 98, 1] 6 true w6 hp6
  go_wp2_with fail
  with_reducible refine (hl).mono ?_
  rintro e w' ⟨rfl, rfl⟩
  clear hl
  go_wp2_with fail
  refine (wbyte_any g g r6 [7, 2, 97, 98, 1] 6 true 1 _ hp6 (by decide) (by decide) (by decide) (by decide)).mono ?_
  rintro e w7 hw
  obtain ⟨rfl, hb2, r7, hp7⟩ := hw.next (hp6) (Nat.le_trans Hz.out (by first | exact hb.size | exact Nat.le_trans hb.size (by simp))) (B' := [7, 2, 97, 98, 1]) (full' := true) (by decide)
  clear hw hp6
  replace hb := hb.trans hb2
  clear hb2
  go_wp2_with fail
  refine (wdone_any g g r7 [7, 2, 97, 98, 1] 6 true _ hp7 (by decide)).mono ?_
  rintro e w8 ⟨hb2, rfl⟩
  have hp8 := hp7.on hb2
  replace hb := hb.trans (hb2.mono (Nat.le_trans Hz.out hb.size))
  clear hb2 hp7
  go_wp2_with fail
  refine (pnew_any _ _ _ [5, 3, 97] _ (by exact reads_lit _ _ _ _ _ _ (by simp) rfl rfl) (by decide)).mono ?_
  rintro e w9 ⟨q, rfl, hq, hr, hb2⟩
  have hqg : g ≤ q := Nat.le_trans (Nat.le_trans Hz.out hb.size) (Nat.le_trans (by simp) hq)
  replace hb := (hb.alloc (Nat.le_trans Hz.out hb.size) _).trans (hb2.mono (Nat.le_trans (Nat.le_trans Hz.out hb.size) (by simp)))
  have Hqg := Lib.hid hqg
  clear hb2 hq hqg
  go_wp2_with fail
  refine (pbyte_any q [5, 3, 97] 0 0 _ hr (by decide)).mono ?_
  rintro e w10 hw
  obtain ⟨rfl, hb2, hr2⟩ := hw.next (v' := .int .u8 5) (p' := 1) (e2 := 0) ⟨by rfl, by rfl, by rfl⟩ (Nat.le_trans Hz.out hb.size) Hqg.out
  clear hw hr
  replace hb := hb.trans hb2
  clear hb2
  rename PRd _ _ _ _ _ => hr
  go_wp2_with fail
  refine (ptext_any q [5, 3, 97] 1 0 9 _ hr (by decide) (by decide)).mono ?_
  rintro e w11 hw
  obtain ⟨rfl, hb2, hr2⟩ := hw.next (v' := .string ⟨#[]⟩) (p' := 1) (e2 := 3) ⟨by rfl, by rfl, by rfl⟩ (Nat.le_trans Hz.out hb.size) Hqg.out
  clear hw hr
  replace hb := hb.trans hb2
  clear hb2
  rename PRd _ _ _ _ _ => hr
  go_wp2_with fail
  refine (perr_any q [5, 3, 97] 1 3 _ hr).mono ?_
  rintro e w' ⟨rfl, rfl⟩
  go_wp2_with fail
  refine (pat_any q [5, 3, 97] 1 3 _ hr).mono ?_
  rintro e w' ⟨rfl, rfl⟩
  go_wp2_with fail
  refine (pbyte_any q [5, 3, 97] 1 3 _ hr (by decide)).mono ?_
  rintro e w12 hw
  obtain ⟨rfl, hb2, hr2⟩ := hw.next (v' := .int .u8 0) (p' := 1) (e2 := 3) ⟨by rfl, by rfl, by rfl⟩ (Nat.le_trans Hz.out hb.size) Hqg.out
  clear hw hr
  replace hb := hb.trans hb2
  clear hb2
  rename PRd _ _ _ _ _ => hr
  go_wp2_with fail
  refine (pleft_any q [5, 3, 97] 1 3 _ hr).mono ?_
  rintro e w' ⟨rfl, rfl⟩
  go_wp2_with fail
  refine (pend_any q [5, 3, 97] 1 3 _ hr).mono ?_
  rintro e w' ⟨rfl, rfl⟩
  clear hr Hqg
  go_wp2_with fail
  refine (pnew_any _ _ _ [128, 0, 1] _ (by exact reads_lit _ _ _ _ _ _ (by simp) rfl rfl) (by decide)).mono ?_
  rintro e w13 ⟨q, rfl, hq, hr, hb2⟩
  have hqg : g ≤ q := Nat.le_trans (Nat.le_trans Hz.out hb.size) (Nat.le_trans (by simp) hq)
  replace hb := (hb.alloc (Nat.le_trans Hz.out hb.size) _).trans (hb2.mono (Nat.le_trans (Nat.le_trans Hz.out hb.size) (by simp)))
  have Hqg := Lib.hid hqg
  clear hb2 hq hqg
  go_wp2_with fail
  refine (pvar_any q [128, 0, 1] 0 0 _ hr (by decide)).mono ?_
  rintro e w14 hw
  obtain ⟨rfl, hb2, hr2⟩ := hw.next (v' := .int .u64 0) (p' := 0) (e2 := 10) ⟨by rfl, by rfl, by rfl⟩ (Nat.le_trans Hz.out hb.size) Hqg.out
  clear hw hr
  replace hb := hb.trans hb2
  clear hb2
  rename PRd _ _ _ _ _ => hr
  go_wp2_with fail
  refine (pfail_any q [128, 0, 1] 0 10 2 _ hr).mono ?_
  rintro e w15 hw
  obtain ⟨rfl, hb2, hr2⟩ := hw.next (v' := .tuple #[]) (p' := 0) (e2 := 10) ⟨by rfl, by rfl, by rfl⟩ (Nat.le_trans Hz.out hb.size) Hqg.out
  clear hw hr
  replace hb := hb.trans hb2
  clear hb2
  rename PRd _ _ _ _ _ => hr
  go_wp2_with fail
  refine (perr_any q [128, 0, 1] 0 10 _ hr).mono ?_
  rintro e w' ⟨rfl, rfl⟩
  clear hr Hqg
  go_wp2_with fail
  refine (pnew_any _ _ _ [1, 2] _ (by exact reads_lit _ _ _ _ _ _ (by simp) rfl rfl) (by decide)).mono ?_
  rintro e w16 ⟨q, rfl, hq, hr, hb2⟩
  have hqg : g ≤ q := Nat.le_trans (Nat.le_trans Hz.out hb.size) (Nat.le_trans (by simp) hq)
  replace hb := (hb.alloc (Nat.le_trans Hz.out hb.size) _).trans (hb2.mono (Nat.le_trans (Nat.le_trans Hz.out hb.size) (by simp)))
  have Hqg := Lib.hid hqg
  clear hb2 hq hqg
  go_wp2_with fail
  refine (praw_any q [1, 2] 0 0 1 _ hr (by decide)).mono ?_
  rintro e w17 ⟨A, c, rfl, k1, k2, o1, hg1, hr2⟩
  change World.ownsRow _ _ _ _ (.slice A 1 c) 1 (u8s [1]) at o1
  change PRd _ _ _ 1 0 at hr2
  have r5 := own_reads o1
  replace hb := hb.trans (grown_under hg1 (Nat.le_trans Hz.out hb.size) Hqg.out)
  clear hr hg1 o1
  rename PRd _ _ _ _ _ => hr
  go_wp2_with fail
  refine (eq_yes _ _ _ _ _ _ [1] [1] _ (r5.al _) (by exact reads_lit _ _ _ _ _ _ (by simp) rfl rfl) rfl).mono ?_
  rintro e w' ⟨rfl, rfl⟩
  go_wp2_with fail
  refine (pend_any q [1, 2] 1 0 _ (hr.on (by exact bal (Below.refl _ _) _))).mono ?_
  rintro e w' ⟨rfl, rfl⟩
  go_wp2_with fail
  refine (perr_any q [1, 2] 1 0 _ (hr.on (by exact bal (Below.refl _ _) _))).mono ?_
  rintro e w' ⟨rfl, rfl⟩
  go_wp2_with fail
  refine (ptext_any q [1, 2] 1 0 1 _ (hr.on (by exact bal (Below.refl _ _) _)) (by decide) (by decide)).mono ?_
  rintro e w18 hw
  obtain ⟨rfl, hb2, hr2⟩ := hw.next (v' := .string ⟨#[]⟩) (p' := 1) (e2 := 5) ⟨by rfl, by rfl, by rfl⟩ (Nat.le_trans Hz.out (Nat.le_trans hb.size (by simp))) Hqg.out
  clear hw hr
  replace hb := (hb.alloc (Nat.le_trans Hz.out hb.size) _).trans hb2
  clear hb2
  rename PRd _ _ _ _ _ => hr
  go_wp2_with fail
  refine (perr_any q [1, 2] 1 5 _ hr).mono ?_
  rintro e w' ⟨rfl, rfl⟩
  go_wp2
  go_ret
  exact ⟨rfl, hb⟩
end Go.Proofs.Ytnkkhplddjopnaa
