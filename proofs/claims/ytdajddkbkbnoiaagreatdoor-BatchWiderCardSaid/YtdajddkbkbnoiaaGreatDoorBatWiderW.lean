/- The law BatchWider, walked. -/
import Derived.Test.YtdajddkbkbnoiaaGreatDoorBp20
set_option linter.unusedVariables false
set_option linter.unusedSimpArgs false
namespace Go.Proofs.YtdajddkbkbnoiaaGreatDoor
open Go.RowKit
/-- Columns of which i have been made wider. -/
def widTo (l : List Co) (i : Nat) : List Co := (l.take i).map widC ++ l.drop i
theorem widTo_zero (l : List Co) : widTo l 0 = l := by simp [widTo]
theorem widTo_all (l : List Co) (i : Nat) (h : l.length ≤ i) : widTo l i = l.map widC := by
  unfold widTo
  rw [List.take_of_length_le h, List.drop_of_length_le h, List.append_nil]
theorem widTo_at (l : List Co) (i : Nat) : (widTo l i)[i]? = l[i]? := by
  unfold widTo
  rcases Nat.lt_or_ge i l.length with h | h
  · rw [List.getElem?_append_right (by simp; omega), List.length_map, List.length_take, Nat.min_eq_left (by omega), Nat.sub_self, List.getElem?_drop]
    rfl
  · rw [List.getElem?_eq_none (by simp; omega), List.getElem?_eq_none h]
theorem widTo_succ {l : List Co} {i : Nat} {c : Co} (h : l[i]? = some c) : widTo l (i + 1) = (l.take i).map widC ++ widC c :: l.drop (i + 1) := by
  unfold widTo
  rw [List.take_add_one, h, List.map_append]
  simp
theorem widTo_here {l : List Co} {i : Nat} {c : Co} (h : l[i]? = some c) : widTo l i = (l.take i).map widC ++ c :: l.drop (i + 1) := by
  unfold widTo
  have hi := (List.getElem?_eq_some_iff.1 h).1
  rw [List.drop_eq_getElem_cons hi]
  have := (List.getElem?_eq_some_iff.1 h).2
  rw [this]
theorem widC_same {c : Co} (h : c.2.2.1 ≠ 2) : widC c = c := by
  obtain ⟨i, nm, k, r⟩ := c
  simp only at h
  simp [widC, h]
theorem cos_app (a b : List Co) : cos (a ++ b) = cos a ++ cos b := by simp [cos]
theorem cos_set (a b : List Co) (c : Co) (h : c.2.2.1 = 2) : (cos (a ++ c :: b)).set (a.length * 7 + 2) (.int .i64 3) = cos (a ++ widC c :: b) := by
  have hl := cos_length a
  rw [cos_app, cos_app, List.set_append_right _ _ (by omega), show a.length * 7 + 2 - (cos a).length = 2 by omega]
  congr 1
  show (coV c ++ cos b).set 2 _ = coV (widC c) ++ cos b
  obtain ⟨i, nm, k, r⟩ := c
  simp only at h
  subst h
  rfl
theorem widTo_set {l : List Co} {i : Nat} {c : Co} (h : l[i]? = some c) (h2 : c.2.2.1 = 2) : (cos (widTo l i)).set (i * 7 + 2) (.int .i64 3) = cos (widTo l (i + 1)) := by
  have hi := (List.getElem?_eq_some_iff.1 h).1
  rw [widTo_succ h, widTo_here h]
  have := cos_set ((l.take i).map widC) (l.drop (i + 1)) c h2
  rwa [List.length_map, List.length_take, Nat.min_eq_left (by omega)] at this
theorem widTo_len (l : List Co) (i : Nat) : (widTo l i).length = l.length := by
  unfold widTo
  simp
  omega
set_option maxRecDepth 100000 in
set_option maxHeartbeats 4000000 in
theorem batchWider_walk (A : Option Addr) (n c : Nat) (l : List Co) (v s : Int) (I : Option Addr) (m d : Nat) (li : List It) (w : World) (hr : Reads w w.heap.size 7 A n (cos l)) (hn : n ≤ c) (hc : c ≤ maxLen) (hok : CoOk l)
    (hv : -9223372036854775808 ≤ v ∧ v ≤ 9223372036854775807) (hs : -9223372036854775808 ≤ s ∧ s ≤ 9223372036854775807) (hi : ItemsAt w w.heap.size I m li) (hm : m ≤ d) (hd : d ≤ maxLen) (hit : ItOk li) (hT : Tab2 w.heap.size w) :
    Calls Tryz.prog 12 #[.slice A n c, .agg #[.int .i64 v, .int .i64 s, .slice I m d]] w fun e w' => e = .returned (.bool true) ∧ Below w.heap.size w w' := by
  have Hr := Lib.hid hr
  have HT := Lib.hid hT
  have Hi := Lib.hid hi
  have Hit := Lib.hid hit
  have Hs := Lib.hid hs.2
  have hmm : m ≤ maxLen := Nat.le_trans hm hd
  have HP := Lib.hid (Blk.new w 25 #[.int .i64 v, .int .i64 s, .slice I m d])
  have HB := Lib.hid (bal (Below.refl w.heap.size w) (.cells #[.int .i64 v, .int .i64 s, .slice I m d] 25))
  clear hr hT hi hit hs hv hm hd hok
  go_enter Tryz.func12, Tryz.ntmps12
  go_wp2
  generalize hW : w.alloc (.cells #[.int .i64 v, .int .i64 s, .slice I m d] 25) = W1 at *
  clear hW
  have HL0 := Lib.hid (show ∀ w', Below W1.heap.size W1 w' → w'.cell? ⟨w.heap.size, 0, none⟩ = some (.int .i64 v) from fun w' h => (HP.out.on h).cell 0)
  have HL1 := Lib.hid (show ∀ w', Below W1.heap.size W1 w' → w'.cell? ⟨w.heap.size, 1, none⟩ = some (.int .i64 s) from fun w' h => (HP.out.on h).cell 1)
  have HL2 := Lib.hid (show ∀ w', Below W1.heap.size W1 w' → w'.cell? ⟨w.heap.size, 2, none⟩ = some (.slice I m d) from fun w' h => (HP.out.on h).cell 2)
  have hS : Below W1.heap.size W1 W1.drew := (Below.refl _ _).drew
  refine wp_region_phase (fun w' => Below W1.heap.size W1 w') [0, 2] [(0, false), (2, false), (1, true), (3, true)] (fun _ => True) [(4, false), (5, true)] (by kernel_rfl) (by kernel_rfl) (by kernel_rfl) (fun d _ _ _ _ h => by cases d <;> exact h) ?_
  refine phase_pure (v := ?_) rfl rfl (by simp [Region.wanted, yielded]) hS ?_ ?_
  rotate_left
  · intro w hw; go_simp; try with_reducible rfl
  try simp only [Act.put, List.setIfInBounds_toArray, List.set_cons_succ, List.set_cons_zero]
  refine phase_pure (v := ?_) rfl rfl (by simp [Region.wanted, yielded]) hS ?_ ?_
  rotate_left
  · intro w hw; have c0 := HL0.out w hw; have c1 := HL1.out w hw; have c2 := HL2.out w hw; clear hw; go_simp; try with_reducible rfl
  try simp only [Act.put, List.setIfInBounds_toArray, List.set_cons_succ, List.set_cons_zero]
  refine phase_eff1 rfl (by simp [Region.wanted, yielded]) fun K hK => ?_
  go_simp
  with_reducible refine (columns17_any A n c l _ (Hr.out.on (bon HB.out hS)) hn hc).mono ?_
  rintro e w2 ⟨A1, k1, c1, rfl, hk1, o1, hb2⟩
  have HS2 := Lib.hid (bon hS hb2)
  have HO := Lib.hid o1
  clear o1 hb2
  refine held_go hK (by exact HS2.out) fun hS => ?_
  clear hK K
  try simp only [Act.put, List.setIfInBounds_toArray, List.set_cons_succ, List.set_cons_zero]
  refine phase_eff1 rfl (by simp [Region.wanted, yielded]) fun K hK => ?_
  go_simp
  with_reducible refine (cut17_any v s I m d li _ (Hi.out.on (bon HB.out HS2.out)) hmm Hit.out).mono ?_
  rintro e w3 ⟨A3, k3, c3, rfl, o3, hb3⟩
  have HS3 := Lib.hid (bon HS2.out hb3)
  have HO := Lib.hid (own_below HO.out hb3)
  have HIo := Lib.hid o3
  clear o3 hb3
  refine held_go hK (by exact HS3.out) fun hS => ?_
  clear hK K
  try simp only [Act.put, List.setIfInBounds_toArray, List.set_cons_succ, List.set_cons_zero]
  refine phase_end ?_
  have HP3 := Lib.hid (HP.out.on HS3.out)
  have HBc := Lib.hid (bon HB.out HS3.out)
  clear hS HL0 HL1 HL2 HS2 HS3 HP
  have hS : True := trivial
  refine held_pure (v := ?_) rfl rfl (by simp [Region.wanted, yielded]) hS ?_ ?_
  rotate_left
  · intro w hw; go_simp; try with_reducible rfl
  try simp only [Act.put, List.setIfInBounds_toArray, List.set_cons_succ, List.set_cons_zero]
  have a0 := HP3.out.cell 0
  have a1 := HP3.out.cell 1
  have a2 := HP3.out.cell 2
  have f0 := HP3.out.frozen 0
  have f1 := HP3.out.frozen 1
  have f2 := HP3.out.frozen 2
  refine held_eff1 rfl (by simp [Region.wanted, yielded]) fun K hK => ?_
  go_simp
  clear a0 a1 a2 f0 f1 f2
  obtain ⟨w4, hw4⟩ : ∃ w4, w4 = ((w3.setCell ⟨w.heap.size, 0, none⟩ (.int .i64 v)).setCell ⟨w.heap.size, 1, none⟩ (.int .i64 s)).setCell ⟨w.heap.size, 2, none⟩ (.slice A3 k3 c3) := ⟨_, rfl⟩
  obtain ⟨g1, g2, g3, g4, -, -⟩ := box_put HP3.out HIo.out hw4
  rw [← hw4]
  have hk3 : k3 ≤ 30 := by
    have := HIo.out.len
    have := cutl_len li
    omega
  have H := Lib.hid (show LawB w A1 k1 (l.take 40) v s A3 k3 c3 (cutl li) w4 from ⟨HBc.out.trans (g3 _ (Nat.le_refl _)), g1, own_reads (g4 HO.out (by decide)), g2.at_, HT.out.on (HBc.out.trans (g3 _ (Nat.le_refl _))), hk1, hk3, cutl_ok Hit.out, Hs.out⟩)
  generalize l.take 40 = lc at H
  clear hw4 g1 g2 g3 g4 HP3 HO HIo HBc
  refine held_go hK (by exact trivial) fun hS => ?_
  clear hK K
  try simp only [Act.put, List.setIfInBounds_toArray, List.set_cons_succ, List.set_cons_zero]
  refine held_end ?_
  clear HB Hr Hi Hit Hs
  generalize cutl li = lb at H
  have a0 := H.out.box.cell 0
  have a1 := H.out.box.cell 1
  have a2 := H.out.box.cell 2
  go_wp2_with fail
  with_reducible refine (benc_any A1 k1 c1 lc v s A3 k3 c3 lb _ H.out.cols H.out.max1 H.out.items H.out.max2 H.out.baok H.out.ok H.out.tab).mono ?_
  rintro e w5 ⟨hb5, ⟨hE, A5, c5, rfl, ho⟩ | ⟨hE, rfl⟩⟩
  · have hf := (fits_iff _ _).1 hE
    have hbk := hf.wid_back H.out.baok
    have hle := hf.enc_le
    have hcc := own_caps ho
    generalize encA lc (v, s, lb) = xs at *
    obtain ⟨xl, hxl⟩ : ∃ xl, xs.length = xl := ⟨_, rfl⟩
    rw [hxl] at ho hle hcc ⊢
    have HX := Lib.hid (own_reads ho)
    have Hbk := Lib.hid hbk
    have Hcc := Lib.hid hcc
    have H := Lib.hid (H.out.on hb5)
    have hk1x := H.out.le1
    clear a0 a1 a2 ho hb5 hbk hf hE hcc hxl
    go_wp2_with fail
    with_reducible refine (copyCols_any A1 k1 c1 lc _ H.out.cols (by omega)).mono ?_
    rintro e w6 ⟨A6, c6, rfl, p1, p2, p3, p4⟩
    have HW := Lib.hid (show w6.ownsRow w5.heap.size 62 7 (.slice A6 k1 c6) k1 (cos (widTo lc 0)) by rw [widTo_zero]; exact p3)
    have HB6 := Lib.hid p4
    have Hln := Lib.hid (cos_len H.out.cols)
    clear p1 p2 p3 p4
    go_wp2
    go_loopw [8] (fun ix wr => ∃ i : Nat, i ≤ k1 ∧ ix = .int .i64 (i : Int) ∧ Hid (wr.ownsRow w5.heap.size 62 7 (.slice A6 k1 c6) k1 (cos (widTo lc i))) ∧ Hid (Below w5.heap.size w5 wr)) (fun ix _ => k1 - (intOf ix).toNat)
    case atStart => exact ⟨0, Nat.zero_le _, rfl, HW, HB6⟩
    case round =>
      clear HW HB6
      obtain ⟨i, hi, rfl, HW, HB6⟩ := hrel
      by_cases hlt : i < k1
      · have d1 : decide ((i : Int) < (k1 : Int)) = true := by simp; omega
        have hil : i < lc.length := by rw [Hln.out]; exact hlt
        obtain ⟨co, hco⟩ : ∃ co, lc[i]? = some co := ⟨_, List.getElem?_eq_getElem hil⟩
        obtain ⟨ad, co2, rfl, hbk3, hco2, hat⟩ := cos_at (own_reads HW.out) hlt
        rw [widTo_at, hco] at hco2
        cases hco2
        obtain ⟨g, cap, hv, hg, hglt⟩ := HW.out.form (by omega)
        have hadg : ad = ⟨g, 0, none⟩ := by injection hv with h1; injection h1
        subst hadg
        have hadd : (⟨g, 0, none⟩ : Addr).add (i * 7) = ⟨g, i * 7, none⟩ := by unfold Addr.add; split <;> simp_all
        rw [hadd] at hat
        have c2 : wr.cell? ⟨g, i * 7 + 2, none⟩ = some (.int .i64 co.2.2.1) := hat.c2
        have f2 := HW.out.frozenAt (i * 7 + 2)
        have hji : (i : Int) < (k1 : Int) := by omega
        have Hco := Lib.hid hco
        have hi1 : i + 1 ≤ k1 := hlt
        clear hat hadd hbk3 hv hco hil
        by_cases hk : co.2.2.1 = 2
        · have HW2 := Lib.hid (HW.out.stored (i * 7 + 2) (.int .i64 3)).1
          rw [widTo_set Hco.out hk] at HW2
          have HB7 := Lib.hid (HB6.out.setCell (p := ⟨g, i * 7 + 2, none⟩) hg (.int .i64 3))
          rw [hk] at c2
          clear hk Hco
          go_wp2
          go_roundw
          case rel => exact ⟨i + 1, hi1, by go_num, HW2, HB7⟩
          case measure => simp [intOf]; omega
        · have HW2 := HW.out
          have hsame : widTo lc (i + 1) = widTo lc i := by rw [widTo_succ Hco.out, widTo_here Hco.out, widC_same hk]
          rw [← hsame] at HW2
          have HW2 := Lib.hid HW2
          have d2 : (co.2.2.1 == 2) = false := by simpa using hk
          generalize co.2.2.1 = kk at c2 d2
          clear hk Hco hsame
          go_wp2
          go_roundw
          case rel => exact ⟨i + 1, hi1, by go_num, HW2, HB6⟩
          case measure => simp [intOf]; omega
      · have d1 : decide ((i : Int) < (k1 : Int)) = false := by simp; omega
        have HW2 := HW.out
        rw [widTo_all lc i (by rw [Hln.out]; omega)] at HW2
        have HWr := Lib.hid (own_reads HW2)
        have H := Lib.hid (H.out.on HB6.out)
        have HX := Lib.hid (HX.out.on HB6.out)
        clear HW2 HW HB6
        have hk1m : k1 ≤ maxLen := Nat.le_trans hk1 (by decide)
        go_wp2_with fail
        with_reducible refine (bdec_any A6 k1 c6 (lc.map widC) A5 xl c5 xs _ HWr.out hk1m HX.out Hcc.out.1 Hcc.out.2 H.out.tab).mono ?_
        rw [Hbk.out]
        rintro e w7 ⟨hb7, J, kk, dd, rfl, hio⟩
        simp only
        have HJ := Lib.hid (hio.at_.al (.cells #[.int .i64 v, .int .i64 s, .slice J kk dd] 25))
        have H := Lib.hid ((H.out.on hb7).al (.cells #[.int .i64 v, .int .i64 s, .slice J kk dd] 25))
        have a0 := H.out.box.cell 0
        have a1 := H.out.box.cell 1
        have a2 := H.out.box.cell 2
        clear hio hb7 HX HWr
        go_wp2_with fail
        with_reducible refine (bsame_any v s A3 k3 c3 lb v s J kk dd lb _ H.out.items HJ.out H.out.max2).mono ?_
        rw [sameBa_self]
        rintro e w8 ⟨rfl, hb8⟩
        have H := Lib.hid (H.out.on hb8)
        clear hb8 a0 a1 a2 HJ
        go_wp2_with fail
        with_reducible refine (bworks_yes _ H.out.tab).mono ?_
        rintro e w9 ⟨rfl, hb9⟩
        have H := Lib.hid (H.out.on hb9)
        clear hb9
        go_wp2
        go_ret
        exact ⟨rfl, H.out.below⟩
  · have H := Lib.hid (H.out.on hb5)
    generalize batE lc (v, s, lb) = E at *
    have d1 : (E != 0) = true := by simpa using hE
    clear hb5 hE a0 a1 a2
    go_wp2_with fail
    with_reducible refine (bworks_yes _ H.out.tab).mono ?_
    rintro e w9 ⟨rfl, hb9⟩
    have H := Lib.hid (H.out.on hb9)
    clear hb9
    go_wp2
    go_ret
    exact ⟨rfl, H.out.below⟩
end Go.Proofs.YtdajddkbkbnoiaaGreatDoor
