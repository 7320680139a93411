/- Layer 15, walked: Get of the reference. -/
import Derived.Test.YtckaohkhknoocaaDictGet
set_option linter.unusedVariables false
set_option linter.unusedSimpArgs false
namespace Go.Proofs.Ytckaohkhknoocaa
open Go.RowKit
set_option maxRecDepth 100000 in
set_option maxHeartbeats 4000000 in
theorem refdget_any (A : Option Addr) (l c : Nat) (xs : List UInt8) (n most : Int) (w : World) (hr : Reads w w.heap.size 1 A l (u8s xs)) (hl : l ≤ c) (hc : c ≤ maxLen) (hn1 : -9223372036854775808 ≤ n) (hn2 : n ≤ 9223372036854775807) (hm : most ≤ 9223372036854775807) :
    Calls Try.prog 25 #[.slice A l c, .int .i64 n, .int .i64 most] w (Got3 (getDI xs n most) w) := by
  obtain ⟨i0, hi0, hz0, hz1, hz2⟩ := info_parts text_info
  have Hrl := Lib.hid (reads_len hr)
  have hc63 : c ≤ 9223372036854775807 := by unfold maxLen at hc; omega
  by_cases hn : n < 0 ∨ 1048576 < n
  · rw [getDI_bad xs n most hn]
    rcases hn with hn | hn
    all_goals
      go_enter Try.func25, Try.ntmps25
      go_wp2
      go_ret3
      exact got3_err rfl (Below.refl _ _)
  · obtain ⟨n, rfl⟩ := Int.eq_ofNat_of_zero_le (by omega : 0 ≤ n)
    rw [getDI_ok xs n most (by omega)]
    have hnn : n ≤ 1048576 := by omega
    clear hn hn1 hn2
    go_enter Try.func25, Try.ntmps25
    go_wp2_with fail
    with_reducible refine (refGet_any A l c xs _ hr hl hc).mono ?_
    rintro e w' ⟨rfl, rfl⟩
    have hgs := get_size xs
    rw [Hrl.out] at hgs
    have hdl : dictL xs n most = dictL xs n most := rfl
    conv at hdl => rhs; unfold dictL
    generalize get xs = rr at hgs hdl ⊢
    obtain ⟨rn, rk, re⟩ := rr
    obtain ⟨hk1, hk2, hk3⟩ := hgs
    simp only [gotten] at hk1 hk2 hk3 hdl ⊢
    by_cases hre : re = 0
    · subst hre
      rw [if_neg (by simp)] at hdl
      by_cases hlim : n < rn
      · rw [if_pos hlim] at hdl
        have Hres := Lib.hid (getN_dict hdl)
        clear hdl hk3
        go_wp2
        go_ret3
        exact got3_err Hres.out (Below.refl _ _)
      · rw [if_neg hlim] at hdl
        have Hdl := Lib.hid hdl.symm
        have hrn : rn ≤ 1048576 := by omega
        clear hdl hk3
        rw [show ((0 : Nat) : Int) = 0 from rfl]
        go_wp2
        go_loopw [10, 12, 13] (fun x u i wr => ∃ (k at2 : Nat) (Ad : Option Addr) (cd : Nat) (d : List ByteArray), k ≤ rn ∧ at2 ≤ l ∧ x = .int .i64 (at2 : Int) ∧ i = .int .i64 (k : Int) ∧ u = .slice Ad k cd ∧
          wr.ownsRow w.heap.size 9 1 (.slice Ad k cd) k (txs d) ∧ Hid (takeTexts most (rn - k) (xs.drop at2) d = dictL xs n most) ∧ Below w.heap.size w wr) (fun _ _ i _ => rn - (intOf i).toNat)
        case atStart => exact ⟨0, rk, none, 0, [], Nat.zero_le _, hk1, rfl, rfl, rfl, World.ownsRow_nil _ _ _ _, Hdl, Below.refl _ _⟩
        case round =>
          clear Hdl
          obtain ⟨k, at2, Ad, cd, d, hk, hat2, rfl, rfl, rfl, hownd, hdl, hB⟩ := hrel
          have hac : at2 ≤ c := by omega
          by_cases hlt : k < rn
          · have hd2 := hdl.out
            rw [show rn - k = (rn - (k + 1)) + 1 from by omega, takeTexts_succ] at hd2
            have hrw := (hr.below hB).more hB.size
            have hcut := hrw.cut (k := at2) (cap := c) hat2 hl
            rw [Nat.mul_one, u8s_drop] at hcut
            obtain ⟨A2, hA2⟩ : ∃ A2, (if c = at2 then A else Option.map (fun x => x.add at2) A) = A2 := ⟨_, rfl⟩
            rw [hA2] at hcut
            have hgs := get_size (xs.drop at2)
            rw [List.length_drop, Hrl.out] at hgs
            have htk : takeT most (xs.drop at2) = takeT most (xs.drop at2) := rfl
            conv at htk => rhs; unfold takeT
            rw [List.length_drop, Hrl.out] at htk
            have Hd2 := Lib.hid hd2
            have Htk := Lib.hid htk
            clear hd2 htk hdl
            go_wp2_with fail
            with_reducible refine (refGet_any A2 (l - at2) (c - at2) (xs.drop at2) _ hcut (by omega) (by simp only [maxLen]; omega)).mono ?_
            rintro e w' ⟨rfl, rfl⟩
            have htk := Htk.out
            have hd2 := Hd2.out
            generalize get (xs.drop at2) = ss at hgs htk ⊢
            obtain ⟨sn, sk, se⟩ := ss
            obtain ⟨hj1, hj2, hj3⟩ := hgs
            simp only [gotten] at hj1 hj2 hj3 htk ⊢
            clear Htk Hd2 hA2 hcut
            by_cases hse : se = 0
            · subst hse
              rw [if_neg (by simp)] at htk
              have hq : at2 + sk ≤ l := by omega
              by_cases hli : most < 0 ∨ most < (sn : Int)
              · rw [if_pos hli] at htk
                rw [htk] at hd2
                have Hres := Lib.hid (getN_dict hd2.symm)
                clear htk hd2 hj3
                rcases hli with h | h
                · go_wp2
                  go_ret3
                  exact got3_err Hres.out hB
                · by_cases hm0 : most < 0
                  · go_wp2
                    go_ret3
                    exact got3_err Hres.out hB
                  · obtain ⟨mo, rfl⟩ := Int.eq_ofNat_of_zero_le (by omega : 0 ≤ most)
                    go_wp2
                    go_ret3
                    exact got3_err Hres.out hB
              · rw [if_neg hli] at htk
                obtain ⟨mo, rfl⟩ := Int.eq_ofNat_of_zero_le (by omega : 0 ≤ most)
                have hmo : sn ≤ mo := by omega
                clear hli hj3
                by_cases hle : l - at2 - sk < sn
                · rw [if_pos hle] at htk
                  rw [htk] at hd2
                  have Hres := Lib.hid (getN_dict hd2.symm)
                  have db : (l : Int) - ((at2 : Int) + (sk : Int)) < (sn : Int) := by omega
                  have db2 : (0 : Int) ≤ (l : Int) - ((at2 : Int) + (sk : Int)) := by omega
                  clear htk hd2
                  go_wp2
                  go_ret3
                  exact got3_err Hres.out hB
                · rw [if_neg hle] at htk
                  rw [htk] at hd2
                  obtain ⟨q, hqq⟩ : ∃ q, q = at2 + sk := ⟨_, rfl⟩
                  obtain ⟨en, hen⟩ : ∃ en, en = q + sn := ⟨_, rfl⟩
                  have hql : q ≤ l := by omega
                  have hqe : q ≤ en := by omega
                  have hel : en - q ≤ l - q := by omega
                  have hec : en ≤ c := by omega
                  have hel2 : en ≤ l := by omega
                  have hcut := hrw.cut (k := q) (cap := c) hql hl
                  rw [Nat.mul_one, u8s_drop] at hcut
                  have hhead := hcut.head (k := en - q) hel
                  rw [Nat.mul_one, u8s_take] at hhead
                  have htxt : txt ((xs.drop q).take (en - q)) = txt (((xs.drop at2).drop sk).take sn) := by
                    rw [List.drop_drop, ← hqq, hen, Nat.add_sub_cancel_left]
                  obtain ⟨A3, hA3⟩ : ∃ A3, (if c = q then A else Option.map (fun x => x.add q) A) = A3 := ⟨_, rfl⟩
                  rw [hA3] at hhead
                  have hC := run_bytes_string wr 23 9 5 Try.underlying23 Try.underlying5 Try.underlying9 _ A3 (en - q) (c - q) _ hhead
                  change _ = Result.ok (Value.string (txt ((xs.drop q).take (en - q)))) wr at hC
                  rw [htxt] at hC
                  have hsum : (at2 : Int) + (sk : Int) = (q : Int) := by omega
                  have hsum2 : (q : Int) + (sn : Int) = (en : Int) := by omega
                  have db : (sn : Int) ≤ (l : Int) - (q : Int) := by omega
                  have db2 : (0 : Int) ≤ (l : Int) - (q : Int) := by omega
                  have hsn63 : sn ≤ 9223372036854775807 := by omega
                  simp only at hd2
                  rw [show (xs.drop at2).drop (sk + sn) = xs.drop en from by rw [List.drop_drop]; congr 1; omega] at hd2
                  have Hd2 := Lib.hid hd2
                  generalize txt (((xs.drop at2).drop sk).take sn) = s at hC Hd2
                  clear hd2 htk hcut htxt hhead hqq hen hle hq
                  go_wp2_with fail
                  with_reducible refine (place_any Ad k cd d s _ (own_reads hownd) (by simp only [maxLen]; omega)).mono ?_
                  rintro e w' ⟨rfl, rfl⟩
                  rcases hp : placeL d s with _ | j
                  · have hpi : placeI d s = -1 := by unfold placeI; rw [hp]
                    rw [hpi]
                    have hd3 := Hd2.out
                    rw [hp] at hd3
                    simp only [Option.isSome_none, if_false, Bool.false_eq_true] at hd3
                    have Hd3 := Lib.hid hd3
                    have hs1 : k + 1 ≤ maxLen := by simp only [maxLen]; omega
                    have hs2 : (k + 1) * 16 ≤ 70368744177664 := by omega
                    have hbase := hB.size
                    clear hd3 Hd2 hp hpi hC hA3
                    go_wp2_with (at_builtin
                                 refine wpList_append_any _ rfl (.tmp 94) (.tmp 96) 22 rfl w.heap.size 9 i0 (.string ⟨#[]⟩) 1 16 Try.underlying22 hi0 hz0 hz1 hz2 rfl (by decide) Ad k cd _ rfl (hownd.alloc _) _ 1 1 [.string s] rfl (reads_new _ _ _) (one_text s) hs1 hs2 (by simp; omega) ?_
                                 intro A4 c4 w4 hown4 hb4 hg4 hc4 hm4)
                    have hB4 := (hB.alloc hbase (.cells #[.string s] 9)).trans hb4
                    rw [show txs d ++ [Value.string s] = txs (d ++ [s]) from by simp [txs]] at hown4
                    go_roundw
                    case rel => exact ⟨k + 1, en, A4, c4, _, by omega, hel2, rfl, by go_num, rfl, hown4, Hd3, hB4⟩
                    case measure => simp [intOf]; omega
                  · have hpi : placeI d s = (j : Int) := by unfold placeI; rw [hp]
                    rw [hpi]
                    have hd3 := Hd2.out
                    rw [hp] at hd3
                    simp only [Option.isSome_some, if_true] at hd3
                    have Hres := Lib.hid (getN_dict hd3.symm)
                    clear hd3 Hd2 hp hpi hC hA3
                    go_wp2
                    go_ret3
                    exact got3_err Hres.out hB
            · rw [if_pos hse] at htk
              rw [htk] at hd2
              have hn2 : ((se : Int) != 0) = true := by simp; omega
              have hn : ((se : Int) == 0) = false := by simp; omega
              have Hres := Lib.hid (getN_dict hd2.symm)
              clear htk hd2 hj3
              go_wp2
              go_ret3
              exact got3_err Hres.out hB
          · have hkr : k = rn := by omega
            have hdl0 := hdl.out
            rw [show rn - k = 0 from by omega, takeTexts] at hdl0
            have Hdict := Lib.hid hdl0.symm
            have hdlen : d.length = k := by have := hownd.1; simpa using this
            have Hdlen := Lib.hid hdlen
            obtain ⟨_, _, hv, hdc, hdm⟩ := own_shape hownd
            injection hv with hA hn' hc'
            subst hA hc'
            have hk2 : k ≤ 1048576 := by omega
            obtain ⟨B, hBB⟩ : ∃ B, B = wr.heap.size := ⟨_, rfl⟩
            have hwB : w.heap.size ≤ B := by rw [hBB]; exact hB.size
            have hsep : ∀ q, (Value.slice Ad k cd).ownBlock = some q → q < B := fun q hq => by rw [hBB]; exact (hownd.lt q hq).2
            have hBr := Lib.hid (Nat.le_of_eq hBB)
            have Hsep := Lib.hid hsep
            clear hdl hdl0 hdlen hBB hsep hn' hlt
            subst hkr
            go_wp2
            go_loopw [10, 18, 19, 20] (fun x v y i wr => ∃ (j at3 u : Nat) (Ao : Option Addr) (co : Nat) (ns : List Nat) (out : List ByteArray), j ≤ n ∧ at3 ≤ l ∧ u ≤ k ∧ x = .int .i64 (at3 : Int) ∧ v = .slice Ao j co ∧ y = .int .i64 (u : Int) ∧ i = .int .i64 (j : Int) ∧
              wr.ownsRow B 9 1 (.slice Ao j co) j (txs out) ∧ wr.ownsRow w.heap.size 9 1 (.slice Ad k cd) k (txs d) ∧ Hid (out = ns.filterMap (d[·]?)) ∧ Hid (takeNums k (n - j) (xs.drop at3) u ns = takeNums k n (xs.drop at2) 0 []) ∧ Below w.heap.size w wr ∧ Hid (B ≤ wr.heap.size)) (fun _ _ _ i _ => n - (intOf i).toNat)
            case atStart => exact ⟨0, at2, 0, none, 0, [], [], Nat.zero_le _, hat2, Nat.zero_le _, rfl, rfl, rfl, rfl, World.ownsRow_nil _ _ _ _, hownd, Lib.hid rfl, Lib.hid rfl, hB, hBr⟩
            case round =>
              clear hownd hB hBr hac
              obtain ⟨j, at3, u, Ao, co, ns, out, hj, hat3, hu, rfl, rfl, rfl, rfl, hown, hownd, hout, htn, hB, hBs⟩ := hrel
              have hac : at3 ≤ c := by omega
              have hbs := hBs.out
              by_cases hlt : j < n
              · have hrw := (hr.below hB).more hB.size
                have hcut := hrw.cut (k := at3) (cap := c) hat3 hl
                rw [Nat.mul_one, u8s_drop] at hcut
                obtain ⟨A2, hA2⟩ : ∃ A2, (if c = at3 then A else Option.map (fun x => x.add at3) A) = A2 := ⟨_, rfl⟩
                rw [hA2] at hcut
                have hgs := get_size (xs.drop at3)
                rw [List.length_drop, Hrl.out] at hgs
                have htn2 := htn.out
                rw [show n - j = (n - (j + 1)) + 1 from by omega, takeNums, show (xs.drop at3).drop (get (xs.drop at3)).2.1 = xs.drop (at3 + (get (xs.drop at3)).2.1) from by rw [List.drop_drop]] at htn2
                have Htn2 := Lib.hid htn2
                clear htn2 htn
                go_wp2_with fail
                with_reducible refine (refGet_any A2 (l - at3) (c - at3) (xs.drop at3) _ hcut (by omega) (by simp only [maxLen]; omega)).mono ?_
                rintro e w' ⟨rfl, rfl⟩
                have htn2 := Htn2.out
                generalize get (xs.drop at3) = ss at hgs htn2 ⊢
                obtain ⟨sn, sk, se⟩ := ss
                obtain ⟨hj1, hj2, hj3⟩ := hgs
                simp only [gotten] at hj1 hj2 hj3 htn2 ⊢
                clear Htn2 hA2 hcut
                by_cases hse : se = 0
                · subst hse
                  rw [if_neg (by simp)] at htn2
                  obtain ⟨q, hqq⟩ : ∃ q, q = at3 + sk := ⟨_, rfl⟩
                  rw [← hqq] at htn2
                  have hql : q ≤ l := by omega
                  have hsum : (at3 : Int) + (sk : Int) = (q : Int) := by omega
                  by_cases hbad : k ≤ sn ∨ u < sn
                  · rw [if_pos hbad] at htn2
                    have Hres := Lib.hid (getN_num Hdict.out (by rw [Hdlen.out]; exact htn2.symm))
                    clear htn2 hqq hj3
                    rcases hbad with h | h
                    · go_wp2
                      go_ret3
                      exact got3_err Hres.out hB
                    · by_cases h2 : k ≤ sn
                      · go_wp2
                        go_ret3
                        exact got3_err Hres.out hB
                      · go_wp2
                        go_ret3
                        exact got3_err Hres.out hB
                  · rw [if_neg hbad] at htn2
                    have hy1 : sn ≤ u := by omega
                    have hy2 : sn < k := by omega
                    obtain ⟨ad, v, rfl, hbk, hx, hcell⟩ := (own_reads hownd).at_ hy2
                    obtain ⟨s, hds, rfl⟩ := txs_get _ _ _ hx
                    have hmax : max (u : Int) ((sn : Int) + 1) = ((if sn = u then u + 1 else u : Nat) : Int) := by split <;> omega
                    have hu6 : (if sn = u then u + 1 else u) ≤ k := by split <;> omega
                    generalize (if sn = u then u + 1 else u) = u6 at hmax hu6 htn2
                    have Hout := Lib.hid (show out ++ [s] = (ns ++ [sn]).filterMap (d[·]?) from by rw [outs_snoc d ns sn s hds, ← hout.out])
                    have Htn := Lib.hid htn2
                    have hs1 : j + 1 ≤ maxLen := by simp only [maxLen]; omega
                    have hs2 : (j + 1) * 16 ≤ 70368744177664 := by omega
                    have hn1 : ¬ (k : Int) ≤ (sn : Int) := by omega
                    have hn3 : ¬ (u : Int) < (sn : Int) := by omega
                    have hsn63 : sn ≤ 9223372036854775807 := by omega
                    clear htn2 hqq hj3 hbad hx hds hbk
                    go_wp2_with (at_builtin
                                 refine wpList_append_any _ rfl (.tmp 133) (.tmp 138) 22 rfl B 9 i0 (.string ⟨#[]⟩) 1 16 Try.underlying22 hi0 hz0 hz1 hz2 rfl (by decide) Ao j co _ rfl (hown.alloc _) _ 1 1 [.string s] rfl (reads_new _ _ _) (one_text s) hs1 hs2 (by simp; omega) ?_
                                 intro A4 c4 w4 hown4 hb4 hg4 hc4 hm4)
                    have hB4 := (hB.alloc hB.size (.cells #[.string s] 9)).trans (hb4.mono hwB)
                    have hBs4 : B ≤ w4.heap.size := Nat.le_trans hbs (Nat.le_trans (by simp) hb4.size)
                    have hownd4 := own_sep (hownd.alloc (.cells #[.string s] 9)) Hsep.out (hown.alloc _) hg4
                    rw [show txs out ++ [Value.string s] = txs (out ++ [s]) from by simp [txs]] at hown4
                    go_roundw
                    case rel => exact ⟨j + 1, q, u6, A4, c4, _, _, by omega, hql, hu6, rfl, rfl, rfl, by go_num, hown4, hownd4, Hout, Htn, hB4, Lib.hid hBs4⟩
                    case measure => simp [intOf]; omega
                · rw [if_pos hse] at htn2
                  have hn2 : ((se : Int) != 0) = true := by simp; omega
                  have hn : ((se : Int) == 0) = false := by simp; omega
                  have Hres := Lib.hid (getN_num Hdict.out (by rw [Hdlen.out]; exact htn2.symm))
                  clear htn2 hj3
                  go_wp2
                  go_ret3
                  exact got3_err Hres.out hB
              · have hjn : n - j = 0 := by omega
                have htn2 := htn.out
                rw [hjn, takeNums] at htn2
                have hfin := getN_end Hdict.out (by rw [Hdlen.out]; exact htn2.symm)
                rw [Hdlen.out] at hfin
                have Hfin := Lib.hid hfin
                have hlo : out.length = j := by have := hown.1; simpa using this
                have Hlo := Lib.hid hlo
                clear htn2 htn hfin hlo hjn
                by_cases hud : u < k
                · have hres := Hfin.out
                  rw [if_pos hud] at hres
                  have Hres := Lib.hid hres
                  have db : decide (u < k) = true := by simp; omega
                  clear hres Hfin
                  go_wp2
                  go_ret3
                  exact got3_err Hres.out hB
                · have hres := Hfin.out
                  rw [if_neg hud, ← hout.out, List.length_drop, Hrl.out, show l - (l - at3) = at3 from by omega] at hres
                  have Hres := Lib.hid hres
                  have db : decide (u < k) = false := by simp; omega
                  obtain ⟨_, _, hv, h1, h2⟩ := own_shape hown
                  injection hv with hA hn' hc'
                  subst hA hc'
                  clear hres Hfin
                  go_wp2
                  go_ret3
                  unfold Got3
                  rw [Hres.out]
                  simp only [Hlo.out]
                  exact ⟨hB, Ao, co, rfl, h1, h2, own_mono hown hwB⟩
    · rw [if_pos hre] at hdl
      have hn2 : ((re : Int) != 0) = true := by simp; omega
      have hn : ((re : Int) == 0) = false := by simp; omega
      have Hres := Lib.hid (getN_dict hdl)
      clear hdl hk3
      go_wp2
      go_ret3
      exact got3_err Hres.out (Below.refl _ _)
end Go.Proofs.Ytckaohkhknoocaa
