/- Part 7 of the walks, merged: each text under its own heading. Conditions: none of its own; each lemma states what it asks. -/
import Derived.Test.YtdajddkbkbnoiaaGreatDoorBw6
import Derived.WalkKit
set_option linter.unusedVariables false
set_option linter.unusedSimpArgs false
namespace Go.Proofs.YtdajddkbkbnoiaaGreatDoor
open Go.RowKit
theorem own_block_ne {w : World} {base n c g : Nat} {e t : TypeId} {A : Option Addr} {xs : List Value} {cs : Array Value} (h : w.ownsRow base e 1 (.slice A n c) n xs) (hb : Blk w g t cs) (hne : e ≠ t) : ∀ ad, A = some ad → ad.block ≠ g := by
  rintro ad rfl
  rcases h.2 with ⟨h0, _⟩ | ⟨g2, cap, cur, hv, h1, h2, h3⟩
  · cases h0
  · injection hv with hA
    injection hA with hA
    subst hA
    rintro rfl
    unfold Blk at hb
    rw [h2] at hb
    injection hb with hb
    injection hb with _ h4
    exact hne h4
theorem own_sep {w w' : World} {base B : Nat} {e e2 : TypeId} {v v2 : Value} {n n2 size size2 : Nat} {xs ys : List Value} (h : w.ownsRow base e size v n xs) (hB : ∀ k, v.ownBlock = some k → k < B) (h2 : w.ownsRow B e2 size2 v2 n2 ys) (hg : w.grownBy w' v2.ownBlock) : w'.ownsRow base e size v n xs := by
  refine h.kept hg ?_
  rcases hv : v.ownBlock with _ | k
  · exact .inl rfl
  · right
    have := hB k hv
    rcases hv2 : v2.ownBlock with _ | k2
    · simp
    · have := (h2.lt k2 hv2).1
      simp only [ne_eq, Option.some.injEq]
      omega
def InGet (gc gb B : Nat) (A : Option Addr) (l c : Nat) (xs : List UInt8) (most : Int) (n : Nat) (w : World) (k : Nat) (out : List ByteArray) (wr : World) : Prop :=
  ∃ at2 er, Cut wr gc A l c at2 er ∧ ((er ≠ 0 ∧ getN xs n most = .error er) ∨ (er = 0 ∧ at2 ≤ l ∧ ∃ (d : List ByteArray) (r : List UInt8) (Ad : Option Addr) (cd u : Nat) (ns : List Nat), dictL xs n most = .ok (d, r) ∧ w.heap.size ≤ gb ∧ Book wr gb Ad d.length cd u ∧ d.length ≤ cd ∧ cd ≤ maxLen ∧
    wr.ownsRow w.heap.size 9 1 (.slice Ad d.length cd) d.length (txs d) ∧ (∀ q, (Value.slice Ad d.length cd).ownBlock = some q → q < B) ∧ u ≤ d.length ∧ takeNums d.length k (xs.drop at2) u ns = takeNums d.length n r 0 [] ∧ out = ns.filterMap (d[·]?)))
def Got3 (r : Except Nat (List ByteArray × Nat)) (w : World) (e : Ending) (w' : World) : Prop :=
  Below w.heap.size w w' ∧ match r with
    | .error k => e = .returned (.tuple #[.slice none 0 0, .int .i64 0, .int .i64 (k : Int)])
    | .ok (l, size) => ∃ (A : Option Addr) (c : Nat), e = .returned (.tuple #[.slice A l.length c, .int .i64 (size : Int), .int .i64 0]) ∧ l.length ≤ c ∧ c ≤ maxLen ∧ w'.ownsRow w.heap.size 9 1 (.slice A l.length c) l.length (txs l)
theorem got3_err {r : Except Nat (List ByteArray × Nat)} {k : Nat} {w w' : World} (hr : r = .error k) (h : Below w.heap.size w w') : Got3 r w (.returned (.tuple #[.slice none 0 0, .int .i64 0, .int .i64 (k : Int)])) w' := by
  subst hr
  exact ⟨h, rfl⟩
theorem getDI_bad (xs : List UInt8) (n most : Int) (h : n < 0 ∨ 1048576 < n) : getDI xs n most = .error 6 := by
  unfold getDI
  rw [if_pos h]
theorem getDI_ok (xs : List UInt8) (n : Nat) (most : Int) (h : n ≤ 1048576) : getDI xs (n : Int) most = getN xs n most := by
  unfold getDI
  rw [if_neg (by omega), Int.toNat_natCast]
theorem getN_dict {xs : List UInt8} {n : Nat} {most : Int} {k : Nat} (h : dictL xs n most = .error k) : getN xs n most = .error k := by
  unfold getN
  rw [h]
theorem getN_num {xs : List UInt8} {n : Nat} {most : Int} {k : Nat} {d : List ByteArray} {r : List UInt8} (h : dictL xs n most = .ok (d, r)) (h2 : takeNums d.length n r 0 [] = .error k) : getN xs n most = .error k := by
  unfold getN
  rw [h]
  simp only [h2]
theorem getN_end {xs : List UInt8} {n : Nat} {most : Int} {d : List ByteArray} {r q : List UInt8} {u : Nat} {ns : List Nat} (h : dictL xs n most = .ok (d, r)) (h2 : takeNums d.length n r 0 [] = .ok (u, ns, q)) : getN xs n most = if u < d.length then .error 150 else .ok (ns.filterMap (d[·]?), xs.length - q.length) := by
  unfold getN
  rw [h]
  simp only [h2]
set_option maxRecDepth 100000 in
set_option maxHeartbeats 4000000 in
theorem dget_any (A : Option Addr) (l c : Nat) (xs : List UInt8) (n most : Int) (w : World) (hr : Reads w w.heap.size 1 A l (u8s xs)) (hl : l ≤ c) (hc : c ≤ maxLen) (hn1 : -9223372036854775808 ≤ n) (hn2 : n ≤ 9223372036854775807) (hm : most ≤ 9223372036854775807) :
    Calls Tryz.prog 183 #[.slice A l c, .int .i64 n, .int .i64 most] w (Got3 (getDI xs n most) w) := by
  obtain ⟨i0, hi0, hz0, hz1, hz2⟩ := info_parts text_info
  have Hrl := Lib.hid (reads_len hr)
  by_cases hn : n < 0 ∨ 1048576 < n
  · rw [getDI_bad xs n most hn]
    rcases hn with hn | hn
    all_goals
      go_enter Tryz.func183, Tryz.ntmps183
      go_wp2
      go_ret3
      exact got3_err rfl (Below.refl _ _)
  · obtain ⟨n, rfl⟩ := Int.eq_ofNat_of_zero_le (by omega : 0 ≤ n)
    rw [getDI_ok xs n most (by omega)]
    have hnn : n ≤ 1048576 := by omega
    clear hn hn1 hn2
    go_enter Tryz.func183, Tryz.ntmps183
    go_wp2_with fail
    have hb0 : Cut (w.alloc (.cells #[.slice A l c, .int .i64 0, .int .i64 0] 211)) w.heap.size A l c 0 0 := Blk.new w _ _
    have hne : 0 < l → ∀ ad, A = some ad → ad.block ≠ w.heap.size := by
      rintro h0 ad rfl
      obtain ⟨ad', e, hlt', -⟩ := hr.2 h0
      obtain rfl := Option.some.inj e
      omega
    have hr0 := hr.al (.cells #[.slice A l c, .int .i64 0, .int .i64 0] 211)
    have hB0 := bal (Below.refl w.heap.size w) (.cells #[.slice A l c, .int .i64 0, .int .i64 0] 211)
    have hs0 : w.heap.size < (w.alloc (.cells #[.slice A l c, .int .i64 0, .int .i64 0] 211)).heap.size := by simp
    with_reducible refine (cdic_any w.heap.size A l c xs n most _ hb0 hr0 hl hc hne hnn hm).mono ?_
    rintro e w3 ⟨hg3, h3⟩
    generalize w.alloc (.cells #[.slice A l c, .int .i64 0, .int .i64 0] 211) = w1 at hg3 hr0 hB0 hb0 hs0 h3
    have hB3 : Below w.heap.size w w3 := hB0.trans (Below.by_ hg3 hB0.size (Nat.le_refl _))
    have hstart : ∃ (v : Value) (gb : Nat), e = .returned v ∧ InGet w.heap.size gb w3.heap.size A l c xs most n w n [] w3 ∧ ((∃ k, dictL xs n most = .error k) ∨ v = .pointer (some ⟨gb, 0, none⟩)) := by
      rcases hd : dictL xs n most with k | ⟨d, r⟩
      · rw [hd] at h3
        obtain ⟨hk, ⟨v, rfl⟩, at2, hcut⟩ := h3
        exact ⟨v, 0, rfl, ⟨at2, k, hcut, .inl ⟨hk, getN_dict hd⟩⟩, .inl ⟨k, rfl⟩⟩
      · rw [hd] at h3
        obtain ⟨gb, A1, c1, at2, rfl, h4, h5, rfl, h6, h7, h8, h9, h10⟩ := h3
        refine ⟨_, gb, rfl, ⟨at2, 0, h6, .inr ⟨rfl, h5, d, _, A1, c1, 0, [], hd, Nat.le_trans (Nat.le_of_lt hs0) h4, h7, h8, h9, own_mono h10 (Nat.le_of_lt hs0), fun q hq => (h10.lt q hq).2, Nat.zero_le _, rfl, rfl⟩⟩, .inr rfl⟩
    obtain ⟨v, gb, rfl, hst, hv⟩ := hstart
    have hwB : w.heap.size < w3.heap.size := Nat.lt_of_lt_of_le hs0 hg3.size
    have Hst := Lib.hid hst
    have Hv := Lib.hid hv
    obtain ⟨B, hBB⟩ : ∃ B, B = w3.heap.size := ⟨_, rfl⟩
    rw [← hBB] at Hst hwB
    have HBr := Lib.hid (Nat.le_of_eq hBB)
    clear hBB
    clear h3 hst hv hg3 hb0 hB0 hr0 hs0
    go_wp2
    go_loopw [6, 27] (fun u i wr => ∃ (k no : Nat) (A1 : Option Addr) (c1 : Nat) (out : List ByteArray), k ≤ n ∧ no ≤ k ∧ i = .int .i64 (k : Int) ∧ u = .slice A1 no c1 ∧ wr.ownsRow B 9 1 (.slice A1 no c1) no (txs out) ∧
      Hid (InGet w.heap.size gb B A l c xs most n w (n - k) out wr) ∧ Below w.heap.size w wr ∧ Hid (B ≤ wr.heap.size)) (fun _ i _ => n - (intOf i).toNat)
    case atStart => exact ⟨0, 0, none, 0, [], Nat.zero_le _, Nat.le_refl _, rfl, rfl, World.ownsRow_nil _ _ _ _, Hst, hB3, HBr⟩
    case round =>
      clear Hst hB3
      obtain ⟨k, no, A1, c1, out, hk, hno, rfl, rfl, hown, hst, hB, hBs⟩ := hrel
      obtain ⟨at2, er, hcut, hcase⟩ := hst.out
      clear hst
      have hlen : out.length = no := by have := hown.1; simpa using this
      have Hlen := Lib.hid hlen
      clear hlen
      rcases hcase with ⟨her, hres⟩ | ⟨rfl, hat2, d, r, Ad, cd, u, ns, hd, hgbw, hbook, hdc, hcm, hownd, hsep, hu, htn, hout⟩
      · have hn : ((er : Int) == 0) = false := by simp; omega
        have hn2 : ((er : Int) != 0) = true := by simp; omega
        have c2 := hcut.cell 2
        have Hres := Lib.hid hres
        have Hcut := Lib.hid hcut
        clear hres hcut
        by_cases hlt : k < n
        · go_wp2_with fail
          with_reducible refine (cnum_err w.heap.size A l c at2 er _ Hcut.out her).mono ?_
          rintro e w' ⟨rfl, rfl⟩
          go_wp2
          go_region
          all_goals
            go_wp2
            go_ret3
            exact got3_err Hres.out hB.drew
        · go_wp2
          go_region
          all_goals
            go_wp2
            go_ret3
            exact got3_err Hres.out hB.drew
      · obtain rfl : v = .pointer (some ⟨gb, 0, none⟩) := Hv.out.resolve_left (by rintro ⟨k, hk⟩; rw [hk] at hd; cases hd)
        by_cases hlt : k < n
        · have hrw : Reads wr wr.heap.size 1 A l (u8s xs) := (hr.below hB).more hB.size
          have htn2 := htn
          rw [show n - k = (n - (k + 1)) + 1 from by omega, takeNums] at htn2
          have hgs := get_size (xs.drop at2)
          rw [List.length_drop, Hrl.out] at hgs
          have hgcb : w.heap.size ≠ gb := hcut.ne hbook (by decide)
          have Hcut := Lib.hid hcut
          have Hd := Lib.hid hd
          have Hbook := Lib.hid hbook
          have Hsep := Lib.hid hsep
          have Hout := Lib.hid hout
          have hbs := hBs.out
          have hdm : d.length ≤ maxLen := Nat.le_trans hdc hcm
          clear hcut hd hbook hsep hout htn
          go_wp2_with fail
          with_reducible refine (cnum_any w.heap.size A l c at2 xs _ Hcut.out hrw hl hc hat2).mono ?_
          rintro e w4 ⟨rfl, hcut4, hg4⟩
          have hB4 := hB.trans (Below.by_ hg4 hB.size (Nat.le_refl _))
          have hbook4 := Hbook.out.other hg4 hgcb.symm
          have hown4 := own_grown hown Hcut.out (by decide) hg4
          have hownd4 := own_grown hownd Hcut.out (by decide) hg4
          have hBs4 : B ≤ w4.heap.size := Nat.le_trans hbs hg4.size
          rw [show (xs.drop at2).drop (get (xs.drop at2)).2.1 = xs.drop (at2 + (get (xs.drop at2)).2.1) from by rw [List.drop_drop]] at htn2
          generalize get (xs.drop at2) = rr at hgs hcut4 htn2 ⊢
          obtain ⟨rn, rk, re⟩ := rr
          obtain ⟨hk1, hk2, hk3⟩ := hgs
          simp only at hk1 hk2 hk3 hcut4 htn2 ⊢
          have hq : at2 + rk ≤ l := by omega
          generalize at2 + rk = q at hcut4 htn2 hq
          clear hg4 hrw Hcut Hbook hown hownd
          by_cases hre : re = 0
          · subst hre
            rw [if_neg (by simp)] at htn2
            have c24 := hcut4.cell 2
            have f24 := hcut4.frozen 2
            have hs1 : no + 1 ≤ maxLen := by simp only [maxLen]; omega
            have hs2 : (no + 1) * 16 ≤ 70368744177664 := by omega
            by_cases hbad : d.length ≤ rn ∨ u < rn
            · rw [if_pos hbad] at htn2
              have Hres := Lib.hid (getN_num Hd.out htn2.symm)
              have hcut6 := hcut4.set_ 2 (.int .i64 150)
              have hown6 := own_far hown4 hcut4 (by decide) 2 (.int .i64 150)
              have hB6 := hB4.setCell (p := ⟨w.heap.size, 2, none⟩) (Nat.le_refl _) (.int .i64 150)
              have hBs6 : B ≤ (w4.setCell ⟨w.heap.size, 2, none⟩ (.int .i64 150)).heap.size := by simpa using hBs4
              have Hcut6 := Lib.hid hcut6
              have Hbook4 := Lib.hid hbook4
              clear htn2 hcut4 hcut6 hownd4 hbook4 hown4 hk3
              go_wp2_with fail
              with_reducible refine (btext_no gb Ad d.length cd u (rn : Int) _ Hbook4.out hdm hu (by omega)).mono ?_
              rintro e w' ⟨rfl, rfl⟩
              go_wp2_with (at_builtin
                           refine wpList_append_any _ rfl (.tmp 45) (.tmp 47) 167 rfl B 9 i0 (.string ⟨#[]⟩) 1 16 Tryz.underlying167 hi0 hz0 hz1 hz2 rfl (by decide) A1 no c1 _ rfl (hown6.alloc _) _ 1 1 [.string (⟨#[]⟩ : ByteArray)] rfl (by first | exact reads_new _ _ _ | exact reads_new_at _ _ _ _ (by simp)) (one_text (⟨#[]⟩ : ByteArray)) hs1 hs2 (by simp; omega) ?_
                           intro A3 c3 w7 hown7 hb7 hg7 hc7 hm7)
              rw [show txs out ++ [Value.string (⟨#[]⟩ : ByteArray)] = txs (out ++ [(⟨#[]⟩ : ByteArray)]) from by simp [txs]] at hown7
              have hcut7 := (Hcut6.out.alloc (.cells #[.string (⟨#[]⟩ : ByteArray)] 9)).apart (hown6.alloc _) (by decide) hg7
              have hB7 := (hB6.alloc hB6.size (.cells #[.string (⟨#[]⟩ : ByteArray)] 9)).trans (hb7.mono (Nat.le_of_lt hwB))
              have hBs7 : B ≤ w7.heap.size := Nat.le_trans hBs6 (Nat.le_trans (by simp) hb7.size)
              go_roundw
              case rel => exact ⟨k + 1, no + 1, A3, c3, _, by omega, by omega, by go_num, rfl, hown7, Lib.hid ⟨q, 150, hcut7, .inl ⟨by decide, Hres.out⟩⟩, hB7, Lib.hid hBs7⟩
              case measure => simp [intOf]; omega
            · rw [if_neg hbad] at htn2
              have hy1 : rn ≤ u := by omega
              have hy2 : rn < d.length := by omega
              have hds := List.getElem?_eq_getElem hy2
              generalize d[rn] = s at hds
              have Htn := Lib.hid htn2
              have Hds := Lib.hid hds
              have hgb := own_block_ne hownd4 hbook4 (by decide)
              have hrd := own_reads hownd4
              have Hbook4 := Lib.hid hbook4
              have Hcut4 := Lib.hid hcut4
              clear htn2 hds hbad hbook4 hcut4 hk3
              go_wp2_with fail
              with_reducible refine (btext_yes gb Ad d.length cd u rn d s _ Hbook4.out hrd hdm hu hy1 hy2 Hds.out hgb).mono ?_
              rintro e w5 ⟨rfl, hw5⟩
              clear hgb hrd c24 f24
              have hall : Below w.heap.size w w5 ∧ Book w5 gb Ad d.length cd (if rn = u then u + 1 else u) ∧ w5.ownsRow B 9 1 (.slice A1 no c1) no (txs out) ∧ w5.ownsRow w.heap.size 9 1 (.slice Ad d.length cd) d.length (txs d) ∧ Cut w5 w.heap.size A l c q 0 ∧ B ≤ w5.heap.size := by
                subst hw5
                by_cases e : rn = u
                · rw [if_pos e, if_pos e]
                  exact ⟨hB4.setCell (p := ⟨gb, 1, none⟩) hgbw _, Hbook4.out.set_ 1 _, own_far hown4 Hbook4.out (by decide) 1 _, own_far hownd4 Hbook4.out (by decide) 1 _, Hcut4.out.far (p := ⟨gb, 1, none⟩) hgcb _, by simpa using hBs4⟩
                · rw [if_neg e, if_neg e]
                  exact ⟨hB4, Hbook4.out, hown4, hownd4, Hcut4.out, hBs4⟩
              obtain ⟨hB5, hbook5, hown5, hownd5, hcut5, hBs5⟩ := hall
              have hu6 : (if rn = u then u + 1 else u) ≤ d.length := by split <;> omega
              clear hw5 hown4 hownd4 Hcut4 Hbook4
              generalize (if rn = u then u + 1 else u) = u6 at hbook5 hu6 Htn
              have c25 := hcut5.cell 2
              have f25 := hcut5.frozen 2
              have hcut6 := hcut5.set_ 2 (.int .i64 0)
              have hown6 := own_far hown5 hcut5 (by decide) 2 (.int .i64 0)
              have hownd6 := own_far hownd5 hcut5 (by decide) 2 (.int .i64 0)
              have hbook6 := hbook5.far (p := ⟨w.heap.size, 2, none⟩) hgcb.symm (.int .i64 0)
              have hB6 := hB5.setCell (p := ⟨w.heap.size, 2, none⟩) (Nat.le_refl _) (.int .i64 0)
              have hBs6 : B ≤ (w5.setCell ⟨w.heap.size, 2, none⟩ (.int .i64 0)).heap.size := by simpa using hBs5
              have Hcut6 := Lib.hid hcut6
              have Hbook6 := Lib.hid hbook6
              clear hcut5 hcut6 hbook6 hbook5 hown5 hownd5
              go_wp2_with (at_builtin
                           refine wpList_append_any _ rfl (.tmp 45) (.tmp 47) 167 rfl B 9 i0 (.string ⟨#[]⟩) 1 16 Tryz.underlying167 hi0 hz0 hz1 hz2 rfl (by decide) A1 no c1 _ rfl (hown6.alloc _) _ 1 1 [.string s] rfl (by first | exact reads_new _ _ _ | exact reads_new_at _ _ _ _ (by simp)) (one_text s) hs1 hs2 (by simp; omega) ?_
                           intro A3 c3 w7 hown7 hb7 hg7 hc7 hm7)
              rw [show txs out ++ [Value.string s] = txs (out ++ [s]) from by simp [txs]] at hown7
              have hcut7 := (Hcut6.out.alloc (.cells #[.string s] 9)).apart (hown6.alloc _) (by decide) hg7
              have hB7 := (hB6.alloc hB6.size (.cells #[.string s] 9)).trans (hb7.mono (Nat.le_of_lt hwB))
              have hBs7 : B ≤ w7.heap.size := Nat.le_trans hBs6 (Nat.le_trans (by simp) hb7.size)
              have hbook7 := (Hbook6.out.alloc (.cells #[.string s] 9)).apart (hown6.alloc _) (by decide) hg7
              have hownd7 := own_sep (hownd6.alloc (.cells #[.string s] 9)) Hsep.out (hown6.alloc _) hg7
              have hout7 : out ++ [s] = (ns ++ [rn]).filterMap (d[·]?) := by rw [outs_snoc d ns rn s Hds.out, ← Hout.out]
              have Hout7 := Lib.hid hout7
              clear hout7
              go_roundw
              case rel => exact ⟨k + 1, no + 1, A3, c3, _, by omega, by omega, by go_num, rfl, hown7, Lib.hid ⟨q, 0, hcut7, .inr ⟨rfl, hq, d, r, Ad, cd, u6, ns ++ [rn], Hd.out, hgbw, hbook7, hdc, hcm, hownd7, Hsep.out, hu6, Htn.out, Hout7.out⟩⟩, hB7, Lib.hid hBs7⟩
              case measure => simp [intOf]; omega
          · rw [if_pos hre] at htn2
            have hn : ((re : Int) == 0) = false := by simp; omega
            have hn2 : ((re : Int) != 0) = true := by simp; omega
            have c2 := hcut4.cell 2
            have Hres := Lib.hid (getN_num Hd.out htn2.symm)
            clear htn2 hcut4 hk3
            go_wp2
            go_region
            all_goals
              go_wp2
              go_ret3
              exact got3_err Hres.out hB4.drew
        · have hkn : n - k = 0 := by omega
          rw [hkn, takeNums] at htn
          have hfin := getN_end hd htn.symm
          have Hfin := Lib.hid hfin
          have hdm : d.length ≤ maxLen := Nat.le_trans hdc hcm
          have c2 := hcut.cell 2
          have Hcut := Lib.hid hcut
          have Hbook := Lib.hid hbook
          have Hout := Lib.hid hout
          clear hcut hbook hsep hout htn hfin hd
          go_wp2_with fail
          with_reducible refine (bend_any gb Ad d.length cd u _ Hbook.out hdm hu).mono ?_
          rintro e w8 ⟨rfl, hb8⟩
          have hcut8 := Hcut.out.on hb8
          have hown8 := own_below hown hb8
          have hB8 := bon hB hb8
          have f28 := hcut8.frozen 2
          have c28 := hcut8.cell 2
          by_cases hud : u < d.length
          · rw [if_pos hud]
            have hB9 := hB8.setCell (p := ⟨w.heap.size, 2, none⟩) (Nat.le_refl _) (.int .i64 150)
            have hcut9 := hcut8.set_ 2 (.int .i64 150)
            have c29 := hcut9.cell 2
            have c19 := hcut9.cell 1
            have hres := Hfin.out
            rw [if_pos hud] at hres
            have Hres := Lib.hid hres
            clear hres hcut8 hcut9 Hfin
            go_wp2
            go_region
            all_goals
              go_wp2
              go_ret3
              exact got3_err Hres.out hB9.drew
          · rw [if_neg hud]
            have hB9 := hB8.setCell (p := ⟨w.heap.size, 2, none⟩) (Nat.le_refl _) (.int .i64 0)
            have hcut9 := hcut8.set_ 2 (.int .i64 0)
            have hown9 := own_far hown8 hcut8 (by decide) 2 (.int .i64 0)
            have c29 := hcut9.cell 2
            have c19 := hcut9.cell 1
            have hres := Hfin.out
            rw [if_neg hud, ← Hout.out, List.length_drop, Hrl.out, show l - (l - at2) = at2 from by omega] at hres
            have Hres := Lib.hid hres
            obtain ⟨_, _, hv, h1, h2⟩ := own_shape hown9
            injection hv with hA hn' hc'
            subst hA hc'
            clear hres hcut8 hcut9 Hfin
            go_wp2
            go_region
            all_goals
              go_wp2
              go_ret3
              unfold Got3
              rw [Hres.out]
              simp only [Hlen.out]
              exact ⟨hB9.drew, A1, c1, rfl, h1, h2, own_mono hown9 (Nat.le_of_lt hwB)⟩
end Go.Proofs.YtdajddkbkbnoiaaGreatDoor
namespace Go.Proofs.YtdajddkbkbnoiaaGreatDoor
open Go.RowKit
theorem flatMap_mem_le {α : Type} (f : α → List UInt8) : ∀ (l : List α) (x : α), x ∈ l → (f x).length ≤ (l.flatMap f).length
  | y :: l, x, h => by
    rw [List.flatMap_cons, List.length_append]
    rcases List.mem_cons.1 h with rfl | h
    · omega
    · have := flatMap_mem_le f l x h
      omega
theorem getDI_only (ys : List UInt8) (n most : Int) (t : List ByteArray) (s : Nat) (h : getDI ys n most = .ok (t, s)) : (t.length : Int) = n ∧ t.length ≤ 1048576 ∧ s ≤ ys.length ∧ putD t = ys.take s ∧ ∀ x ∈ t, x.size ≤ ys.length := by
  unfold getDI at h
  split at h
  · cases h
  · rename_i hn
    unfold getN at h
    rcases hd : dictL ys n.toNat most with e | ⟨d, r⟩
    · rw [hd] at h; cases h
    · rw [hd] at h
      simp only at h
      rcases hk : takeNums d.length n.toNat r 0 [] with e | ⟨u, ns, q⟩
      · rw [hk] at h; cases h
      · rw [hk] at h
        simp only at h
        split at h
        · cases h
        · rename_i hu
          injection h with h
          injection h with h1 h2
          obtain ⟨ns', e1, e2, e3, e4, e5⟩ := takeNums_only _ _ _ _ _ _ _ _ hk
          rw [List.nil_append] at e1
          subst e1
          unfold dictL at hd
          split at hd
          · cases hd
          · rename_i h0
            split at hd
            · cases hd
            · obtain ⟨t', f1, f2, f3, f4⟩ := takeTexts_only _ _ _ _ _ _ hd
              rw [List.nil_append] at f1
              subst f1
              have hnd := f4 List.nodup_nil
              have hb := get_take ys (by simpa using h0)
              have hall := map_some_of d ns e5
              obtain ⟨g1, g2⟩ := split_of_used d hnd ns 0 u [] _ (Nat.zero_le _) hall e4
              have hud : u = d.length := by omega
              have hs : splitL t = (d, ns) := by
                subst h1
                unfold splitL
                rw [List.take_zero] at g2
                rw [g2, hud, List.take_length]
                rfl
              have htl : t.length = ns.length := by
                have := (splitL_len t).2
                rw [hs] at this
                exact this.symm
              have hput : ys = putD t ++ q := by
                unfold putD
                rw [hs]
                simp only
                rw [f2, List.append_assoc, List.append_assoc, ← e3, ← f3]
                exact hb
              have hsz : s = (putD t).length := by
                rw [← h2]
                have := congrArg List.length hput
                rw [List.length_append] at this
                omega
              have hle := congrArg List.length hput
              rw [List.length_append] at hle
              refine ⟨by omega, by omega, by omega, ?_, fun x hx => ?_⟩
              · rw [hsz]
                conv => rhs; rw [hput]
                rw [List.take_left]
              · obtain ⟨-, -, k3⟩ := splitL_used t
                rw [hs] at k3
                have hm : some x ∈ ns.map (d[·]?) := by rw [k3]; exact List.mem_map_of_mem hx
                obtain ⟨j, -, hj⟩ := List.mem_map.1 hm
                have hxd : x ∈ d := List.mem_of_getElem? hj
                have h5 := flatMap_mem_le putText d x hxd
                have h6 : (bts x).length ≤ (putText x).length := by unfold putText; rw [List.length_append]; omega
                have h7 : (d.flatMap putText).length ≤ (putD t).length := by
                  unfold putD
                  rw [hs, List.length_append, List.length_append]
                  simp only
                  omega
                rw [bts_len] at h6
                omega
theorem split_mem (l : List ByteArray) (s : ByteArray) : s ∈ (splitL l).1 ↔ s ∈ l := by
  have := (splitL_mem l l.length (Nat.le_refl _)).1 s
  rwa [List.take_length] at this
theorem get_putD (l : List ByteArray) (r : List UInt8) (h : l.length < 18446744073709551616) : get (putD l ++ r) = ((splitL l).1.length, (leb (splitL l).1.length).length, 0) ∧ (putD l ++ r).drop (leb (splitL l).1.length).length = (splitL l).1.flatMap putText ++ ((splitL l).2.flatMap leb ++ r) := by
  have hl := (splitL_len l).1
  unfold putD
  rw [List.append_assoc, List.append_assoc, List.drop_left]
  exact ⟨get_leb _ (by omega) _, rfl⟩
theorem getN_put (l : List ByteArray) (r : List UInt8) (most : Int) (h : l.length ≤ 1048576) (hs : ∀ s ∈ l, (s.size : Int) ≤ most) (hm : ∀ s ∈ l, s.size < 18446744073709551616) : getN (putD l ++ r) l.length most = .ok (l, (putD l).length) := by
  obtain ⟨h1, h2⟩ := get_putD l r (by omega)
  obtain ⟨k1, k2, k3⟩ := splitL_used l
  have hlen := splitL_len l
  have hdict : dictL (putD l ++ r) l.length most = .ok ((splitL l).1, (splitL l).2.flatMap leb ++ r) := by
    unfold dictL
    rw [h1]
    simp only
    rw [if_neg (by simp), if_neg (by omega), h2]
    have := takeTexts_put most (splitL l).1 [] ((splitL l).2.flatMap leb ++ r) (by simpa using k1) (fun s hs' => by rw [bts_len]; exact hs s ((split_mem l s).1 hs')) (fun s hs' => by rw [bts_len]; exact hm s ((split_mem l s).1 hs'))
    rw [this, List.nil_append]
  have hnum : takeNums (splitL l).1.length l.length ((splitL l).2.flatMap leb ++ r) 0 [] = .ok ((splitL l).1.length, (splitL l).2, r) := by
    have := takeNums_put (splitL l).1.length (splitL l).2 0 (splitL l).1.length [] r (split_small l) (by omega) k2
    rw [hlen.2, List.nil_append] at this
    exact this
  rw [getN_end hdict hnum, if_neg (by omega)]
  have ho : (splitL l).2.filterMap ((splitL l).1[·]?) = l := by
    have := map_some_of (splitL l).1 (splitL l).2 (split_small l)
    rw [k3] at this
    rw [List.map_inj_right (fun _ _ e => Option.some.inj e)] at this
    exact this.symm
  rw [ho, List.length_append, Nat.add_sub_cancel]
theorem takeTexts_err0 (most : Int) : ∀ (k : Nat) (b : List UInt8) (d : List ByteArray), takeTexts most k b d ≠ .error 0
  | 0, b, d => by simp [takeTexts]
  | k + 1, b, d => by
    rw [takeTexts_succ]
    rcases h : takeT most b with e | ⟨s, n⟩
    · simp only
      intro he
      injection he with he
      exact takeT_err _ _ _ h he
    · simp only
      split
      · intro he; injection he with he; omega
      · exact takeTexts_err0 most k _ _
theorem takeNums_err0 (m : Nat) : ∀ (k : Nat) (b : List UInt8) (u : Nat) (out : List Nat), takeNums m k b u out ≠ .error 0
  | 0, b, u, out => by simp [takeNums]
  | k + 1, b, u, out => by
    rw [takeNums]
    split
    · rename_i h
      intro he
      injection he with he
      exact h he
    · split
      · intro he; injection he with he; omega
      · exact takeNums_err0 m k _ _ _
theorem getDI_err0 (ys : List UInt8) (n most : Int) : getDI ys n most ≠ .error 0 := by
  unfold getDI
  split
  · intro he; injection he with he; omega
  · unfold getN
    rcases hd : dictL ys n.toNat most with e | ⟨d, r⟩
    · simp only
      intro he
      injection he with he
      subst he
      unfold dictL at hd
      split at hd
      · rename_i h
        injection hd with hd
        exact h hd
      · split at hd
        · injection hd with hd; omega
        · exact takeTexts_err0 _ _ _ _ hd
    · simp only
      rcases hk : takeNums d.length n.toNat r 0 [] with e | ⟨u, ns, q⟩
      · simp only
        intro he
        injection he with he
        subst he
        exact takeNums_err0 _ _ _ _ _ hk
      · simp only
        split
        · intro he; injection he with he; omega
        · intro he; cases he
end Go.Proofs.YtdajddkbkbnoiaaGreatDoor
namespace Go.Proofs.YtdajddkbkbnoiaaGreatDoor
theorem getL_cut : ∀ (f m i acc j : Nat), i + f = 9 → m < 128 ^ (f + 1) → (0 < i → 0 < m) → m * 128 ^ i < 18446744073709551616 → j < (lebF f m).length → getL ((lebF f m).take j) i acc = (0, 0, 3) := by
  intro f
  induction f with
  | zero =>
    intro m i acc j h1 h2 h3 h4 hj
    have : j = 0 := by simp [lebF] at hj; omega
    subst this
    rfl
  | succ f ih =>
    intro m i acc j h1 h2 h3 h4 hj
    by_cases hm : m < 128
    · rw [lebF_small _ _ hm] at hj ⊢
      have : j = 0 := by simpa using hj
      subst this
      rfl
    · rw [lebF_big _ _ (by omega)] at hj ⊢
      cases j with
      | zero => rfl
      | succ j =>
        rw [List.take_succ_cons, getL]
        have hb : (UInt8.ofNat (m % 128 + 128)).toNat = m % 128 + 128 := ofNat_toNat _ (by omega)
        rw [hb, if_neg (by omega), if_neg (by omega), if_neg (by omega)]
        refine ih (m / 128) (i + 1) _ j (by omega) ?_ (fun _ => by omega) ?_ (by simpa using hj)
        · rw [Nat.pow_succ] at h2
          omega
        · refine Nat.lt_of_le_of_lt ?_ h4
          rw [Nat.pow_succ, ← Nat.mul_assoc, Nat.mul_right_comm]
          exact Nat.mul_le_mul_right _ (Nat.div_mul_le_self _ _)
theorem get_cut (n j : Nat) (hn : n < 18446744073709551616) (hj : j < (leb n).length) : get ((leb n).take j) = (0, 0, 3) :=
  getL_cut 9 n 0 0 j rfl (by omega) (fun h => absurd h (by omega)) (by omega) hj
end Go.Proofs.YtdajddkbkbnoiaaGreatDoor
namespace Go.Proofs.YtdajddkbkbnoiaaGreatDoor
open Go.RowKit
theorem takeTexts_sizes (most : Int) : ∀ (k : Nat) (b : List UInt8) (d d' : List ByteArray) (r : List UInt8), takeTexts most k b d = .ok (d', r) → (∀ x ∈ d, (x.size : Int) ≤ most) → ∀ x ∈ d', (x.size : Int) ≤ most
  | 0, b, d, d', r, h, hd => by
    simp only [takeTexts, Except.ok.injEq, Prod.mk.injEq] at h
    exact h.1 ▸ hd
  | k + 1, b, d, d', r, h, hd => by
    rw [takeTexts] at h
    split at h
    · cases h
    · split at h
      · cases h
      · rename_i h2
        split at h
        · cases h
        · rename_i h3
          split at h
          · cases h
          · refine takeTexts_sizes most k _ _ _ _ h ?_
            intro x hx
            rcases List.mem_append.1 hx with hx | hx
            · exact hd x hx
            · obtain rfl : x = txt ((b.drop (get b).2.1).take (get b).1) := by simpa using hx
              rw [← bts_len, bts_txt, List.length_take]
              omega
theorem getDI_sizes (ys : List UInt8) (n most : Int) (t : List ByteArray) (s : Nat) (h : getDI ys n most = .ok (t, s)) : ∀ x ∈ t, (x.size : Int) ≤ most := by
  unfold getDI at h
  split at h
  · cases h
  · unfold getN at h
    rcases hd : dictL ys n.toNat most with e | ⟨d, r⟩
    · rw [hd] at h; cases h
    · rw [hd] at h
      simp only at h
      have hds : ∀ x ∈ d, (x.size : Int) ≤ most := by
        unfold dictL at hd
        split at hd
        · cases hd
        · split at hd
          · cases hd
          · exact takeTexts_sizes most _ _ _ _ _ hd (by simp)
      rcases hk : takeNums d.length n.toNat r 0 [] with e | ⟨u, ns, q⟩
      · rw [hk] at h; cases h
      · rw [hk] at h
        simp only at h
        split at h
        · cases h
        · injection h with h
          injection h with h1 h2
          subst h1
          intro x hx
          obtain ⟨j, -, hj⟩ := List.mem_filterMap.1 hx
          exact hds x (List.mem_of_getElem? hj)
end Go.Proofs.YtdajddkbkbnoiaaGreatDoor
namespace Go.Proofs.YtdajddkbkbnoiaaGreatDoor
open Go.RowKit
structure Codec (f : List UInt8 → List Cl × Nat → GotC) (put : Cl → List UInt8) (P : Cl → Prop) : Prop where
  there : ∀ c, P c → ∀ p r l, f (p ++ (put c ++ r)) (l, p.length) = .ok (l ++ [c], p.length + (put c).length)
  cut : ∀ c, P c → ∀ p j l, j < (put c).length → f (p ++ (put c).take j) (l, p.length) = .error 3
  only : ∀ xs l s l' s', s ≤ xs.length → f xs (l, s) = .ok (l', s') → ∃ c, P c ∧ l' = l ++ [c] ∧ s' ≤ xs.length ∧ xs.drop s = put c ++ xs.drop s' ∧ s' = s + (put c).length
section
variable {f : List UInt8 → List Cl × Nat → GotC} {put : Cl → List UInt8} {P : Cl → Prop}
theorem Codec.back (h : Codec f put P) (l : List Cl) (hP : ∀ c ∈ l, P c) (r : List UInt8) : ∀ j, j ≤ l.length → iterC (f (l.flatMap put ++ r)) j = .ok (l.take j, ((l.take j).flatMap put).length)
  | 0, _ => by simp [iterC]
  | j + 1, hj => by
    rw [iterC_succ (h.back l hP r j (by omega))]
    have hs : l = l.take j ++ l[j] :: l.drop (j + 1) := by
      rw [List.getElem_cons_drop, List.take_append_drop]
    have hx : l.flatMap put ++ r = (l.take j).flatMap put ++ (put l[j] ++ ((l.drop (j + 1)).flatMap put ++ r)) := by
      conv => lhs; rw [hs]
      simp only [List.flatMap_append, List.flatMap_cons, List.append_assoc]
    rw [hx, h.there l[j] (hP _ (List.getElem_mem _)) _ _ _, List.take_add_one, List.getElem?_eq_getElem (by omega)]
    simp only [Option.toList_some, List.flatMap_append, List.flatMap_cons, List.flatMap_nil, List.append_nil, List.length_append]
theorem Codec.backs (h : Codec f put P) (l : List Cl) (hP : ∀ c ∈ l, P c) (r : List UInt8) : iterC (f (l.flatMap put ++ r)) l.length = .ok (l, (l.flatMap put).length) := by
  have := h.back l hP r l.length (Nat.le_refl _)
  rwa [List.take_length] at this
theorem Codec.onlys (h : Codec f put P) (xs : List UInt8) : ∀ (n : Nat) (l : List Cl) (s : Nat), iterC (f xs) n = .ok (l, s) → l.length = n ∧ (∀ c ∈ l, P c) ∧ s ≤ xs.length ∧ s = (l.flatMap put).length ∧ xs = l.flatMap put ++ xs.drop s
  | 0, l, s, e => by
    simp only [iterC, Except.ok.injEq, Prod.mk.injEq] at e
    obtain ⟨rfl, rfl⟩ := e
    simp
  | n + 1, l, s, e => by
    obtain ⟨⟨l0, s0⟩, h0⟩ := iterC_ok (n := n) e (by omega)
    rw [iterC_succ h0] at e
    obtain ⟨i1, i2, i3, i4, i5⟩ := h.onlys xs n l0 s0 h0
    obtain ⟨c, q1, rfl, q3, q4, q5⟩ := h.only xs l0 s0 l s i3 e
    refine ⟨by simp [i1], ?_, q3, ?_, ?_⟩
    · intro x hx
      rcases List.mem_append.1 hx with hx | hx
      · exact i2 x hx
      · obtain rfl : x = c := by simpa using hx
        exact q1
    · rw [q5, i4]
      simp only [List.flatMap_append, List.flatMap_cons, List.flatMap_nil, List.append_nil, List.length_append]
    · conv => lhs; rw [i5, q4]
      simp only [List.flatMap_append, List.flatMap_cons, List.flatMap_nil, List.append_nil, List.append_assoc]
end
theorem codecI (k : Int) (h2 : k = 2 ∨ k = 3) : Codec (stepI k) (fun c => leb (zig c.2.1)) (fun c => c.1 = false ∧ isC k c = true) := by
  have key : ∀ c : Cl, c.1 = false → isC k c = true → c = intC c.2.1 ∧ -9223372036854775808 ≤ c.2.1 ∧ c.2.1 ≤ 9223372036854775807 := by
    rintro ⟨u, n, s⟩ hu hc
    simp only at hu
    subst hu
    rcases h2 with rfl | rfl
    · simp [isC] at hc
      obtain ⟨rfl, h3, h4⟩ := hc
      exact ⟨rfl, by simp only; omega, by simp only; omega⟩
    · simp [isC] at hc
      obtain ⟨rfl, h3, h4⟩ := hc
      exact ⟨rfl, h3, h4⟩
  refine ⟨?_, ?_, ?_⟩
  · rintro c ⟨hu, hc⟩ p r l
    obtain ⟨h3, h4, h5⟩ := key c hu hc
    have hg : get ((p ++ (leb (zig c.2.1) ++ r)).drop p.length) = (zig c.2.1, (leb (zig c.2.1)).length, 0) := by
      rw [List.drop_left]
      exact get_leb _ (zig_lt _ h4 h5) _
    unfold stepI
    simp only
    rw [hg]
    simp only [zag_zig, if_true]
    rw [← h3, if_pos hc]
  · rintro c ⟨hu, hc⟩ p j l hj
    obtain ⟨h3, h4, h5⟩ := key c hu hc
    have hg : get ((p ++ (leb (zig c.2.1)).take j).drop p.length) = (0, 0, 3) := by
      rw [List.drop_left]
      exact get_cut _ _ (zig_lt _ h4 h5) hj
    unfold stepI
    simp only
    rw [hg]
    simp
  · intro xs l s l' s' hs h
    unfold stepI at h
    simp only at h
    rcases get_only (xs.drop s) with ⟨n, e, q1, q2, q3⟩ | ⟨e, q1, q2, -⟩
    · rw [e] at h
      simp only [if_true] at h
      split at h
      · rename_i hc
        injection h with h
        injection h with e1 e2
        rw [List.length_drop] at q2
        refine ⟨intC (zag n), ⟨rfl, hc⟩, e1.symm, by omega, ?_, ?_⟩
        · simp only [intC, zig_zag]
          rw [← e2, ← List.drop_drop]
          conv => lhs; rw [← List.take_append_drop (leb n).length (xs.drop s), ← q3]
        · simp only [intC, zig_zag]
          exact e2.symm
      · cases h
    · rw [q1] at h
      simp only at h
      rw [if_neg q2] at h
      cases h
theorem codecR : Codec stepR (fun c => leb c.2.2.size ++ c.2.2.data.toList) (fun c => c.1 = false ∧ isC 5 c = true) := by
  have key : ∀ c : Cl, c.1 = false → isC 5 c = true → c = txtC c.2.2 ∧ c.2.2.size ≤ 1024 := by
    rintro ⟨u, n, s⟩ hu hc
    simp only at hu
    subst hu
    simp [isC, sizeC] at hc
    obtain ⟨rfl, h3⟩ := hc
    exact ⟨rfl, h3⟩
  have hsz : ∀ s : ByteArray, s.data.toList.length = s.size := fun s => Array.length_toList
  refine ⟨?_, ?_, ?_⟩
  · rintro c ⟨hu, hc⟩ p r l
    obtain ⟨h3, h4⟩ := key c hu hc
    have hg : get ((p ++ ((leb c.2.2.size ++ c.2.2.data.toList) ++ r)).drop p.length) = (c.2.2.size, (leb c.2.2.size).length, 0) := by
      rw [List.drop_left, List.append_assoc]
      exact get_leb _ (by omega) _
    have hd : (p ++ ((leb c.2.2.size ++ c.2.2.data.toList) ++ r)).drop (p.length + (leb c.2.2.size).length) = c.2.2.data.toList ++ r := by
      rw [← List.drop_drop, List.drop_left, List.append_assoc, List.drop_left]
    unfold stepR
    simp only
    rw [hg]
    simp only
    simp only [if_true]
    rw [if_neg (by omega), if_neg (by have := hsz c.2.2; simp only [List.length_append]; omega), hd, ← hsz, List.take_left]
    rw [show txtC (txt c.2.2.data.toList) = c from h3.symm]
    simp [Nat.add_assoc]
  · rintro c ⟨hu, hc⟩ p j l hj
    obtain ⟨h3, h4⟩ := key c hu hc
    have hj2 := hj
    rw [List.length_append, hsz] at hj2
    unfold stepR
    simp only
    rw [List.drop_left]
    rcases Nat.lt_or_ge j (leb c.2.2.size).length with h | h
    · rw [List.take_append_of_le_length (by omega), get_cut _ _ (by omega) h]
      simp
    · rw [List.take_append, List.take_of_length_le h, get_leb _ (by omega)]
      simp only
      simp only [if_true]
      rw [if_neg (by omega), if_pos ?_]
      have := hsz c.2.2
      simp only [List.length_append, List.length_take]
      omega
  · intro xs l s l' s' hs h
    unfold stepR at h
    simp only at h
    rcases get_only (xs.drop s) with ⟨n, e, q1, q2, q3⟩ | ⟨e, q1, q2, -⟩
    · rw [e] at h
      simp only [if_true] at h
      split at h
      · cases h
      · rename_i hn
        split at h
        · cases h
        · rename_i hl
          injection h with h
          injection h with e1 e2
          rw [List.length_drop] at q2
          have ht : (txt ((xs.drop (s + (leb n).length)).take n)).size = n := by
            rw [← hsz]
            show ((xs.drop (s + (leb n).length)).take n).length = n
            rw [List.length_take, List.length_drop]
            omega
          refine ⟨_, ⟨rfl, ?_⟩, e1.symm, by omega, ?_, ?_⟩
          · simp only [isC, txtC, sizeC, ht]
            simp
            omega
          · simp only [txtC, ht]
            show xs.drop s = leb n ++ (xs.drop (s + (leb n).length)).take n ++ xs.drop s'
            have hd : (xs.drop (s + (leb n).length)).take n ++ xs.drop (s + (leb n).length + n) = xs.drop (s + (leb n).length) := by
              rw [← List.drop_drop (l := xs) (i := n) (j := s + (leb n).length), List.take_append_drop]
            rw [← e2, List.append_assoc, hd, ← List.drop_drop]
            conv => lhs; rw [← List.take_append_drop (leb n).length (xs.drop s), ← q3]
          · simp only [txtC, ht, List.length_append]
            rw [hsz, ht]
            omega
    · rw [q1] at h
      simp only at h
      rw [if_neg q2] at h
      cases h
def okC (k : Int) (l : List Cl) : Prop := ∀ c ∈ l, c.1 = false ∧ isC k c = true
theorem okC1 {c : Cl} (h : c.1 = false ∧ isC 1 c = true) : boolC (c.2.1 == 1) = c := by
  obtain ⟨u, n, s⟩ := c
  obtain ⟨h1, h2⟩ := h
  simp only at h1
  subst h1
  simp [isC] at h2
  obtain ⟨rfl, h3, h4⟩ := h2
  rcases (show n = 0 ∨ n = 1 by omega) with rfl | rfl <;> rfl
theorem okC4 {c : Cl} (h : c.1 = false ∧ isC 4 c = true) : txtC c.2.2 = c ∧ c.2.2.size ≤ 1024 ∧ Lib.validD c.2.2.data.toList = true := by
  obtain ⟨u, n, s⟩ := c
  obtain ⟨h1, h2⟩ := h
  simp only at h1
  subst h1
  simp [isC, sizeC] at h2
  obtain ⟨⟨rfl, h3⟩, h4⟩ := h2
  exact ⟨rfl, h3, h4⟩
theorem okC_bool (b : Bool) : (boolC b).1 = false ∧ isC 1 (boolC b) = true := by cases b <;> simp [boolC, isC]
theorem getB_put (k : Int) (h1 : 1 ≤ k) (h5 : k ≤ 5) (l : List Cl) (hP : okC k l) (hl : l.length ≤ 1048576) (r : List UInt8) : getB k (bareB k l ++ r) (l.length : Int) = .ok (l, (bareB k l).length) := by
  rcases (show k = 1 ∨ (k = 2 ∨ k = 3) ∨ k = 4 ∨ k = 5 by omega) with rfl | h | rfl | rfl
  · have hu := unpackL_pack (l.map fun c => c.2.1 == 1) r (by simpa using hl)
    rw [List.length_map] at hu
    simp only [getB, bareB, if_true]
    rw [hu]
    simp only [if_true, List.map_map]
    rw [packL_length, List.length_map]
    congr 2
    refine (List.map_congr_left (g := id) fun c hc => ?_).trans (List.map_id l)
    exact okC1 (hP c hc)
  · have := (codecI k h).backs l (fun c hc => hP c hc) r
    have hk : ¬ k = 1 ∧ ¬ k = 4 ∧ ¬ k = 5 := by omega
    simp only [getB, bareB, hk, if_false]
    simpa [intsB] using this
  · have hz : ∀ s ∈ l.map (fun c => c.2.2), (s.size : Int) ≤ 1024 := by
      intro s hs
      obtain ⟨c, hc, rfl⟩ := List.mem_map.1 hs
      have := (okC4 (hP c hc)).2.1
      omega
    have hg := getN_put (l.map fun c => c.2.2) r 1024 (by simpa using hl) hz (fun s hs => by have := hz s hs; omega)
    rw [List.length_map] at hg
    have hd : getDI (putD (l.map fun c => c.2.2) ++ r) (l.length : Int) 1024 = .ok (l.map (fun c => c.2.2), (putD (l.map fun c => c.2.2)).length) := by
      unfold getDI
      rw [if_neg (by omega), Int.toNat_natCast, hg]
    have ha : (l.map fun c => c.2.2).all (fun s => Lib.validD s.data.toList) = true := by
      rw [List.all_eq_true]
      intro s hs
      obtain ⟨c, hc, rfl⟩ := List.mem_map.1 hs
      exact (okC4 (hP c hc)).2.2
    have hm : (l.map fun c => c.2.2).map txtC = l := by
      rw [List.map_map]
      refine (List.map_congr_left (g := id) fun c hc => ?_).trans (List.map_id l)
      exact (okC4 (hP c hc)).1
    simp only [getB, bareB, show ¬ (4 : Int) = 1 by decide, if_false, if_true]
    rw [hd]
    simp only
    rw [if_pos ha, hm]
  · have := codecR.backs l (fun c hc => hP c hc) r
    simp only [getB, bareB, show ¬ (5 : Int) = 1 by decide, show ¬ (5 : Int) = 4 by decide, if_false, if_true]
    simpa [rawsB] using this
theorem getB_only (k : Int) (h1 : 1 ≤ k) (h5 : k ≤ 5) (xs : List UInt8) (n : Nat) (l : List Cl) (s : Nat) (h : getB k xs (n : Int) = .ok (l, s)) : l.length = n ∧ okC k l ∧ s ≤ xs.length ∧ bareB k l = xs.take s := by
  rcases (show k = 1 ∨ (k = 2 ∨ k = 3) ∨ k = 4 ∨ k = 5 by omega) with rfl | hk | rfl | rfl
  · simp only [getB, if_true] at h
    rcases unpackL_only xs (n : Int) with ⟨t, m, e, q1, q2, q3⟩ | ⟨e, q1, q2, -⟩
    · rw [e] at h
      simp only [if_true, Except.ok.injEq, Prod.mk.injEq] at h
      obtain ⟨rfl, rfl⟩ := h
      refine ⟨by rw [List.length_map]; omega, ?_, q2, ?_⟩
      · intro c hc
        obtain ⟨b, -, rfl⟩ := List.mem_map.1 hc
        exact okC_bool b
      · simp only [bareB, if_true, List.map_map]
        rw [← q3]
        congr 1
        refine (List.map_congr_left (g := id) fun b hb => ?_).trans (List.map_id t)
        cases b <;> rfl
    · rw [q1] at h
      simp only at h
      rw [if_neg q2] at h
      cases h
  · have hk2 : ¬ k = 1 ∧ ¬ k = 4 ∧ ¬ k = 5 := by omega
    simp only [getB, hk2, if_false, Int.toNat_natCast] at h
    obtain ⟨q1, q2, q3, q4, q5⟩ := (codecI k hk).onlys xs n l s h
    refine ⟨q1, q2, q3, ?_⟩
    simp only [bareB, hk2, if_false, intsB]
    rw [q4]
    conv => rhs; rw [q5]
    rw [List.take_left]
  · simp only [getB, show ¬ (4 : Int) = 1 by decide, if_false, if_true] at h
    rcases hd : getDI xs (n : Int) 1024 with e | ⟨t, m⟩
    · rw [hd] at h; cases h
    · rw [hd] at h
      simp only at h
      split at h
      · rename_i ha
        simp only [Except.ok.injEq, Prod.mk.injEq] at h
        obtain ⟨rfl, rfl⟩ := h
        obtain ⟨q1, q2, q3, q4, -⟩ := getDI_only xs (n : Int) 1024 t m hd
        have hz := getDI_sizes xs (n : Int) 1024 t m hd
        rw [List.all_eq_true] at ha
        refine ⟨by rw [List.length_map]; omega, ?_, q3, ?_⟩
        · intro c hc
          obtain ⟨b, hb, rfl⟩ := List.mem_map.1 hc
          have h1 := hz b hb
          have h2 := ha b hb
          refine ⟨rfl, ?_⟩
          simp [isC, txtC, sizeC, h2]
          omega
        · simp only [bareB, show ¬ (4 : Int) = 1 by decide, if_false, if_true, List.map_map]
          rw [← q4]
          congr 1
          exact (List.map_congr_left (g := id) fun b hb => rfl).trans (List.map_id t)
      · cases h
  · simp only [getB, show ¬ (5 : Int) = 1 by decide, show ¬ (5 : Int) = 4 by decide, if_false, if_true, Int.toNat_natCast] at h
    obtain ⟨q1, q2, q3, q4, q5⟩ := codecR.onlys xs n l s h
    refine ⟨q1, q2, q3, ?_⟩
    simp only [bareB, show ¬ (5 : Int) = 1 by decide, show ¬ (5 : Int) = 4 by decide, if_false, if_true, rawsB]
    rw [q4]
    conv => rhs; rw [q5]
    rw [List.take_left]
theorem allC_iff (k : Int) (nl : Bool) (l : List Cl) (hk : mayK k = true) : allC k nl l = true ↔ okC k (someC l) ∧ ∀ c ∈ l, c.1 = true → nl = true ∧ c = nullC := by
  unfold allC okC someC
  rw [List.all_eq_true]
  have key : ∀ c : Cl, (checkE k nl c == 0) = true ↔ (c.1 = false → isC k c = true) ∧ (c.1 = true → nl = true ∧ c = nullC) := by
    rintro ⟨u, n, s⟩
    cases u with
    | false =>
      simp only [checkE, hk, if_true]
      by_cases hi : isC k (false, n, s) = true <;> simp [hi]
    | true =>
      simp only [checkE, hk, if_true]
      cases nl with
      | false => simp
      | true =>
        by_cases hn : n = 0 ∧ s = ⟨#[]⟩
        · obtain ⟨rfl, rfl⟩ := hn
          simp [nullC]
        · simp only [Bool.true_and, decide_eq_true_eq]
          rw [if_neg hn]
          simp only [nullC, Prod.mk.injEq, true_and]
          simp
          exact fun h => (not_and.1 hn) h
  constructor
  · intro h
    refine ⟨fun c hc => ?_, fun c hc hu => ((key c).1 (h c hc)).2 hu⟩
    obtain ⟨h1, h2⟩ := List.mem_filter.1 hc
    have h3 : c.1 = false := by simpa using h2
    exact ⟨h3, ((key c).1 (h c h1)).1 h3⟩
  · rintro ⟨h1, h2⟩ c hc
    refine (key c).2 ⟨fun hu => ?_, h2 c hc⟩
    exact (h1 c (List.mem_filter.2 ⟨hc, by simp [hu]⟩)).2
theorem someC_le (l : List Cl) : (someC l).length ≤ l.length := List.length_filter_le _ _
theorem countL_there : ∀ l : List Cl, countL (l.map fun c => !c.1) = (someC l).length
  | [] => rfl
  | c :: l => by
    have := countL_there l
    unfold countL someC at *
    cases hc : c.1 <;> simp [hc] at * <;> omega
theorem merge_some : ∀ l : List Cl, (∀ c ∈ l, c.1 = true → c = nullC) → mergeL (l.map fun c => !c.1) (someC l) = l
  | [], _ => rfl
  | c :: l, h => by
    have ih := merge_some l (fun x hx => h x (by simp [hx]))
    cases hc : c.1 with
    | false => simp [someC, mergeL, hc] at *; exact ih
    | true =>
      have := h c (by simp) hc
      simp [someC, mergeL, hc] at *
      exact ⟨this.symm, ih⟩
theorem some_merge : ∀ (t : List Bool) (l : List Cl), (∀ c ∈ l, c.1 = false) → countL t = l.length → someC (mergeL t l) = l ∧ (mergeL t l).map (fun c => !c.1) = t ∧ ∀ c ∈ mergeL t l, c.1 = true → c = nullC
  | [], l, h, hc => by
    have : l = [] := List.eq_nil_of_length_eq_zero (by simpa [countL] using hc.symm)
    subst this
    simp [mergeL, someC]
  | false :: t, l, h, hc => by
    obtain ⟨h1, h2, h3⟩ := some_merge t l h (by simpa [countL] using hc)
    refine ⟨by simpa [mergeL, someC, nullC] using h1, by simpa [mergeL, nullC] using h2, ?_⟩
    intro c hm hu
    rcases List.mem_cons.1 hm with rfl | hm
    · rfl
    · exact h3 c hm hu
  | true :: t, [], h, hc => by simp [countL] at hc
  | true :: t, c :: l, h, hc => by
    obtain ⟨h1, h2, h3⟩ := some_merge t l (fun x hx => h x (by simp [hx])) (by simpa [countL] using hc)
    have hc0 := h c (by simp)
    refine ⟨by simp [mergeL, someC, hc0] at *; exact h1, by simp [mergeL, hc0] at *; exact h2, ?_⟩
    intro x hm hu
    rcases List.mem_cons.1 hm with rfl | hm
    · rw [hc0] at hu; cases hu
    · exact h3 x hm hu
theorem someC_all (l : List Cl) (h : ∀ c ∈ l, c.1 = false) : someC l = l := List.filter_eq_self.2 fun c hc => by simp [h c hc]
theorem getC_put (k : Int) (nl : Bool) (l : List Cl) (hk : mayK k = true) (ha : allC k nl l = true) (hl : l.length ≤ 1048576) (r : List UInt8) : getC k nl (putB k nl l [] ++ r) (l.length : Int) = .ok (l, (putB k nl l []).length) := by
  obtain ⟨h1, h5⟩ : 1 ≤ k ∧ k ≤ 5 := by simpa [mayK] using hk
  obtain ⟨ho, hn⟩ := (allC_iff k nl l hk).1 ha
  have hs := someC_le l
  unfold getC
  rw [if_neg (by simp [hk]), if_neg (by omega)]
  cases nl with
  | false =>
    have hsl : someC l = l := someC_all l fun c hc => by
      cases hu : c.1 with
      | false => rfl
      | true => exact absurd (hn c hc hu).1 (by simp)
    rw [hsl] at ho
    simp only [putB, Bool.false_eq_true, if_false, List.nil_append, if_true, hsl]
    exact getB_put k h1 h5 l ho hl r
  | true =>
    have hu := unpackL_pack (l.map fun c => !c.1) (bareB k (someC l) ++ r) (by simpa using hl)
    rw [List.length_map] at hu
    simp only [putB, if_true, List.nil_append, List.append_assoc]
    rw [hu]
    simp only [Bool.true_eq_false, if_false, if_true]
    have hp : (packL (l.map fun c => !c.1)).length = need l.length := by rw [packL_length, List.length_map]
    rw [← hp, List.drop_left, countL_there, getB_put k h1 h5 (someC l) ho (by omega) r]
    simp only
    rw [merge_some l (fun c hc hu => (hn c hc hu).2), List.length_append]
theorem getC_only (k : Int) (nl : Bool) (xs : List UInt8) (n : Int) (l : List Cl) (s : Nat) (h : getC k nl xs n = .ok (l, s)) : mayK k = true ∧ (l.length : Int) = n ∧ l.length ≤ 1048576 ∧ s ≤ xs.length ∧ putB k nl l [] = xs.take s ∧ allC k nl l = true := by
  unfold getC at h
  split at h
  · cases h
  · rename_i hk
    have hk : mayK k = true := by simpa using hk
    obtain ⟨h1, h5⟩ : 1 ≤ k ∧ k ≤ 5 := by simpa [mayK] using hk
    split at h
    · cases h
    · rename_i hn
      obtain ⟨m, rfl⟩ : ∃ m : Nat, n = (m : Int) := ⟨n.toNat, by omega⟩
      cases nl with
      | false =>
        simp only [if_true] at h
        obtain ⟨q1, q2, q3, q4⟩ := getB_only k h1 h5 xs m l s h
        have hsl : someC l = l := someC_all l fun c hc => (q2 c hc).1
        refine ⟨hk, by omega, by omega, q3, by simp [putB, hsl, q4], (allC_iff k false l hk).2 ⟨by rw [hsl]; exact q2, fun c hc hu => ?_⟩⟩
        rw [(q2 c hc).1] at hu
        cases hu
      | true =>
        simp only [Bool.true_eq_false, if_false] at h
        rcases unpackL_only xs (m : Int) with ⟨t, a, e, q1, q2, q3⟩ | ⟨e, q1, q2, -⟩
        · rw [e] at h
          simp only [if_true] at h
          rcases hg : getB k (xs.drop a) (countL t : Int) with e2 | ⟨l2, s2⟩
          · rw [hg] at h; cases h
          · rw [hg] at h
            simp only [Except.ok.injEq, Prod.mk.injEq] at h
            obtain ⟨rfl, rfl⟩ := h
            obtain ⟨g1, g2, g3, g4⟩ := getB_only k h1 h5 _ _ l2 s2 hg
            obtain ⟨m1, m2, m3⟩ := some_merge t l2 (fun c hc => (g2 c hc).1) g1.symm
            have hlen := mergeL_len t l2 (by omega)
            rw [List.length_drop] at g3
            refine ⟨hk, by rw [hlen]; exact q1, by rw [hlen]; omega, by omega, ?_, (allC_iff k true _ hk).2 ⟨by rw [m1]; exact g2, fun c hc hu => ⟨rfl, m3 c hc hu⟩⟩⟩
            simp only [putB, if_true, List.nil_append]
            rw [m1, m2, g4, q3, List.take_add]
        · rw [q1] at h
          simp only at h
          rw [if_neg q2] at h
          cases h
end Go.Proofs.YtdajddkbkbnoiaaGreatDoor
namespace Go.Proofs.YtdajddkbkbnoiaaGreatDoor
def crcPoly : Nat := 2197175160
def stepZ (r : Nat) : Nat := (r / 2) ^^^ (if r % 2 = 1 then crcPoly else 0)
def step4 (r : Nat) : Nat := stepZ (stepZ (stepZ (stepZ r)))
def byteR (r : Nat) (c : UInt8) : Nat := step4 (step4 (r ^^^ c.toNat))
def crcR (r : Nat) (xs : List UInt8) : Nat := xs.foldl byteR r
def crcU (s : Nat) (xs : List UInt8) : Nat := 4294967295 - crcR (4294967295 - s) xs
def crcS (xs : List UInt8) : Nat := crcU 0 xs
def sumB (s : Nat) : List UInt8 := [UInt8.ofNat s, UInt8.ofNat (s / 256), UInt8.ofNat (s / 65536), UInt8.ofNat (s / 16777216)]
def crcTab : List Nat := [0, 274646895, 549293790, 820201905, 1098587580, 1361435347, 1640403810, 1905808397, 2197175160, 2460548119, 2722870694, 2987750089, 3280807620, 3553878443, 3811616794, 4084100981]
theorem xor_half (a b : Nat) : (a ^^^ b) / 2 = (a / 2) ^^^ (b / 2) := by
  apply Nat.eq_of_testBit_eq
  intro i
  simp [Nat.testBit_div_two]
theorem xor_par (a b : Nat) : (a ^^^ b) % 2 = (a % 2 + b % 2) % 2 := by
  have h0 : (a ^^^ b).testBit 0 = (a.testBit 0 ^^ b.testBit 0) := Nat.testBit_xor ..
  simp only [Nat.testBit_zero] at h0
  rcases Nat.mod_two_eq_zero_or_one a with ha | ha <;> rcases Nat.mod_two_eq_zero_or_one b with hb | hb <;> rcases Nat.mod_two_eq_zero_or_one (a ^^^ b) with hc | hc <;> simp [ha, hb, hc] at h0 ⊢
theorem stepZ_xor (a b : Nat) : stepZ (a ^^^ b) = stepZ a ^^^ stepZ b := by
  unfold stepZ
  rw [xor_half, xor_par]
  apply Nat.eq_of_testBit_eq
  intro i
  rcases Nat.mod_two_eq_zero_or_one a with ha | ha <;> rcases Nat.mod_two_eq_zero_or_one b with hb | hb <;> simp [ha, hb]
  all_goals cases (a / 2).testBit i <;> cases (b / 2).testBit i <;> cases crcPoly.testBit i <;> rfl
theorem stepZ_double (m : Nat) : stepZ (2 * m) = m := by
  unfold stepZ
  rw [if_neg (by omega), Nat.xor_zero]
  omega
theorem step4_xor (a b : Nat) : step4 (a ^^^ b) = step4 a ^^^ step4 b := by
  unfold step4
  rw [stepZ_xor, stepZ_xor, stepZ_xor, stepZ_xor]
theorem step4_low (q : Nat) : step4 (16 * q) = q := by
  unfold step4
  rw [show 16 * q = 2 * (2 * (2 * (2 * q))) by omega, stepZ_double, stepZ_double, stepZ_double, stepZ_double]
theorem split16 (r : Nat) : (16 * (r / 16)) ^^^ (r % 16) = r := by
  apply Nat.eq_of_testBit_eq
  intro i
  have h16 : (16 : Nat) = 2 ^ 4 := rfl
  rw [Nat.testBit_xor, h16, Nat.testBit_two_pow_mul, Nat.testBit_mod_two_pow, Nat.testBit_div_two_pow]
  by_cases hi : 4 ≤ i
  · have h1 : ¬ i < 4 := by omega
    have h2 : i - 4 + 4 = i := by omega
    simp [hi, h1, h2]
  · have h1 : i < 4 := by omega
    simp [hi, h1]
theorem step4_tab (l : Nat) (h : l < 16) : crcTab[l]? = some (step4 l) := by
  have : ∀ k : Fin 16, crcTab[k.val]? = some (step4 k.val) := by decide +kernel
  exact this ⟨l, h⟩
theorem step4_half (r : Nat) : step4 r = (r / 16) ^^^ step4 (r % 16) := by
  conv => lhs; rw [← split16 r]
  rw [step4_xor, step4_low]
theorem stepZ_lt {r : Nat} (h : r < 4294967296) : stepZ r < 4294967296 := by
  unfold stepZ
  refine Nat.xor_lt_two_pow (n := 32) (by omega) ?_
  split <;> decide
theorem step4_lt {r : Nat} (h : r < 4294967296) : step4 r < 4294967296 := stepZ_lt (stepZ_lt (stepZ_lt (stepZ_lt h)))
theorem xorb_lt {r : Nat} (h : r < 4294967296) (c : UInt8) : r ^^^ c.toNat < 4294967296 := by
  have := c.toNat_lt
  exact Nat.xor_lt_two_pow (n := 32) (by omega) (by omega)
theorem byteR_lt {r : Nat} (h : r < 4294967296) (c : UInt8) : byteR r c < 4294967296 := step4_lt (step4_lt (xorb_lt h c))
theorem crcR_lt {r : Nat} (h : r < 4294967296) (xs : List UInt8) : crcR r xs < 4294967296 := by
  induction xs generalizing r with
  | nil => exact h
  | cons c xs ih => exact ih (byteR_lt h c)
theorem crcU_lt (s : Nat) (xs : List UInt8) : crcU s xs < 4294967296 := by unfold crcU; omega
theorem crcR_append (r : Nat) (xs ys : List UInt8) : crcR r (xs ++ ys) = crcR (crcR r xs) ys := by unfold crcR; exact List.foldl_append
def stepB (r b : Nat) : Nat := (r / 2) ^^^ (if r % 2 ≠ b then crcPoly else 0)
theorem stepB_xor (r c : Nat) : stepZ (r ^^^ c) = stepB r (c % 2) ^^^ (c / 2) := by
  unfold stepZ stepB
  rw [xor_half, xor_par]
  rcases Nat.mod_two_eq_zero_or_one r with ha | ha <;> rcases Nat.mod_two_eq_zero_or_one c with hb | hb <;> simp [ha, hb] <;> (apply Nat.eq_of_testBit_eq; intro i; simp; cases (r / 2).testBit i <;> cases (c / 2).testBit i <;> cases crcPoly.testBit i <;> rfl)
def stepsB (r c : Nat) : Nat → Nat
  | 0 => r
  | k + 1 => stepB (stepsB r c k) (c / 2 ^ k % 2)
def stepsZ (r : Nat) : Nat → Nat
  | 0 => r
  | k + 1 => stepZ (stepsZ r k)
theorem stepsZ_xor (r c : Nat) (k : Nat) : stepsZ (r ^^^ c) k = stepsB r c k ^^^ (c / 2 ^ k) := by
  induction k with
  | zero => simp [stepsZ, stepsB]
  | succ k ih =>
    rw [stepsZ, ih, stepB_xor, stepsB, Nat.pow_succ, Nat.div_div_eq_div_mul]
theorem byteR_bits (r : Nat) (c : UInt8) : stepsB r c.toNat 8 = byteR r c := by
  have h := stepsZ_xor r c.toNat 8
  have hc := c.toNat_lt
  rw [show c.toNat / 2 ^ 8 = 0 by omega, Nat.xor_zero] at h
  rw [← h]
  rfl
theorem stepB_lt {r : Nat} (h : r < 4294967296) (b : Nat) : stepB r b < 4294967296 := by
  unfold stepB
  refine Nat.xor_lt_two_pow (n := 32) (by omega) ?_
  split <;> decide
theorem stepsB_lt {r : Nat} (h : r < 4294967296) (c k : Nat) : stepsB r c k < 4294967296 := by
  induction k with
  | zero => exact h
  | succ k ih => exact stepB_lt ih _
end Go.Proofs.YtdajddkbkbnoiaaGreatDoor
