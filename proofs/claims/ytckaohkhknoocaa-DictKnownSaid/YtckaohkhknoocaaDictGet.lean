/- Layer 15, walked: Get of the program. -/
import Derived.Test.YtckaohkhknoocaaDictDic
set_option linter.unusedVariables false
set_option linter.unusedSimpArgs false
namespace Go.Proofs.Ytckaohkhknoocaa
open Go.RowKit
theorem own_block_ne {w : World} {base n c g : Nat} {e t : TypeId} {A : Option Addr} {xs : List Value} {cs : Array Value} (h : w.ownsRow base e 1 (.slice A n c) n xs) (hb : Blk w g t cs) (hne : e ≠ t) : ∀ ad, A = some ad → ad.block ≠ g := by
  rintro ad rfl
  rcases h.2 with ⟨h0, _⟩ | ⟨g2, cap, cur, hv, h1, h2, h3⟩
  · cases h0
  · injection hv with hA
    injection hA with hA
    subst hA
    rintro rfl
    unfold Blk at hb
    rw [h2] at hb
    injection hb with hb
    injection hb with _ h4
    exact hne h4
/-- A row that lies below B is kept while a row from B on grows. -/
theorem own_sep {w w' : World} {base B : Nat} {e e2 : TypeId} {v v2 : Value} {n n2 size size2 : Nat} {xs ys : List Value} (h : w.ownsRow base e size v n xs) (hB : ∀ k, v.ownBlock = some k → k < B) (h2 : w.ownsRow B e2 size2 v2 n2 ys) (hg : w.grownBy w' v2.ownBlock) : w'.ownsRow base e size v n xs := by
  refine h.kept hg ?_
  rcases hv : v.ownBlock with _ | k
  · exact .inl rfl
  · right
    have := hB k hv
    rcases hv2 : v2.ownBlock with _ | k2
    · simp
    · have := (h2.lt k2 hv2).1
      simp only [ne_eq, Option.some.injEq]
      omega
/-- While numbers are read: all is well so far, or there is an error. -/
def InGet (gc gb B : Nat) (A : Option Addr) (l c : Nat) (xs : List UInt8) (most : Int) (n : Nat) (w : World) (k : Nat) (out : List ByteArray) (wr : World) : Prop :=
  ∃ at2 er, Cut wr gc A l c at2 er ∧ ((er ≠ 0 ∧ getN xs n most = .error er) ∨ (er = 0 ∧ at2 ≤ l ∧ ∃ (d : List ByteArray) (r : List UInt8) (Ad : Option Addr) (cd u : Nat) (ns : List Nat), dictL xs n most = .ok (d, r) ∧ w.heap.size ≤ gb ∧ Book wr gb Ad d.length cd u ∧ d.length ≤ cd ∧ cd ≤ maxLen ∧
    wr.ownsRow w.heap.size 9 1 (.slice Ad d.length cd) d.length (txs d) ∧ (∀ q, (Value.slice Ad d.length cd).ownBlock = some q → q < B) ∧ u ≤ d.length ∧ takeNums d.length k (xs.drop at2) u ns = takeNums d.length n r 0 [] ∧ out = ns.filterMap (d[·]?)))
/-- What Get hands back. -/
def Got3 (r : Except Nat (List ByteArray × Nat)) (w : World) (e : Ending) (w' : World) : Prop :=
  Below w.heap.size w w' ∧ match r with
    | .error k => e = .returned (.tuple #[.slice none 0 0, .int .i64 0, .int .i64 (k : Int)])
    | .ok (l, size) => ∃ (A : Option Addr) (c : Nat), e = .returned (.tuple #[.slice A l.length c, .int .i64 (size : Int), .int .i64 0]) ∧ l.length ≤ c ∧ c ≤ maxLen ∧ w'.ownsRow w.heap.size 9 1 (.slice A l.length c) l.length (txs l)
theorem got3_err {r : Except Nat (List ByteArray × Nat)} {k : Nat} {w w' : World} (hr : r = .error k) (h : Below w.heap.size w w') : Got3 r w (.returned (.tuple #[.slice none 0 0, .int .i64 0, .int .i64 (k : Int)])) w' := by
  subst hr
  exact ⟨h, rfl⟩
theorem getDI_bad (xs : List UInt8) (n most : Int) (h : n < 0 ∨ 1048576 < n) : getDI xs n most = .error 6 := by
  unfold getDI
  rw [if_pos h]
theorem getDI_ok (xs : List UInt8) (n : Nat) (most : Int) (h : n ≤ 1048576) : getDI xs (n : Int) most = getN xs n most := by
  unfold getDI
  rw [if_neg (by omega), Int.toNat_natCast]
theorem getN_dict {xs : List UInt8} {n : Nat} {most : Int} {k : Nat} (h : dictL xs n most = .error k) : getN xs n most = .error k := by
  unfold getN
  rw [h]
theorem getN_num {xs : List UInt8} {n : Nat} {most : Int} {k : Nat} {d : List ByteArray} {r : List UInt8} (h : dictL xs n most = .ok (d, r)) (h2 : takeNums d.length n r 0 [] = .error k) : getN xs n most = .error k := by
  unfold getN
  rw [h]
  simp only [h2]
theorem getN_end {xs : List UInt8} {n : Nat} {most : Int} {d : List ByteArray} {r q : List UInt8} {u : Nat} {ns : List Nat} (h : dictL xs n most = .ok (d, r)) (h2 : takeNums d.length n r 0 [] = .ok (u, ns, q)) : getN xs n most = if u < d.length then .error 150 else .ok (ns.filterMap (d[·]?), xs.length - q.length) := by
  unfold getN
  rw [h]
  simp only [h2]
set_option maxRecDepth 100000 in
set_option maxHeartbeats 4000000 in
theorem dget_any (A : Option Addr) (l c : Nat) (xs : List UInt8) (n most : Int) (w : World) (hr : Reads w w.heap.size 1 A l (u8s xs)) (hl : l ≤ c) (hc : c ≤ maxLen) (hn1 : -9223372036854775808 ≤ n) (hn2 : n ≤ 9223372036854775807) (hm : most ≤ 9223372036854775807) :
    Calls Try.prog 24 #[.slice A l c, .int .i64 n, .int .i64 most] w (Got3 (getDI xs n most) w) := by
  obtain ⟨i0, hi0, hz0, hz1, hz2⟩ := info_parts text_info
  have Hrl := Lib.hid (reads_len hr)
  by_cases hn : n < 0 ∨ 1048576 < n
  · rw [getDI_bad xs n most hn]
    rcases hn with hn | hn
    all_goals
      go_enter Try.func24, Try.ntmps24
      go_wp2
      go_ret3
      exact got3_err rfl (Below.refl _ _)
  · obtain ⟨n, rfl⟩ := Int.eq_ofNat_of_zero_le (by omega : 0 ≤ n)
    rw [getDI_ok xs n most (by omega)]
    have hnn : n ≤ 1048576 := by omega
    clear hn hn1 hn2
    go_enter Try.func24, Try.ntmps24
    go_wp2_with fail
    have hb0 : Cut (w.alloc (.cells #[.slice A l c, .int .i64 0, .int .i64 0] 60)) w.heap.size A l c 0 0 := Blk.new w _ _
    have hne : 0 < l → ∀ ad, A = some ad → ad.block ≠ w.heap.size := by
      rintro h0 ad rfl
      obtain ⟨ad', e, hlt', -⟩ := hr.2 h0
      obtain rfl := Option.some.inj e
      omega
    have hr0 := hr.al (.cells #[.slice A l c, .int .i64 0, .int .i64 0] 60)
    have hB0 := bal (Below.refl w.heap.size w) (.cells #[.slice A l c, .int .i64 0, .int .i64 0] 60)
    have hs0 : w.heap.size < (w.alloc (.cells #[.slice A l c, .int .i64 0, .int .i64 0] 60)).heap.size := by simp
    with_reducible refine (cdic_any w.heap.size A l c xs n most _ hb0 hr0 hl hc hne hnn hm).mono ?_
    rintro e w3 ⟨hg3, h3⟩
    generalize w.alloc (.cells #[.slice A l c, .int .i64 0, .int .i64 0] 60) = w1 at hg3 hr0 hB0 hb0 hs0 h3
    have hB3 : Below w.heap.size w w3 := hB0.trans (Below.by_ hg3 hB0.size (Nat.le_refl _))
    have hstart : ∃ (v : Value) (gb : Nat), e = .returned v ∧ InGet w.heap.size gb w3.heap.size A l c xs most n w n [] w3 ∧ ((∃ k, dictL xs n most = .error k) ∨ v = .pointer (some ⟨gb, 0, none⟩)) := by
      rcases hd : dictL xs n most with k | ⟨d, r⟩
      · rw [hd] at h3
        obtain ⟨hk, ⟨v, rfl⟩, at2, hcut⟩ := h3
        exact ⟨v, 0, rfl, ⟨at2, k, hcut, .inl ⟨hk, getN_dict hd⟩⟩, .inl ⟨k, rfl⟩⟩
      · rw [hd] at h3
        obtain ⟨gb, A1, c1, at2, rfl, h4, h5, rfl, h6, h7, h8, h9, h10⟩ := h3
        refine ⟨_, gb, rfl, ⟨at2, 0, h6, .inr ⟨rfl, h5, d, _, A1, c1, 0, [], hd, Nat.le_trans (Nat.le_of_lt hs0) h4, h7, h8, h9, own_mono h10 (Nat.le_of_lt hs0), fun q hq => (h10.lt q hq).2, Nat.zero_le _, rfl, rfl⟩⟩, .inr rfl⟩
    obtain ⟨v, gb, rfl, hst, hv⟩ := hstart
    have hwB : w.heap.size < w3.heap.size := Nat.lt_of_lt_of_le hs0 hg3.size
    have Hst := Lib.hid hst
    have Hv := Lib.hid hv
    obtain ⟨B, hBB⟩ : ∃ B, B = w3.heap.size := ⟨_, rfl⟩
    rw [← hBB] at Hst hwB
    have HBr := Lib.hid (Nat.le_of_eq hBB)
    clear hBB
    clear h3 hst hv hg3 hb0 hB0 hr0 hs0
    go_wp2
    go_loopw [6, 27] (fun u i wr => ∃ (k no : Nat) (A1 : Option Addr) (c1 : Nat) (out : List ByteArray), k ≤ n ∧ no ≤ k ∧ i = .int .i64 (k : Int) ∧ u = .slice A1 no c1 ∧ wr.ownsRow B 9 1 (.slice A1 no c1) no (txs out) ∧
      Hid (InGet w.heap.size gb B A l c xs most n w (n - k) out wr) ∧ Below w.heap.size w wr ∧ Hid (B ≤ wr.heap.size)) (fun _ i _ => n - (intOf i).toNat)
    case atStart => exact ⟨0, 0, none, 0, [], Nat.zero_le _, Nat.le_refl _, rfl, rfl, World.ownsRow_nil _ _ _ _, Hst, hB3, HBr⟩
    case round =>
      clear Hst hB3
      obtain ⟨k, no, A1, c1, out, hk, hno, rfl, rfl, hown, hst, hB, hBs⟩ := hrel
      obtain ⟨at2, er, hcut, hcase⟩ := hst.out
      clear hst
      have hlen : out.length = no := by have := hown.1; simpa using this
      have Hlen := Lib.hid hlen
      clear hlen
      rcases hcase with ⟨her, hres⟩ | ⟨rfl, hat2, d, r, Ad, cd, u, ns, hd, hgbw, hbook, hdc, hcm, hownd, hsep, hu, htn, hout⟩
      · have hn : ((er : Int) == 0) = false := by simp; omega
        have hn2 : ((er : Int) != 0) = true := by simp; omega
        have c2 := hcut.cell 2
        have Hres := Lib.hid hres
        have Hcut := Lib.hid hcut
        clear hres hcut
        by_cases hlt : k < n
        · go_wp2_with fail
          with_reducible refine (cnum_err w.heap.size A l c at2 er _ Hcut.out her).mono ?_
          rintro e w' ⟨rfl, rfl⟩
          go_wp2
          go_region
          all_goals
            go_wp2
            go_ret3
            exact got3_err Hres.out hB.drew
        · go_wp2
          go_region
          all_goals
            go_wp2
            go_ret3
            exact got3_err Hres.out hB.drew
      · obtain rfl : v = .pointer (some ⟨gb, 0, none⟩) := Hv.out.resolve_left (by rintro ⟨k, hk⟩; rw [hk] at hd; cases hd)
        by_cases hlt : k < n
        · have hrw : Reads wr wr.heap.size 1 A l (u8s xs) := (hr.below hB).more hB.size
          have htn2 := htn
          rw [show n - k = (n - (k + 1)) + 1 from by omega, takeNums] at htn2
          have hgs := get_size (xs.drop at2)
          rw [List.length_drop, Hrl.out] at hgs
          have hgcb : w.heap.size ≠ gb := hcut.ne hbook (by decide)
          have Hcut := Lib.hid hcut
          have Hd := Lib.hid hd
          have Hbook := Lib.hid hbook
          have Hsep := Lib.hid hsep
          have Hout := Lib.hid hout
          have hbs := hBs.out
          have hdm : d.length ≤ maxLen := Nat.le_trans hdc hcm
          clear hcut hd hbook hsep hout htn
          go_wp2_with fail
          with_reducible refine (cnum_any w.heap.size A l c at2 xs _ Hcut.out hrw hl hc hat2).mono ?_
          rintro e w4 ⟨rfl, hcut4, hg4⟩
          have hB4 := hB.trans (Below.by_ hg4 hB.size (Nat.le_refl _))
          have hbook4 := Hbook.out.other hg4 hgcb.symm
          have hown4 := own_grown hown Hcut.out (by decide) hg4
          have hownd4 := own_grown hownd Hcut.out (by decide) hg4
          have hBs4 : B ≤ w4.heap.size := Nat.le_trans hbs hg4.size
          rw [show (xs.drop at2).drop (get (xs.drop at2)).2.1 = xs.drop (at2 + (get (xs.drop at2)).2.1) from by rw [List.drop_drop]] at htn2
          generalize get (xs.drop at2) = rr at hgs hcut4 htn2 ⊢
          obtain ⟨rn, rk, re⟩ := rr
          obtain ⟨hk1, hk2, hk3⟩ := hgs
          simp only at hk1 hk2 hk3 hcut4 htn2 ⊢
          have hq : at2 + rk ≤ l := by omega
          generalize at2 + rk = q at hcut4 htn2 hq
          clear hg4 hrw Hcut Hbook hown hownd
          by_cases hre : re = 0
          · subst hre
            rw [if_neg (by simp)] at htn2
            have c24 := hcut4.cell 2
            have f24 := hcut4.frozen 2
            have hs1 : no + 1 ≤ maxLen := by simp only [maxLen]; omega
            have hs2 : (no + 1) * 16 ≤ 70368744177664 := by omega
            by_cases hbad : d.length ≤ rn ∨ u < rn
            · rw [if_pos hbad] at htn2
              have Hres := Lib.hid (getN_num Hd.out htn2.symm)
              have hcut6 := hcut4.set_ 2 (.int .i64 150)
              have hown6 := own_far hown4 hcut4 (by decide) 2 (.int .i64 150)
              have hB6 := hB4.setCell (p := ⟨w.heap.size, 2, none⟩) (Nat.le_refl _) (.int .i64 150)
              have hBs6 : B ≤ (w4.setCell ⟨w.heap.size, 2, none⟩ (.int .i64 150)).heap.size := by simpa using hBs4
              have Hcut6 := Lib.hid hcut6
              have Hbook4 := Lib.hid hbook4
              clear htn2 hcut4 hcut6 hownd4 hbook4 hown4 hk3
              go_wp2_with fail
              with_reducible refine (btext_no gb Ad d.length cd u (rn : Int) _ Hbook4.out hdm hu (by omega)).mono ?_
              rintro e w' ⟨rfl, rfl⟩
              go_wp2_with (at_builtin
                           refine wpList_append_any _ rfl (.tmp 45) (.tmp 47) 22 rfl B 9 i0 (.string ⟨#[]⟩) 1 16 Try.underlying22 hi0 hz0 hz1 hz2 rfl (by decide) A1 no c1 _ rfl (hown6.alloc _) _ 1 1 [.string (⟨#[]⟩ : ByteArray)] rfl (by first | exact reads_new _ _ _ | exact reads_new_at _ _ _ _ (by simp)) (one_text (⟨#[]⟩ : ByteArray)) hs1 hs2 (by simp; omega) ?_
                           intro A3 c3 w7 hown7 hb7 hg7 hc7 hm7)
              rw [show txs out ++ [Value.string (⟨#[]⟩ : ByteArray)] = txs (out ++ [(⟨#[]⟩ : ByteArray)]) from by simp [txs]] at hown7
              have hcut7 := (Hcut6.out.alloc (.cells #[.string (⟨#[]⟩ : ByteArray)] 9)).apart (hown6.alloc _) (by decide) hg7
              have hB7 := (hB6.alloc hB6.size (.cells #[.string (⟨#[]⟩ : ByteArray)] 9)).trans (hb7.mono (Nat.le_of_lt hwB))
              have hBs7 : B ≤ w7.heap.size := Nat.le_trans hBs6 (Nat.le_trans (by simp) hb7.size)
              go_roundw
              case rel => exact ⟨k + 1, no + 1, A3, c3, _, by omega, by omega, by go_num, rfl, hown7, Lib.hid ⟨q, 150, hcut7, .inl ⟨by decide, Hres.out⟩⟩, hB7, Lib.hid hBs7⟩
              case measure => simp [intOf]; omega
            · rw [if_neg hbad] at htn2
              have hy1 : rn ≤ u := by omega
              have hy2 : rn < d.length := by omega
              have hds := List.getElem?_eq_getElem hy2
              generalize d[rn] = s at hds
              have Htn := Lib.hid htn2
              have Hds := Lib.hid hds
              have hgb := own_block_ne hownd4 hbook4 (by decide)
              have hrd := own_reads hownd4
              have Hbook4 := Lib.hid hbook4
              have Hcut4 := Lib.hid hcut4
              clear htn2 hds hbad hbook4 hcut4 hk3
              go_wp2_with fail
              with_reducible refine (btext_yes gb Ad d.length cd u rn d s _ Hbook4.out hrd hdm hu hy1 hy2 Hds.out hgb).mono ?_
              rintro e w5 ⟨rfl, hw5⟩
              clear hgb hrd c24 f24
              have hall : Below w.heap.size w w5 ∧ Book w5 gb Ad d.length cd (if rn = u then u + 1 else u) ∧ w5.ownsRow B 9 1 (.slice A1 no c1) no (txs out) ∧ w5.ownsRow w.heap.size 9 1 (.slice Ad d.length cd) d.length (txs d) ∧ Cut w5 w.heap.size A l c q 0 ∧ B ≤ w5.heap.size := by
                subst hw5
                by_cases e : rn = u
                · rw [if_pos e, if_pos e]
                  exact ⟨hB4.setCell (p := ⟨gb, 1, none⟩) hgbw _, Hbook4.out.set_ 1 _, own_far hown4 Hbook4.out (by decide) 1 _, own_far hownd4 Hbook4.out (by decide) 1 _, Hcut4.out.far (p := ⟨gb, 1, none⟩) hgcb _, by simpa using hBs4⟩
                · rw [if_neg e, if_neg e]
                  exact ⟨hB4, Hbook4.out, hown4, hownd4, Hcut4.out, hBs4⟩
              obtain ⟨hB5, hbook5, hown5, hownd5, hcut5, hBs5⟩ := hall
              have hu6 : (if rn = u then u + 1 else u) ≤ d.length := by split <;> omega
              clear hw5 hown4 hownd4 Hcut4 Hbook4
              generalize (if rn = u then u + 1 else u) = u6 at hbook5 hu6 Htn
              have c25 := hcut5.cell 2
              have f25 := hcut5.frozen 2
              have hcut6 := hcut5.set_ 2 (.int .i64 0)
              have hown6 := own_far hown5 hcut5 (by decide) 2 (.int .i64 0)
              have hownd6 := own_far hownd5 hcut5 (by decide) 2 (.int .i64 0)
              have hbook6 := hbook5.far (p := ⟨w.heap.size, 2, none⟩) hgcb.symm (.int .i64 0)
              have hB6 := hB5.setCell (p := ⟨w.heap.size, 2, none⟩) (Nat.le_refl _) (.int .i64 0)
              have hBs6 : B ≤ (w5.setCell ⟨w.heap.size, 2, none⟩ (.int .i64 0)).heap.size := by simpa using hBs5
              have Hcut6 := Lib.hid hcut6
              have Hbook6 := Lib.hid hbook6
              clear hcut5 hcut6 hbook6 hbook5 hown5 hownd5
              go_wp2_with (at_builtin
                           refine wpList_append_any _ rfl (.tmp 45) (.tmp 47) 22 rfl B 9 i0 (.string ⟨#[]⟩) 1 16 Try.underlying22 hi0 hz0 hz1 hz2 rfl (by decide) A1 no c1 _ rfl (hown6.alloc _) _ 1 1 [.string s] rfl (by first | exact reads_new _ _ _ | exact reads_new_at _ _ _ _ (by simp)) (one_text s) hs1 hs2 (by simp; omega) ?_
                           intro A3 c3 w7 hown7 hb7 hg7 hc7 hm7)
              rw [show txs out ++ [Value.string s] = txs (out ++ [s]) from by simp [txs]] at hown7
              have hcut7 := (Hcut6.out.alloc (.cells #[.string s] 9)).apart (hown6.alloc _) (by decide) hg7
              have hB7 := (hB6.alloc hB6.size (.cells #[.string s] 9)).trans (hb7.mono (Nat.le_of_lt hwB))
              have hBs7 : B ≤ w7.heap.size := Nat.le_trans hBs6 (Nat.le_trans (by simp) hb7.size)
              have hbook7 := (Hbook6.out.alloc (.cells #[.string s] 9)).apart (hown6.alloc _) (by decide) hg7
              have hownd7 := own_sep (hownd6.alloc (.cells #[.string s] 9)) Hsep.out (hown6.alloc _) hg7
              have hout7 : out ++ [s] = (ns ++ [rn]).filterMap (d[·]?) := by rw [outs_snoc d ns rn s Hds.out, ← Hout.out]
              have Hout7 := Lib.hid hout7
              clear hout7
              go_roundw
              case rel => exact ⟨k + 1, no + 1, A3, c3, _, by omega, by omega, by go_num, rfl, hown7, Lib.hid ⟨q, 0, hcut7, .inr ⟨rfl, hq, d, r, Ad, cd, u6, ns ++ [rn], Hd.out, hgbw, hbook7, hdc, hcm, hownd7, Hsep.out, hu6, Htn.out, Hout7.out⟩⟩, hB7, Lib.hid hBs7⟩
              case measure => simp [intOf]; omega
          · rw [if_pos hre] at htn2
            have hn : ((re : Int) == 0) = false := by simp; omega
            have hn2 : ((re : Int) != 0) = true := by simp; omega
            have c2 := hcut4.cell 2
            have Hres := Lib.hid (getN_num Hd.out htn2.symm)
            clear htn2 hcut4 hk3
            go_wp2
            go_region
            all_goals
              go_wp2
              go_ret3
              exact got3_err Hres.out hB4.drew
        · have hkn : n - k = 0 := by omega
          rw [hkn, takeNums] at htn
          have hfin := getN_end hd htn.symm
          have Hfin := Lib.hid hfin
          have hdm : d.length ≤ maxLen := Nat.le_trans hdc hcm
          have c2 := hcut.cell 2
          have Hcut := Lib.hid hcut
          have Hbook := Lib.hid hbook
          have Hout := Lib.hid hout
          clear hcut hbook hsep hout htn hfin hd
          go_wp2_with fail
          with_reducible refine (bend_any gb Ad d.length cd u _ Hbook.out hdm hu).mono ?_
          rintro e w8 ⟨rfl, hb8⟩
          have hcut8 := Hcut.out.on hb8
          have hown8 := own_below hown hb8
          have hB8 := bon hB hb8
          have f28 := hcut8.frozen 2
          have c28 := hcut8.cell 2
          by_cases hud : u < d.length
          · rw [if_pos hud]
            have hB9 := hB8.setCell (p := ⟨w.heap.size, 2, none⟩) (Nat.le_refl _) (.int .i64 150)
            have hcut9 := hcut8.set_ 2 (.int .i64 150)
            have c29 := hcut9.cell 2
            have c19 := hcut9.cell 1
            have hres := Hfin.out
            rw [if_pos hud] at hres
            have Hres := Lib.hid hres
            clear hres hcut8 hcut9 Hfin
            go_wp2
            go_region
            all_goals
              go_wp2
              go_ret3
              exact got3_err Hres.out hB9.drew
          · rw [if_neg hud]
            have hB9 := hB8.setCell (p := ⟨w.heap.size, 2, none⟩) (Nat.le_refl _) (.int .i64 0)
            have hcut9 := hcut8.set_ 2 (.int .i64 0)
            have hown9 := own_far hown8 hcut8 (by decide) 2 (.int .i64 0)
            have c29 := hcut9.cell 2
            have c19 := hcut9.cell 1
            have hres := Hfin.out
            rw [if_neg hud, ← Hout.out, List.length_drop, Hrl.out, show l - (l - at2) = at2 from by omega] at hres
            have Hres := Lib.hid hres
            obtain ⟨_, _, hv, h1, h2⟩ := own_shape hown9
            injection hv with hA hn' hc'
            subst hA hc'
            clear hres hcut8 hcut9 Hfin
            go_wp2
            go_region
            all_goals
              go_wp2
              go_ret3
              unfold Got3
              rw [Hres.out]
              simp only [Hlen.out]
              exact ⟨hB9.drew, A1, c1, rfl, h1, h2, own_mono hown9 (Nat.le_of_lt hwB)⟩
end Go.Proofs.Ytckaohkhknoocaa
